/-
  The functions that a law reaches, each as a pure function, with the proof that the program computes it, and the step from a pure law to the given statement. Conditions: none.
-/
import Derived.Test.YtammomfkamhhdaaT1
set_option linter.unusedVariables false
set_option maxRecDepth 100000
set_option maxHeartbeats 4000000
namespace Go.Proofs.Ytammomfkamhhdaa
open Go Sl

/-- loop.example/g00950/spec.l3Quarter -/
noncomputable def spec_l3Quarter (s : List Int) (a : Int) (b : Int) (c : Int) (d : Int) : Option (List Int) :=
  (idx s a).bind fun E1 =>
  (idx s b).bind fun E3 =>
  (spec_l3Word (IntKind.i64.wrap (E1 + E3))).bind fun R5 =>
  (idx (s.set a.toNat R5) d).bind fun E10 =>
  (idx (s.set a.toNat R5) a).bind fun E12 =>
  (spec_l3Left (ixor .i64 E10 E12) (16 : Int)).bind fun R14 =>
  (idx ((s.set a.toNat R5).set d.toNat R14) c).bind fun E19 =>
  (idx ((s.set a.toNat R5).set d.toNat R14) d).bind fun E21 =>
  (spec_l3Word (IntKind.i64.wrap (E19 + E21))).bind fun R23 =>
  (idx (((s.set a.toNat R5).set d.toNat R14).set c.toNat R23) b).bind fun E28 =>
  (idx (((s.set a.toNat R5).set d.toNat R14).set c.toNat R23) c).bind fun E30 =>
  (spec_l3Left (ixor .i64 E28 E30) (12 : Int)).bind fun R32 =>
  (idx ((((s.set a.toNat R5).set d.toNat R14).set c.toNat R23).set b.toNat R32) a).bind fun E37 =>
  (idx ((((s.set a.toNat R5).set d.toNat R14).set c.toNat R23).set b.toNat R32) b).bind fun E39 =>
  (spec_l3Word (IntKind.i64.wrap (E37 + E39))).bind fun R41 =>
  (idx (((((s.set a.toNat R5).set d.toNat R14).set c.toNat R23).set b.toNat R32).set a.toNat R41) d).bind fun E46 =>
  (idx (((((s.set a.toNat R5).set d.toNat R14).set c.toNat R23).set b.toNat R32).set a.toNat R41) a).bind fun E48 =>
  (spec_l3Left (ixor .i64 E46 E48) (8 : Int)).bind fun R50 =>
  (idx ((((((s.set a.toNat R5).set d.toNat R14).set c.toNat R23).set b.toNat R32).set a.toNat R41).set d.toNat R50) c).bind fun E55 =>
  (idx ((((((s.set a.toNat R5).set d.toNat R14).set c.toNat R23).set b.toNat R32).set a.toNat R41).set d.toNat R50) d).bind fun E57 =>
  (spec_l3Word (IntKind.i64.wrap (E55 + E57))).bind fun R59 =>
  (idx (((((((s.set a.toNat R5).set d.toNat R14).set c.toNat R23).set b.toNat R32).set a.toNat R41).set d.toNat R50).set c.toNat R59) b).bind fun E64 =>
  (idx (((((((s.set a.toNat R5).set d.toNat R14).set c.toNat R23).set b.toNat R32).set a.toNat R41).set d.toNat R50).set c.toNat R59) c).bind fun E66 =>
  (spec_l3Left (ixor .i64 E64 E66) (7 : Int)).bind fun R68 =>
  some ((((((((s.set a.toNat R5).set d.toNat R14).set c.toNat R23).set b.toNat R32).set a.toNat R41).set d.toNat R50).set c.toNat R59).set b.toNat R68)

theorem spec_l3Quarter_con (s : List Int) (a : Int) (b : Int) (c : Int) (d : Int) (V_s0 : Value) (r : List Int) (hm : spec_l3Quarter s a b c d = some r) :
    Con Try.prog 63 [V_s0, .int .i64 a, .int .i64 b, .int .i64 c, .int .i64 d] [.own V_s0 (lc s)] [] (fun X : Value => X) (fun X => [.own X (lc r)]) := by
  refine Con.intro (args := [V_s0, .int .i64 a, .int .i64 b, .int .i64 c, .int .i64 d]) (n := 116) (val := fun _ (X : Value) => X) (post := fun r X => [.own X (lc r)]) (m := spec_l3Quarter s a b c d) Try.func63 rfl rfl rfl hm ?_
  intro w S _
  unfold spec_l3Quarter
  refine TW.seq ?_
  refine TW.region ?_
  refine TO.y (Y.assign rfl) rfl rfl rfl ?_
  refine TO.nil ?_
  refine TE.next ?_
  refine TW.seq ?_
  refine TW.bind fun E1 H2 => ?_
  refine TW.bind fun E3 H4 => ?_
  refine TW.bind fun R5 H6 => ?_
  refine TW.joinU (X := Unit) (fun _ _ => [(0, V_s0), (1, .int .i64 a), (2, .int .i64 b), (3, .int .i64 c), (4, .int .i64 d)]) (fun _ _ => [.own V_s0 (lc (s.set a.toNat R5))]) ?_ (fun _ X9 => ?_)
  · refine TW.draw (isH := []) hMix ?_
    refine TA.y (listed' := #[true, false, false, false, false, false, false, false, false, false, false, false, false, false]) 0 [] rfl (Y.move rfl) rfl rfl rfl (by kernel_rfl) (by kernel_rfl) (by kernel_rfl) rfl rfl ?_
    refine TA.y (listed' := #[true, true, false, false, false, false, false, false, false, false, false, false, false, false]) 1 [] rfl (Y.move rfl) rfl rfl rfl (by kernel_rfl) (by kernel_rfl) (by kernel_rfl) rfl rfl ?_
    refine TA.y (listed' := #[true, true, true, false, false, false, false, false, false, false, false, false, false, false]) 2 [] rfl (Y.move rfl) rfl rfl rfl (by kernel_rfl) (by kernel_rfl) (by kernel_rfl) rfl rfl ?_
    refine TA.y (listed' := #[true, true, true, true, false, false, false, false, false, false, false, false, false, false]) 3 [] rfl (Y.move rfl) rfl rfl rfl (by kernel_rfl) (by kernel_rfl) (by kernel_rfl) rfl rfl ?_
    refine TA.y (listed' := #[true, true, true, true, false, false, true, false, false, false, false, false, false, false]) 6 [] rfl (Y.move rfl) rfl rfl rfl (by kernel_rfl) (by kernel_rfl) (by kernel_rfl) rfl rfl ?_
    refine TA.y (listed' := #[true, true, true, true, false, false, true, true, false, false, false, false, false, false]) 7 [] rfl (Y.move rfl) rfl rfl rfl (by kernel_rfl) (by kernel_rfl) (by kernel_rfl) rfl rfl ?_
    refine TA.two 4 8 (by kernel_rfl) ?_ ?_
    · refine TX.y (listed' := #[true, true, true, true, true, false, true, true, false, false, false, false, false, false]) [] rfl (Y.index ke24 (Can.own 0 rfl) H2 rfl rfl) rfl rfl rfl rfl rfl ?_
      refine TA.two 5 8 (by kernel_rfl) ?_ ?_
      · refine TX.y (listed' := #[true, true, true, true, true, true, true, true, false, false, false, false, false, false]) [] rfl (Y.load_el (us := [.int .i64 E1]) (u := .int .i64 E1) kk3 rfl (Can.own 0 rfl) (idx_get H2).2.2 rfl rfl rfl rfl rfl) rfl rfl rfl rfl rfl ?_
        refine TA.one 8 (by kernel_rfl) ?_
        refine TX.y (listed' := #[true, true, true, true, true, true, true, true, true, false, false, false, false, false]) [] rfl (Y.index ke24 (Can.own 0 rfl) H4 rfl rfl) rfl rfl rfl rfl rfl ?_
        refine TA.one 9 (by kernel_rfl) ?_
        refine TX.y (listed' := #[true, true, true, true, true, true, true, true, true, true, false, false, false, false]) [] rfl (Y.load_el (us := [.int .i64 E3]) (u := .int .i64 E3) kk3 rfl (Can.own 0 rfl) (idx_get H4).2.2 rfl rfl rfl rfl rfl) rfl rfl rfl rfl rfl ?_
        refine TA.y (listed' := #[true, true, true, true, true, true, true, true, true, true, true, false, false, false]) 10 [] rfl (Y.add rfl rfl) rfl rfl rfl (by kernel_rfl) (by kernel_rfl) (by kernel_rfl) rfl rfl ?_
        refine TA.one 11 (by kernel_rfl) ?_
        refine TX.ef (listed' := #[true, true, true, true, true, true, true, true, true, true, true, true, false, false]) [] rfl (Ef.call (rest := [.own V_s0 (lc s)]) [0] (spec_l3Word_con (IntKind.i64.wrap (E1 + E3))  R5 H6) kc64 rfl rfl trivial) rfl rfl rfl rfl (fun _ => rfl) (fun _ => ?_)
        refine TA.one 12 (by kernel_rfl) ?_
        refine TX.y (listed' := #[true, true, true, true, true, true, true, true, true, true, true, true, true, false]) [] rfl (Y.index ke24 (Can.own 0 rfl) H2 rfl rfl) rfl rfl rfl rfl rfl ?_
        refine TA.one 13 (by kernel_rfl) ?_
        refine TX.ef0 (listed' := #[true, true, true, true, true, true, true, true, true, true, true, true, true, true]) [] rfl (Ef.store_el (us := [.int .i64 R5]) (is' := [.own V_s0 (lc (s.set a.toNat R5))]) R5 0 kk3 rfl rfl (idx_get H2).2.2 rfl rfl (Cel.plain rfl rfl) rfl rfl rfl rfl) rfl rfl rfl (fun _ => rfl) (fun _ => ?_)
        refine TA.nil (by kernel_rfl) ?_
        exact TE.jb_go () [0] ⟨rfl, rfl, rfl, rfl, rfl, trivial⟩ rfl
      · refine TX.y (listed' := #[true, true, true, true, true, false, true, true, true, false, false, false, false, false]) [] rfl (Y.index ke24 (Can.own 0 rfl) H4 rfl rfl) rfl rfl rfl rfl rfl ?_
        refine TA.two 5 9 (by kernel_rfl) ?_ ?_
        · refine TX.y (listed' := #[true, true, true, true, true, true, true, true, true, false, false, false, false, false]) [] rfl (Y.load_el (us := [.int .i64 E1]) (u := .int .i64 E1) kk3 rfl (Can.own 0 rfl) (idx_get H2).2.2 rfl rfl rfl rfl rfl) rfl rfl rfl rfl rfl ?_
          refine TA.one 9 (by kernel_rfl) ?_
          refine TX.y (listed' := #[true, true, true, true, true, true, true, true, true, true, false, false, false, false]) [] rfl (Y.load_el (us := [.int .i64 E3]) (u := .int .i64 E3) kk3 rfl (Can.own 0 rfl) (idx_get H4).2.2 rfl rfl rfl rfl rfl) rfl rfl rfl rfl rfl ?_
          refine TA.y (listed' := #[true, true, true, true, true, true, true, true, true, true, true, false, false, false]) 10 [] rfl (Y.add rfl rfl) rfl rfl rfl (by kernel_rfl) (by kernel_rfl) (by kernel_rfl) rfl rfl ?_
          refine TA.one 11 (by kernel_rfl) ?_
          refine TX.ef (listed' := #[true, true, true, true, true, true, true, true, true, true, true, true, false, false]) [] rfl (Ef.call (rest := [.own V_s0 (lc s)]) [0] (spec_l3Word_con (IntKind.i64.wrap (E1 + E3))  R5 H6) kc64 rfl rfl trivial) rfl rfl rfl rfl (fun _ => rfl) (fun _ => ?_)
          refine TA.one 12 (by kernel_rfl) ?_
          refine TX.y (listed' := #[true, true, true, true, true, true, true, true, true, true, true, true, true, false]) [] rfl (Y.index ke24 (Can.own 0 rfl) H2 rfl rfl) rfl rfl rfl rfl rfl ?_
          refine TA.one 13 (by kernel_rfl) ?_
          refine TX.ef0 (listed' := #[true, true, true, true, true, true, true, true, true, true, true, true, true, true]) [] rfl (Ef.store_el (us := [.int .i64 R5]) (is' := [.own V_s0 (lc (s.set a.toNat R5))]) R5 0 kk3 rfl rfl (idx_get H2).2.2 rfl rfl (Cel.plain rfl rfl) rfl rfl rfl rfl) rfl rfl rfl (fun _ => rfl) (fun _ => ?_)
          refine TA.nil (by kernel_rfl) ?_
          exact TE.jb_go () [0] ⟨rfl, rfl, rfl, rfl, rfl, trivial⟩ rfl
        · refine TX.y (listed' := #[true, true, true, true, true, false, true, true, true, true, false, false, false, false]) [] rfl (Y.load_el (us := [.int .i64 E3]) (u := .int .i64 E3) kk3 rfl (Can.own 0 rfl) (idx_get H4).2.2 rfl rfl rfl rfl rfl) rfl rfl rfl rfl rfl ?_
          refine TA.one 5 (by kernel_rfl) ?_
          refine TX.y (listed' := #[true, true, true, true, true, true, true, true, true, true, false, false, false, false]) [] rfl (Y.load_el (us := [.int .i64 E1]) (u := .int .i64 E1) kk3 rfl (Can.own 0 rfl) (idx_get H2).2.2 rfl rfl rfl rfl rfl) rfl rfl rfl rfl rfl ?_
          refine TA.y (listed' := #[true, true, true, true, true, true, true, true, true, true, true, false, false, false]) 10 [] rfl (Y.add rfl rfl) rfl rfl rfl (by kernel_rfl) (by kernel_rfl) (by kernel_rfl) rfl rfl ?_
          refine TA.one 11 (by kernel_rfl) ?_
          refine TX.ef (listed' := #[true, true, true, true, true, true, true, true, true, true, true, true, false, false]) [] rfl (Ef.call (rest := [.own V_s0 (lc s)]) [0] (spec_l3Word_con (IntKind.i64.wrap (E1 + E3))  R5 H6) kc64 rfl rfl trivial) rfl rfl rfl rfl (fun _ => rfl) (fun _ => ?_)
          refine TA.one 12 (by kernel_rfl) ?_
          refine TX.y (listed' := #[true, true, true, true, true, true, true, true, true, true, true, true, true, false]) [] rfl (Y.index ke24 (Can.own 0 rfl) H2 rfl rfl) rfl rfl rfl rfl rfl ?_
          refine TA.one 13 (by kernel_rfl) ?_
          refine TX.ef0 (listed' := #[true, true, true, true, true, true, true, true, true, true, true, true, true, true]) [] rfl (Ef.store_el (us := [.int .i64 R5]) (is' := [.own V_s0 (lc (s.set a.toNat R5))]) R5 0 kk3 rfl rfl (idx_get H2).2.2 rfl rfl (Cel.plain rfl rfl) rfl rfl rfl rfl) rfl rfl rfl (fun _ => rfl) (fun _ => ?_)
          refine TA.nil (by kernel_rfl) ?_
          exact TE.jb_go () [0] ⟨rfl, rfl, rfl, rfl, rfl, trivial⟩ rfl
    · refine TX.y (listed' := #[true, true, true, true, false, false, true, true, true, false, false, false, false, false]) [] rfl (Y.index ke24 (Can.own 0 rfl) H4 rfl rfl) rfl rfl rfl rfl rfl ?_
      refine TA.two 4 9 (by kernel_rfl) ?_ ?_
      · refine TX.y (listed' := #[true, true, true, true, true, false, true, true, true, false, false, false, false, false]) [] rfl (Y.index ke24 (Can.own 0 rfl) H2 rfl rfl) rfl rfl rfl rfl rfl ?_
        refine TA.two 5 9 (by kernel_rfl) ?_ ?_
        · refine TX.y (listed' := #[true, true, true, true, true, true, true, true, true, false, false, false, false, false]) [] rfl (Y.load_el (us := [.int .i64 E1]) (u := .int .i64 E1) kk3 rfl (Can.own 0 rfl) (idx_get H2).2.2 rfl rfl rfl rfl rfl) rfl rfl rfl rfl rfl ?_
          refine TA.one 9 (by kernel_rfl) ?_
          refine TX.y (listed' := #[true, true, true, true, true, true, true, true, true, true, false, false, false, false]) [] rfl (Y.load_el (us := [.int .i64 E3]) (u := .int .i64 E3) kk3 rfl (Can.own 0 rfl) (idx_get H4).2.2 rfl rfl rfl rfl rfl) rfl rfl rfl rfl rfl ?_
          refine TA.y (listed' := #[true, true, true, true, true, true, true, true, true, true, true, false, false, false]) 10 [] rfl (Y.add rfl rfl) rfl rfl rfl (by kernel_rfl) (by kernel_rfl) (by kernel_rfl) rfl rfl ?_
          refine TA.one 11 (by kernel_rfl) ?_
          refine TX.ef (listed' := #[true, true, true, true, true, true, true, true, true, true, true, true, false, false]) [] rfl (Ef.call (rest := [.own V_s0 (lc s)]) [0] (spec_l3Word_con (IntKind.i64.wrap (E1 + E3))  R5 H6) kc64 rfl rfl trivial) rfl rfl rfl rfl (fun _ => rfl) (fun _ => ?_)
          refine TA.one 12 (by kernel_rfl) ?_
          refine TX.y (listed' := #[true, true, true, true, true, true, true, true, true, true, true, true, true, false]) [] rfl (Y.index ke24 (Can.own 0 rfl) H2 rfl rfl) rfl rfl rfl rfl rfl ?_
          refine TA.one 13 (by kernel_rfl) ?_
          refine TX.ef0 (listed' := #[true, true, true, true, true, true, true, true, true, true, true, true, true, true]) [] rfl (Ef.store_el (us := [.int .i64 R5]) (is' := [.own V_s0 (lc (s.set a.toNat R5))]) R5 0 kk3 rfl rfl (idx_get H2).2.2 rfl rfl (Cel.plain rfl rfl) rfl rfl rfl rfl) rfl rfl rfl (fun _ => rfl) (fun _ => ?_)
          refine TA.nil (by kernel_rfl) ?_
          exact TE.jb_go () [0] ⟨rfl, rfl, rfl, rfl, rfl, trivial⟩ rfl
        · refine TX.y (listed' := #[true, true, true, true, true, false, true, true, true, true, false, false, false, false]) [] rfl (Y.load_el (us := [.int .i64 E3]) (u := .int .i64 E3) kk3 rfl (Can.own 0 rfl) (idx_get H4).2.2 rfl rfl rfl rfl rfl) rfl rfl rfl rfl rfl ?_
          refine TA.one 5 (by kernel_rfl) ?_
          refine TX.y (listed' := #[true, true, true, true, true, true, true, true, true, true, false, false, false, false]) [] rfl (Y.load_el (us := [.int .i64 E1]) (u := .int .i64 E1) kk3 rfl (Can.own 0 rfl) (idx_get H2).2.2 rfl rfl rfl rfl rfl) rfl rfl rfl rfl rfl ?_
          refine TA.y (listed' := #[true, true, true, true, true, true, true, true, true, true, true, false, false, false]) 10 [] rfl (Y.add rfl rfl) rfl rfl rfl (by kernel_rfl) (by kernel_rfl) (by kernel_rfl) rfl rfl ?_
          refine TA.one 11 (by kernel_rfl) ?_
          refine TX.ef (listed' := #[true, true, true, true, true, true, true, true, true, true, true, true, false, false]) [] rfl (Ef.call (rest := [.own V_s0 (lc s)]) [0] (spec_l3Word_con (IntKind.i64.wrap (E1 + E3))  R5 H6) kc64 rfl rfl trivial) rfl rfl rfl rfl (fun _ => rfl) (fun _ => ?_)
          refine TA.one 12 (by kernel_rfl) ?_
          refine TX.y (listed' := #[true, true, true, true, true, true, true, true, true, true, true, true, true, false]) [] rfl (Y.index ke24 (Can.own 0 rfl) H2 rfl rfl) rfl rfl rfl rfl rfl ?_
          refine TA.one 13 (by kernel_rfl) ?_
          refine TX.ef0 (listed' := #[true, true, true, true, true, true, true, true, true, true, true, true, true, true]) [] rfl (Ef.store_el (us := [.int .i64 R5]) (is' := [.own V_s0 (lc (s.set a.toNat R5))]) R5 0 kk3 rfl rfl (idx_get H2).2.2 rfl rfl (Cel.plain rfl rfl) rfl rfl rfl rfl) rfl rfl rfl (fun _ => rfl) (fun _ => ?_)
          refine TA.nil (by kernel_rfl) ?_
          exact TE.jb_go () [0] ⟨rfl, rfl, rfl, rfl, rfl, trivial⟩ rfl
      · refine TX.y (listed' := #[true, true, true, true, false, false, true, true, true, true, false, false, false, false]) [] rfl (Y.load_el (us := [.int .i64 E3]) (u := .int .i64 E3) kk3 rfl (Can.own 0 rfl) (idx_get H4).2.2 rfl rfl rfl rfl rfl) rfl rfl rfl rfl rfl ?_
        refine TA.one 4 (by kernel_rfl) ?_
        refine TX.y (listed' := #[true, true, true, true, true, false, true, true, true, true, false, false, false, false]) [] rfl (Y.index ke24 (Can.own 0 rfl) H2 rfl rfl) rfl rfl rfl rfl rfl ?_
        refine TA.one 5 (by kernel_rfl) ?_
        refine TX.y (listed' := #[true, true, true, true, true, true, true, true, true, true, false, false, false, false]) [] rfl (Y.load_el (us := [.int .i64 E1]) (u := .int .i64 E1) kk3 rfl (Can.own 0 rfl) (idx_get H2).2.2 rfl rfl rfl rfl rfl) rfl rfl rfl rfl rfl ?_
        refine TA.y (listed' := #[true, true, true, true, true, true, true, true, true, true, true, false, false, false]) 10 [] rfl (Y.add rfl rfl) rfl rfl rfl (by kernel_rfl) (by kernel_rfl) (by kernel_rfl) rfl rfl ?_
        refine TA.one 11 (by kernel_rfl) ?_
        refine TX.ef (listed' := #[true, true, true, true, true, true, true, true, true, true, true, true, false, false]) [] rfl (Ef.call (rest := [.own V_s0 (lc s)]) [0] (spec_l3Word_con (IntKind.i64.wrap (E1 + E3))  R5 H6) kc64 rfl rfl trivial) rfl rfl rfl rfl (fun _ => rfl) (fun _ => ?_)
        refine TA.one 12 (by kernel_rfl) ?_
        refine TX.y (listed' := #[true, true, true, true, true, true, true, true, true, true, true, true, true, false]) [] rfl (Y.index ke24 (Can.own 0 rfl) H2 rfl rfl) rfl rfl rfl rfl rfl ?_
        refine TA.one 13 (by kernel_rfl) ?_
        refine TX.ef0 (listed' := #[true, true, true, true, true, true, true, true, true, true, true, true, true, true]) [] rfl (Ef.store_el (us := [.int .i64 R5]) (is' := [.own V_s0 (lc (s.set a.toNat R5))]) R5 0 kk3 rfl rfl (idx_get H2).2.2 rfl rfl (Cel.plain rfl rfl) rfl rfl rfl rfl) rfl rfl rfl (fun _ => rfl) (fun _ => ?_)
        refine TA.nil (by kernel_rfl) ?_
        exact TE.jb_go () [0] ⟨rfl, rfl, rfl, rfl, rfl, trivial⟩ rfl
  · refine TE.next ?_
    refine TW.seq ?_
    refine TW.bind fun E10 H11 => ?_
    refine TW.bind fun E12 H13 => ?_
    refine TW.bind fun R14 H15 => ?_
    refine TW.joinU (X := Unit) (fun _ _ => [(0, V_s0), (1, .int .i64 a), (2, .int .i64 b), (3, .int .i64 c), (4, .int .i64 d)]) (fun _ _ => [.own V_s0 (lc ((s.set a.toNat R5).set d.toNat R14))]) ?_ (fun _ X18 => ?_)
    · refine TW.draw (isH := []) hMix ?_
      refine TA.y (listed' := #[true, false, false, false, false, false, false, false, false, false, false, false, false, false]) 0 [] rfl (Y.move rfl) rfl rfl rfl (by kernel_rfl) (by kernel_rfl) (by kernel_rfl) rfl rfl ?_
      refine TA.y (listed' := #[true, true, false, false, false, false, false, false, false, false, false, false, false, false]) 1 [] rfl (Y.move rfl) rfl rfl rfl (by kernel_rfl) (by kernel_rfl) (by kernel_rfl) rfl rfl ?_
      refine TA.y (listed' := #[true, true, true, false, false, false, false, false, false, false, false, false, false, false]) 2 [] rfl (Y.move rfl) rfl rfl rfl (by kernel_rfl) (by kernel_rfl) (by kernel_rfl) rfl rfl ?_
      refine TA.y (listed' := #[true, true, true, true, false, false, false, false, false, false, false, false, false, false]) 3 [] rfl (Y.move rfl) rfl rfl rfl (by kernel_rfl) (by kernel_rfl) (by kernel_rfl) rfl rfl ?_
      refine TA.y (listed' := #[true, true, true, true, false, false, true, false, false, false, false, false, false, false]) 6 [] rfl (Y.move rfl) rfl rfl rfl (by kernel_rfl) (by kernel_rfl) (by kernel_rfl) rfl rfl ?_
      refine TA.y (listed' := #[true, true, true, true, false, false, true, true, false, false, false, false, false, false]) 7 [] rfl (Y.move rfl) rfl rfl rfl (by kernel_rfl) (by kernel_rfl) (by kernel_rfl) rfl rfl ?_
      refine TA.two 4 8 (by kernel_rfl) ?_ ?_
      · refine TX.y (listed' := #[true, true, true, true, true, false, true, true, false, false, false, false, false, false]) [] rfl (Y.index ke24 (Can.own 0 rfl) H11 rfl rfl) rfl rfl rfl rfl rfl ?_
        refine TA.two 5 8 (by kernel_rfl) ?_ ?_
        · refine TX.y (listed' := #[true, true, true, true, true, true, true, true, false, false, false, false, false, false]) [] rfl (Y.load_el (us := [.int .i64 E10]) (u := .int .i64 E10) kk3 rfl (Can.own 0 rfl) (idx_get H11).2.2 rfl rfl rfl rfl rfl) rfl rfl rfl rfl rfl ?_
          refine TA.one 8 (by kernel_rfl) ?_
          refine TX.y (listed' := #[true, true, true, true, true, true, true, true, true, false, false, false, false, false]) [] rfl (Y.index ke24 (Can.own 0 rfl) H13 rfl rfl) rfl rfl rfl rfl rfl ?_
          refine TA.one 9 (by kernel_rfl) ?_
          refine TX.y (listed' := #[true, true, true, true, true, true, true, true, true, true, false, false, false, false]) [] rfl (Y.load_el (us := [.int .i64 E12]) (u := .int .i64 E12) kk3 rfl (Can.own 0 rfl) (idx_get H13).2.2 rfl rfl rfl rfl rfl) rfl rfl rfl rfl rfl ?_
          refine TA.y (listed' := #[true, true, true, true, true, true, true, true, true, true, true, false, false, false]) 10 [] rfl (Y.xor rfl rfl) rfl rfl rfl (by kernel_rfl) (by kernel_rfl) (by kernel_rfl) rfl rfl ?_
          refine TA.one 11 (by kernel_rfl) ?_
          refine TX.ef (listed' := #[true, true, true, true, true, true, true, true, true, true, true, true, false, false]) [] rfl (Ef.call (rest := [.own V_s0 (lc (s.set a.toNat R5))]) [0] (spec_l3Left_con (ixor .i64 E10 E12) (16 : Int)  R14 H15) kc65 rfl rfl trivial) rfl rfl rfl rfl (fun _ => rfl) (fun _ => ?_)
          refine TA.one 12 (by kernel_rfl) ?_
          refine TX.y (listed' := #[true, true, true, true, true, true, true, true, true, true, true, true, true, false]) [] rfl (Y.index ke24 (Can.own 0 rfl) H11 rfl rfl) rfl rfl rfl rfl rfl ?_
          refine TA.one 13 (by kernel_rfl) ?_
          refine TX.ef0 (listed' := #[true, true, true, true, true, true, true, true, true, true, true, true, true, true]) [] rfl (Ef.store_el (us := [.int .i64 R14]) (is' := [.own V_s0 (lc ((s.set a.toNat R5).set d.toNat R14))]) R14 0 kk3 rfl rfl (idx_get H11).2.2 rfl rfl (Cel.plain rfl rfl) rfl rfl rfl rfl) rfl rfl rfl (fun _ => rfl) (fun _ => ?_)
          refine TA.nil (by kernel_rfl) ?_
          exact TE.jb_go () [0] ⟨rfl, rfl, rfl, rfl, rfl, trivial⟩ rfl
        · refine TX.y (listed' := #[true, true, true, true, true, false, true, true, true, false, false, false, false, false]) [] rfl (Y.index ke24 (Can.own 0 rfl) H13 rfl rfl) rfl rfl rfl rfl rfl ?_
          refine TA.two 5 9 (by kernel_rfl) ?_ ?_
          · refine TX.y (listed' := #[true, true, true, true, true, true, true, true, true, false, false, false, false, false]) [] rfl (Y.load_el (us := [.int .i64 E10]) (u := .int .i64 E10) kk3 rfl (Can.own 0 rfl) (idx_get H11).2.2 rfl rfl rfl rfl rfl) rfl rfl rfl rfl rfl ?_
            refine TA.one 9 (by kernel_rfl) ?_
            refine TX.y (listed' := #[true, true, true, true, true, true, true, true, true, true, false, false, false, false]) [] rfl (Y.load_el (us := [.int .i64 E12]) (u := .int .i64 E12) kk3 rfl (Can.own 0 rfl) (idx_get H13).2.2 rfl rfl rfl rfl rfl) rfl rfl rfl rfl rfl ?_
            refine TA.y (listed' := #[true, true, true, true, true, true, true, true, true, true, true, false, false, false]) 10 [] rfl (Y.xor rfl rfl) rfl rfl rfl (by kernel_rfl) (by kernel_rfl) (by kernel_rfl) rfl rfl ?_
            refine TA.one 11 (by kernel_rfl) ?_
            refine TX.ef (listed' := #[true, true, true, true, true, true, true, true, true, true, true, true, false, false]) [] rfl (Ef.call (rest := [.own V_s0 (lc (s.set a.toNat R5))]) [0] (spec_l3Left_con (ixor .i64 E10 E12) (16 : Int)  R14 H15) kc65 rfl rfl trivial) rfl rfl rfl rfl (fun _ => rfl) (fun _ => ?_)
            refine TA.one 12 (by kernel_rfl) ?_
            refine TX.y (listed' := #[true, true, true, true, true, true, true, true, true, true, true, true, true, false]) [] rfl (Y.index ke24 (Can.own 0 rfl) H11 rfl rfl) rfl rfl rfl rfl rfl ?_
            refine TA.one 13 (by kernel_rfl) ?_
            refine TX.ef0 (listed' := #[true, true, true, true, true, true, true, true, true, true, true, true, true, true]) [] rfl (Ef.store_el (us := [.int .i64 R14]) (is' := [.own V_s0 (lc ((s.set a.toNat R5).set d.toNat R14))]) R14 0 kk3 rfl rfl (idx_get H11).2.2 rfl rfl (Cel.plain rfl rfl) rfl rfl rfl rfl) rfl rfl rfl (fun _ => rfl) (fun _ => ?_)
            refine TA.nil (by kernel_rfl) ?_
            exact TE.jb_go () [0] ⟨rfl, rfl, rfl, rfl, rfl, trivial⟩ rfl
          · refine TX.y (listed' := #[true, true, true, true, true, false, true, true, true, true, false, false, false, false]) [] rfl (Y.load_el (us := [.int .i64 E12]) (u := .int .i64 E12) kk3 rfl (Can.own 0 rfl) (idx_get H13).2.2 rfl rfl rfl rfl rfl) rfl rfl rfl rfl rfl ?_
            refine TA.one 5 (by kernel_rfl) ?_
            refine TX.y (listed' := #[true, true, true, true, true, true, true, true, true, true, false, false, false, false]) [] rfl (Y.load_el (us := [.int .i64 E10]) (u := .int .i64 E10) kk3 rfl (Can.own 0 rfl) (idx_get H11).2.2 rfl rfl rfl rfl rfl) rfl rfl rfl rfl rfl ?_
            refine TA.y (listed' := #[true, true, true, true, true, true, true, true, true, true, true, false, false, false]) 10 [] rfl (Y.xor rfl rfl) rfl rfl rfl (by kernel_rfl) (by kernel_rfl) (by kernel_rfl) rfl rfl ?_
            refine TA.one 11 (by kernel_rfl) ?_
            refine TX.ef (listed' := #[true, true, true, true, true, true, true, true, true, true, true, true, false, false]) [] rfl (Ef.call (rest := [.own V_s0 (lc (s.set a.toNat R5))]) [0] (spec_l3Left_con (ixor .i64 E10 E12) (16 : Int)  R14 H15) kc65 rfl rfl trivial) rfl rfl rfl rfl (fun _ => rfl) (fun _ => ?_)
            refine TA.one 12 (by kernel_rfl) ?_
            refine TX.y (listed' := #[true, true, true, true, true, true, true, true, true, true, true, true, true, false]) [] rfl (Y.index ke24 (Can.own 0 rfl) H11 rfl rfl) rfl rfl rfl rfl rfl ?_
            refine TA.one 13 (by kernel_rfl) ?_
            refine TX.ef0 (listed' := #[true, true, true, true, true, true, true, true, true, true, true, true, true, true]) [] rfl (Ef.store_el (us := [.int .i64 R14]) (is' := [.own V_s0 (lc ((s.set a.toNat R5).set d.toNat R14))]) R14 0 kk3 rfl rfl (idx_get H11).2.2 rfl rfl (Cel.plain rfl rfl) rfl rfl rfl rfl) rfl rfl rfl (fun _ => rfl) (fun _ => ?_)
            refine TA.nil (by kernel_rfl) ?_
            exact TE.jb_go () [0] ⟨rfl, rfl, rfl, rfl, rfl, trivial⟩ rfl
      · refine TX.y (listed' := #[true, true, true, true, false, false, true, true, true, false, false, false, false, false]) [] rfl (Y.index ke24 (Can.own 0 rfl) H13 rfl rfl) rfl rfl rfl rfl rfl ?_
        refine TA.two 4 9 (by kernel_rfl) ?_ ?_
        · refine TX.y (listed' := #[true, true, true, true, true, false, true, true, true, false, false, false, false, false]) [] rfl (Y.index ke24 (Can.own 0 rfl) H11 rfl rfl) rfl rfl rfl rfl rfl ?_
          refine TA.two 5 9 (by kernel_rfl) ?_ ?_
          · refine TX.y (listed' := #[true, true, true, true, true, true, true, true, true, false, false, false, false, false]) [] rfl (Y.load_el (us := [.int .i64 E10]) (u := .int .i64 E10) kk3 rfl (Can.own 0 rfl) (idx_get H11).2.2 rfl rfl rfl rfl rfl) rfl rfl rfl rfl rfl ?_
            refine TA.one 9 (by kernel_rfl) ?_
            refine TX.y (listed' := #[true, true, true, true, true, true, true, true, true, true, false, false, false, false]) [] rfl (Y.load_el (us := [.int .i64 E12]) (u := .int .i64 E12) kk3 rfl (Can.own 0 rfl) (idx_get H13).2.2 rfl rfl rfl rfl rfl) rfl rfl rfl rfl rfl ?_
            refine TA.y (listed' := #[true, true, true, true, true, true, true, true, true, true, true, false, false, false]) 10 [] rfl (Y.xor rfl rfl) rfl rfl rfl (by kernel_rfl) (by kernel_rfl) (by kernel_rfl) rfl rfl ?_
            refine TA.one 11 (by kernel_rfl) ?_
            refine TX.ef (listed' := #[true, true, true, true, true, true, true, true, true, true, true, true, false, false]) [] rfl (Ef.call (rest := [.own V_s0 (lc (s.set a.toNat R5))]) [0] (spec_l3Left_con (ixor .i64 E10 E12) (16 : Int)  R14 H15) kc65 rfl rfl trivial) rfl rfl rfl rfl (fun _ => rfl) (fun _ => ?_)
            refine TA.one 12 (by kernel_rfl) ?_
            refine TX.y (listed' := #[true, true, true, true, true, true, true, true, true, true, true, true, true, false]) [] rfl (Y.index ke24 (Can.own 0 rfl) H11 rfl rfl) rfl rfl rfl rfl rfl ?_
            refine TA.one 13 (by kernel_rfl) ?_
            refine TX.ef0 (listed' := #[true, true, true, true, true, true, true, true, true, true, true, true, true, true]) [] rfl (Ef.store_el (us := [.int .i64 R14]) (is' := [.own V_s0 (lc ((s.set a.toNat R5).set d.toNat R14))]) R14 0 kk3 rfl rfl (idx_get H11).2.2 rfl rfl (Cel.plain rfl rfl) rfl rfl rfl rfl) rfl rfl rfl (fun _ => rfl) (fun _ => ?_)
            refine TA.nil (by kernel_rfl) ?_
            exact TE.jb_go () [0] ⟨rfl, rfl, rfl, rfl, rfl, trivial⟩ rfl
          · refine TX.y (listed' := #[true, true, true, true, true, false, true, true, true, true, false, false, false, false]) [] rfl (Y.load_el (us := [.int .i64 E12]) (u := .int .i64 E12) kk3 rfl (Can.own 0 rfl) (idx_get H13).2.2 rfl rfl rfl rfl rfl) rfl rfl rfl rfl rfl ?_
            refine TA.one 5 (by kernel_rfl) ?_
            refine TX.y (listed' := #[true, true, true, true, true, true, true, true, true, true, false, false, false, false]) [] rfl (Y.load_el (us := [.int .i64 E10]) (u := .int .i64 E10) kk3 rfl (Can.own 0 rfl) (idx_get H11).2.2 rfl rfl rfl rfl rfl) rfl rfl rfl rfl rfl ?_
            refine TA.y (listed' := #[true, true, true, true, true, true, true, true, true, true, true, false, false, false]) 10 [] rfl (Y.xor rfl rfl) rfl rfl rfl (by kernel_rfl) (by kernel_rfl) (by kernel_rfl) rfl rfl ?_
            refine TA.one 11 (by kernel_rfl) ?_
            refine TX.ef (listed' := #[true, true, true, true, true, true, true, true, true, true, true, true, false, false]) [] rfl (Ef.call (rest := [.own V_s0 (lc (s.set a.toNat R5))]) [0] (spec_l3Left_con (ixor .i64 E10 E12) (16 : Int)  R14 H15) kc65 rfl rfl trivial) rfl rfl rfl rfl (fun _ => rfl) (fun _ => ?_)
            refine TA.one 12 (by kernel_rfl) ?_
            refine TX.y (listed' := #[true, true, true, true, true, true, true, true, true, true, true, true, true, false]) [] rfl (Y.index ke24 (Can.own 0 rfl) H11 rfl rfl) rfl rfl rfl rfl rfl ?_
            refine TA.one 13 (by kernel_rfl) ?_
            refine TX.ef0 (listed' := #[true, true, true, true, true, true, true, true, true, true, true, true, true, true]) [] rfl (Ef.store_el (us := [.int .i64 R14]) (is' := [.own V_s0 (lc ((s.set a.toNat R5).set d.toNat R14))]) R14 0 kk3 rfl rfl (idx_get H11).2.2 rfl rfl (Cel.plain rfl rfl) rfl rfl rfl rfl) rfl rfl rfl (fun _ => rfl) (fun _ => ?_)
            refine TA.nil (by kernel_rfl) ?_
            exact TE.jb_go () [0] ⟨rfl, rfl, rfl, rfl, rfl, trivial⟩ rfl
        · refine TX.y (listed' := #[true, true, true, true, false, false, true, true, true, true, false, false, false, false]) [] rfl (Y.load_el (us := [.int .i64 E12]) (u := .int .i64 E12) kk3 rfl (Can.own 0 rfl) (idx_get H13).2.2 rfl rfl rfl rfl rfl) rfl rfl rfl rfl rfl ?_
          refine TA.one 4 (by kernel_rfl) ?_
          refine TX.y (listed' := #[true, true, true, true, true, false, true, true, true, true, false, false, false, false]) [] rfl (Y.index ke24 (Can.own 0 rfl) H11 rfl rfl) rfl rfl rfl rfl rfl ?_
          refine TA.one 5 (by kernel_rfl) ?_
          refine TX.y (listed' := #[true, true, true, true, true, true, true, true, true, true, false, false, false, false]) [] rfl (Y.load_el (us := [.int .i64 E10]) (u := .int .i64 E10) kk3 rfl (Can.own 0 rfl) (idx_get H11).2.2 rfl rfl rfl rfl rfl) rfl rfl rfl rfl rfl ?_
          refine TA.y (listed' := #[true, true, true, true, true, true, true, true, true, true, true, false, false, false]) 10 [] rfl (Y.xor rfl rfl) rfl rfl rfl (by kernel_rfl) (by kernel_rfl) (by kernel_rfl) rfl rfl ?_
          refine TA.one 11 (by kernel_rfl) ?_
          refine TX.ef (listed' := #[true, true, true, true, true, true, true, true, true, true, true, true, false, false]) [] rfl (Ef.call (rest := [.own V_s0 (lc (s.set a.toNat R5))]) [0] (spec_l3Left_con (ixor .i64 E10 E12) (16 : Int)  R14 H15) kc65 rfl rfl trivial) rfl rfl rfl rfl (fun _ => rfl) (fun _ => ?_)
          refine TA.one 12 (by kernel_rfl) ?_
          refine TX.y (listed' := #[true, true, true, true, true, true, true, true, true, true, true, true, true, false]) [] rfl (Y.index ke24 (Can.own 0 rfl) H11 rfl rfl) rfl rfl rfl rfl rfl ?_
          refine TA.one 13 (by kernel_rfl) ?_
          refine TX.ef0 (listed' := #[true, true, true, true, true, true, true, true, true, true, true, true, true, true]) [] rfl (Ef.store_el (us := [.int .i64 R14]) (is' := [.own V_s0 (lc ((s.set a.toNat R5).set d.toNat R14))]) R14 0 kk3 rfl rfl (idx_get H11).2.2 rfl rfl (Cel.plain rfl rfl) rfl rfl rfl rfl) rfl rfl rfl (fun _ => rfl) (fun _ => ?_)
          refine TA.nil (by kernel_rfl) ?_
          exact TE.jb_go () [0] ⟨rfl, rfl, rfl, rfl, rfl, trivial⟩ rfl
    · refine TE.next ?_
      refine TW.seq ?_
      refine TW.bind fun E19 H20 => ?_
      refine TW.bind fun E21 H22 => ?_
      refine TW.bind fun R23 H24 => ?_
      refine TW.joinU (X := Unit) (fun _ _ => [(0, V_s0), (1, .int .i64 a), (2, .int .i64 b), (3, .int .i64 c), (4, .int .i64 d)]) (fun _ _ => [.own V_s0 (lc (((s.set a.toNat R5).set d.toNat R14).set c.toNat R23))]) ?_ (fun _ X27 => ?_)
      · refine TW.draw (isH := []) hMix ?_
        refine TA.y (listed' := #[true, false, false, false, false, false, false, false, false, false, false, false, false, false]) 0 [] rfl (Y.move rfl) rfl rfl rfl (by kernel_rfl) (by kernel_rfl) (by kernel_rfl) rfl rfl ?_
        refine TA.y (listed' := #[true, true, false, false, false, false, false, false, false, false, false, false, false, false]) 1 [] rfl (Y.move rfl) rfl rfl rfl (by kernel_rfl) (by kernel_rfl) (by kernel_rfl) rfl rfl ?_
        refine TA.y (listed' := #[true, true, true, false, false, false, false, false, false, false, false, false, false, false]) 2 [] rfl (Y.move rfl) rfl rfl rfl (by kernel_rfl) (by kernel_rfl) (by kernel_rfl) rfl rfl ?_
        refine TA.y (listed' := #[true, true, true, true, false, false, false, false, false, false, false, false, false, false]) 3 [] rfl (Y.move rfl) rfl rfl rfl (by kernel_rfl) (by kernel_rfl) (by kernel_rfl) rfl rfl ?_
        refine TA.y (listed' := #[true, true, true, true, false, false, true, false, false, false, false, false, false, false]) 6 [] rfl (Y.move rfl) rfl rfl rfl (by kernel_rfl) (by kernel_rfl) (by kernel_rfl) rfl rfl ?_
        refine TA.y (listed' := #[true, true, true, true, false, false, true, true, false, false, false, false, false, false]) 7 [] rfl (Y.move rfl) rfl rfl rfl (by kernel_rfl) (by kernel_rfl) (by kernel_rfl) rfl rfl ?_
        refine TA.two 4 8 (by kernel_rfl) ?_ ?_
        · refine TX.y (listed' := #[true, true, true, true, true, false, true, true, false, false, false, false, false, false]) [] rfl (Y.index ke24 (Can.own 0 rfl) H20 rfl rfl) rfl rfl rfl rfl rfl ?_
          refine TA.two 5 8 (by kernel_rfl) ?_ ?_
          · refine TX.y (listed' := #[true, true, true, true, true, true, true, true, false, false, false, false, false, false]) [] rfl (Y.load_el (us := [.int .i64 E19]) (u := .int .i64 E19) kk3 rfl (Can.own 0 rfl) (idx_get H20).2.2 rfl rfl rfl rfl rfl) rfl rfl rfl rfl rfl ?_
            refine TA.one 8 (by kernel_rfl) ?_
            refine TX.y (listed' := #[true, true, true, true, true, true, true, true, true, false, false, false, false, false]) [] rfl (Y.index ke24 (Can.own 0 rfl) H22 rfl rfl) rfl rfl rfl rfl rfl ?_
            refine TA.one 9 (by kernel_rfl) ?_
            refine TX.y (listed' := #[true, true, true, true, true, true, true, true, true, true, false, false, false, false]) [] rfl (Y.load_el (us := [.int .i64 E21]) (u := .int .i64 E21) kk3 rfl (Can.own 0 rfl) (idx_get H22).2.2 rfl rfl rfl rfl rfl) rfl rfl rfl rfl rfl ?_
            refine TA.y (listed' := #[true, true, true, true, true, true, true, true, true, true, true, false, false, false]) 10 [] rfl (Y.add rfl rfl) rfl rfl rfl (by kernel_rfl) (by kernel_rfl) (by kernel_rfl) rfl rfl ?_
            refine TA.one 11 (by kernel_rfl) ?_
            refine TX.ef (listed' := #[true, true, true, true, true, true, true, true, true, true, true, true, false, false]) [] rfl (Ef.call (rest := [.own V_s0 (lc ((s.set a.toNat R5).set d.toNat R14))]) [0] (spec_l3Word_con (IntKind.i64.wrap (E19 + E21))  R23 H24) kc64 rfl rfl trivial) rfl rfl rfl rfl (fun _ => rfl) (fun _ => ?_)
            refine TA.one 12 (by kernel_rfl) ?_
            refine TX.y (listed' := #[true, true, true, true, true, true, true, true, true, true, true, true, true, false]) [] rfl (Y.index ke24 (Can.own 0 rfl) H20 rfl rfl) rfl rfl rfl rfl rfl ?_
            refine TA.one 13 (by kernel_rfl) ?_
            refine TX.ef0 (listed' := #[true, true, true, true, true, true, true, true, true, true, true, true, true, true]) [] rfl (Ef.store_el (us := [.int .i64 R23]) (is' := [.own V_s0 (lc (((s.set a.toNat R5).set d.toNat R14).set c.toNat R23))]) R23 0 kk3 rfl rfl (idx_get H20).2.2 rfl rfl (Cel.plain rfl rfl) rfl rfl rfl rfl) rfl rfl rfl (fun _ => rfl) (fun _ => ?_)
            refine TA.nil (by kernel_rfl) ?_
            exact TE.jb_go () [0] ⟨rfl, rfl, rfl, rfl, rfl, trivial⟩ rfl
          · refine TX.y (listed' := #[true, true, true, true, true, false, true, true, true, false, false, false, false, false]) [] rfl (Y.index ke24 (Can.own 0 rfl) H22 rfl rfl) rfl rfl rfl rfl rfl ?_
            refine TA.two 5 9 (by kernel_rfl) ?_ ?_
            · refine TX.y (listed' := #[true, true, true, true, true, true, true, true, true, false, false, false, false, false]) [] rfl (Y.load_el (us := [.int .i64 E19]) (u := .int .i64 E19) kk3 rfl (Can.own 0 rfl) (idx_get H20).2.2 rfl rfl rfl rfl rfl) rfl rfl rfl rfl rfl ?_
              refine TA.one 9 (by kernel_rfl) ?_
              refine TX.y (listed' := #[true, true, true, true, true, true, true, true, true, true, false, false, false, false]) [] rfl (Y.load_el (us := [.int .i64 E21]) (u := .int .i64 E21) kk3 rfl (Can.own 0 rfl) (idx_get H22).2.2 rfl rfl rfl rfl rfl) rfl rfl rfl rfl rfl ?_
              refine TA.y (listed' := #[true, true, true, true, true, true, true, true, true, true, true, false, false, false]) 10 [] rfl (Y.add rfl rfl) rfl rfl rfl (by kernel_rfl) (by kernel_rfl) (by kernel_rfl) rfl rfl ?_
              refine TA.one 11 (by kernel_rfl) ?_
              refine TX.ef (listed' := #[true, true, true, true, true, true, true, true, true, true, true, true, false, false]) [] rfl (Ef.call (rest := [.own V_s0 (lc ((s.set a.toNat R5).set d.toNat R14))]) [0] (spec_l3Word_con (IntKind.i64.wrap (E19 + E21))  R23 H24) kc64 rfl rfl trivial) rfl rfl rfl rfl (fun _ => rfl) (fun _ => ?_)
              refine TA.one 12 (by kernel_rfl) ?_
              refine TX.y (listed' := #[true, true, true, true, true, true, true, true, true, true, true, true, true, false]) [] rfl (Y.index ke24 (Can.own 0 rfl) H20 rfl rfl) rfl rfl rfl rfl rfl ?_
              refine TA.one 13 (by kernel_rfl) ?_
              refine TX.ef0 (listed' := #[true, true, true, true, true, true, true, true, true, true, true, true, true, true]) [] rfl (Ef.store_el (us := [.int .i64 R23]) (is' := [.own V_s0 (lc (((s.set a.toNat R5).set d.toNat R14).set c.toNat R23))]) R23 0 kk3 rfl rfl (idx_get H20).2.2 rfl rfl (Cel.plain rfl rfl) rfl rfl rfl rfl) rfl rfl rfl (fun _ => rfl) (fun _ => ?_)
              refine TA.nil (by kernel_rfl) ?_
              exact TE.jb_go () [0] ⟨rfl, rfl, rfl, rfl, rfl, trivial⟩ rfl
            · refine TX.y (listed' := #[true, true, true, true, true, false, true, true, true, true, false, false, false, false]) [] rfl (Y.load_el (us := [.int .i64 E21]) (u := .int .i64 E21) kk3 rfl (Can.own 0 rfl) (idx_get H22).2.2 rfl rfl rfl rfl rfl) rfl rfl rfl rfl rfl ?_
              refine TA.one 5 (by kernel_rfl) ?_
              refine TX.y (listed' := #[true, true, true, true, true, true, true, true, true, true, false, false, false, false]) [] rfl (Y.load_el (us := [.int .i64 E19]) (u := .int .i64 E19) kk3 rfl (Can.own 0 rfl) (idx_get H20).2.2 rfl rfl rfl rfl rfl) rfl rfl rfl rfl rfl ?_
              refine TA.y (listed' := #[true, true, true, true, true, true, true, true, true, true, true, false, false, false]) 10 [] rfl (Y.add rfl rfl) rfl rfl rfl (by kernel_rfl) (by kernel_rfl) (by kernel_rfl) rfl rfl ?_
              refine TA.one 11 (by kernel_rfl) ?_
              refine TX.ef (listed' := #[true, true, true, true, true, true, true, true, true, true, true, true, false, false]) [] rfl (Ef.call (rest := [.own V_s0 (lc ((s.set a.toNat R5).set d.toNat R14))]) [0] (spec_l3Word_con (IntKind.i64.wrap (E19 + E21))  R23 H24) kc64 rfl rfl trivial) rfl rfl rfl rfl (fun _ => rfl) (fun _ => ?_)
              refine TA.one 12 (by kernel_rfl) ?_
              refine TX.y (listed' := #[true, true, true, true, true, true, true, true, true, true, true, true, true, false]) [] rfl (Y.index ke24 (Can.own 0 rfl) H20 rfl rfl) rfl rfl rfl rfl rfl ?_
              refine TA.one 13 (by kernel_rfl) ?_
              refine TX.ef0 (listed' := #[true, true, true, true, true, true, true, true, true, true, true, true, true, true]) [] rfl (Ef.store_el (us := [.int .i64 R23]) (is' := [.own V_s0 (lc (((s.set a.toNat R5).set d.toNat R14).set c.toNat R23))]) R23 0 kk3 rfl rfl (idx_get H20).2.2 rfl rfl (Cel.plain rfl rfl) rfl rfl rfl rfl) rfl rfl rfl (fun _ => rfl) (fun _ => ?_)
              refine TA.nil (by kernel_rfl) ?_
              exact TE.jb_go () [0] ⟨rfl, rfl, rfl, rfl, rfl, trivial⟩ rfl
        · refine TX.y (listed' := #[true, true, true, true, false, false, true, true, true, false, false, false, false, false]) [] rfl (Y.index ke24 (Can.own 0 rfl) H22 rfl rfl) rfl rfl rfl rfl rfl ?_
          refine TA.two 4 9 (by kernel_rfl) ?_ ?_
          · refine TX.y (listed' := #[true, true, true, true, true, false, true, true, true, false, false, false, false, false]) [] rfl (Y.index ke24 (Can.own 0 rfl) H20 rfl rfl) rfl rfl rfl rfl rfl ?_
            refine TA.two 5 9 (by kernel_rfl) ?_ ?_
            · refine TX.y (listed' := #[true, true, true, true, true, true, true, true, true, false, false, false, false, false]) [] rfl (Y.load_el (us := [.int .i64 E19]) (u := .int .i64 E19) kk3 rfl (Can.own 0 rfl) (idx_get H20).2.2 rfl rfl rfl rfl rfl) rfl rfl rfl rfl rfl ?_
              refine TA.one 9 (by kernel_rfl) ?_
              refine TX.y (listed' := #[true, true, true, true, true, true, true, true, true, true, false, false, false, false]) [] rfl (Y.load_el (us := [.int .i64 E21]) (u := .int .i64 E21) kk3 rfl (Can.own 0 rfl) (idx_get H22).2.2 rfl rfl rfl rfl rfl) rfl rfl rfl rfl rfl ?_
              refine TA.y (listed' := #[true, true, true, true, true, true, true, true, true, true, true, false, false, false]) 10 [] rfl (Y.add rfl rfl) rfl rfl rfl (by kernel_rfl) (by kernel_rfl) (by kernel_rfl) rfl rfl ?_
              refine TA.one 11 (by kernel_rfl) ?_
              refine TX.ef (listed' := #[true, true, true, true, true, true, true, true, true, true, true, true, false, false]) [] rfl (Ef.call (rest := [.own V_s0 (lc ((s.set a.toNat R5).set d.toNat R14))]) [0] (spec_l3Word_con (IntKind.i64.wrap (E19 + E21))  R23 H24) kc64 rfl rfl trivial) rfl rfl rfl rfl (fun _ => rfl) (fun _ => ?_)
              refine TA.one 12 (by kernel_rfl) ?_
              refine TX.y (listed' := #[true, true, true, true, true, true, true, true, true, true, true, true, true, false]) [] rfl (Y.index ke24 (Can.own 0 rfl) H20 rfl rfl) rfl rfl rfl rfl rfl ?_
              refine TA.one 13 (by kernel_rfl) ?_
              refine TX.ef0 (listed' := #[true, true, true, true, true, true, true, true, true, true, true, true, true, true]) [] rfl (Ef.store_el (us := [.int .i64 R23]) (is' := [.own V_s0 (lc (((s.set a.toNat R5).set d.toNat R14).set c.toNat R23))]) R23 0 kk3 rfl rfl (idx_get H20).2.2 rfl rfl (Cel.plain rfl rfl) rfl rfl rfl rfl) rfl rfl rfl (fun _ => rfl) (fun _ => ?_)
              refine TA.nil (by kernel_rfl) ?_
              exact TE.jb_go () [0] ⟨rfl, rfl, rfl, rfl, rfl, trivial⟩ rfl
            · refine TX.y (listed' := #[true, true, true, true, true, false, true, true, true, true, false, false, false, false]) [] rfl (Y.load_el (us := [.int .i64 E21]) (u := .int .i64 E21) kk3 rfl (Can.own 0 rfl) (idx_get H22).2.2 rfl rfl rfl rfl rfl) rfl rfl rfl rfl rfl ?_
              refine TA.one 5 (by kernel_rfl) ?_
              refine TX.y (listed' := #[true, true, true, true, true, true, true, true, true, true, false, false, false, false]) [] rfl (Y.load_el (us := [.int .i64 E19]) (u := .int .i64 E19) kk3 rfl (Can.own 0 rfl) (idx_get H20).2.2 rfl rfl rfl rfl rfl) rfl rfl rfl rfl rfl ?_
              refine TA.y (listed' := #[true, true, true, true, true, true, true, true, true, true, true, false, false, false]) 10 [] rfl (Y.add rfl rfl) rfl rfl rfl (by kernel_rfl) (by kernel_rfl) (by kernel_rfl) rfl rfl ?_
              refine TA.one 11 (by kernel_rfl) ?_
              refine TX.ef (listed' := #[true, true, true, true, true, true, true, true, true, true, true, true, false, false]) [] rfl (Ef.call (rest := [.own V_s0 (lc ((s.set a.toNat R5).set d.toNat R14))]) [0] (spec_l3Word_con (IntKind.i64.wrap (E19 + E21))  R23 H24) kc64 rfl rfl trivial) rfl rfl rfl rfl (fun _ => rfl) (fun _ => ?_)
              refine TA.one 12 (by kernel_rfl) ?_
              refine TX.y (listed' := #[true, true, true, true, true, true, true, true, true, true, true, true, true, false]) [] rfl (Y.index ke24 (Can.own 0 rfl) H20 rfl rfl) rfl rfl rfl rfl rfl ?_
              refine TA.one 13 (by kernel_rfl) ?_
              refine TX.ef0 (listed' := #[true, true, true, true, true, true, true, true, true, true, true, true, true, true]) [] rfl (Ef.store_el (us := [.int .i64 R23]) (is' := [.own V_s0 (lc (((s.set a.toNat R5).set d.toNat R14).set c.toNat R23))]) R23 0 kk3 rfl rfl (idx_get H20).2.2 rfl rfl (Cel.plain rfl rfl) rfl rfl rfl rfl) rfl rfl rfl (fun _ => rfl) (fun _ => ?_)
              refine TA.nil (by kernel_rfl) ?_
              exact TE.jb_go () [0] ⟨rfl, rfl, rfl, rfl, rfl, trivial⟩ rfl
          · refine TX.y (listed' := #[true, true, true, true, false, false, true, true, true, true, false, false, false, false]) [] rfl (Y.load_el (us := [.int .i64 E21]) (u := .int .i64 E21) kk3 rfl (Can.own 0 rfl) (idx_get H22).2.2 rfl rfl rfl rfl rfl) rfl rfl rfl rfl rfl ?_
            refine TA.one 4 (by kernel_rfl) ?_
            refine TX.y (listed' := #[true, true, true, true, true, false, true, true, true, true, false, false, false, false]) [] rfl (Y.index ke24 (Can.own 0 rfl) H20 rfl rfl) rfl rfl rfl rfl rfl ?_
            refine TA.one 5 (by kernel_rfl) ?_
            refine TX.y (listed' := #[true, true, true, true, true, true, true, true, true, true, false, false, false, false]) [] rfl (Y.load_el (us := [.int .i64 E19]) (u := .int .i64 E19) kk3 rfl (Can.own 0 rfl) (idx_get H20).2.2 rfl rfl rfl rfl rfl) rfl rfl rfl rfl rfl ?_
            refine TA.y (listed' := #[true, true, true, true, true, true, true, true, true, true, true, false, false, false]) 10 [] rfl (Y.add rfl rfl) rfl rfl rfl (by kernel_rfl) (by kernel_rfl) (by kernel_rfl) rfl rfl ?_
            refine TA.one 11 (by kernel_rfl) ?_
            refine TX.ef (listed' := #[true, true, true, true, true, true, true, true, true, true, true, true, false, false]) [] rfl (Ef.call (rest := [.own V_s0 (lc ((s.set a.toNat R5).set d.toNat R14))]) [0] (spec_l3Word_con (IntKind.i64.wrap (E19 + E21))  R23 H24) kc64 rfl rfl trivial) rfl rfl rfl rfl (fun _ => rfl) (fun _ => ?_)
            refine TA.one 12 (by kernel_rfl) ?_
            refine TX.y (listed' := #[true, true, true, true, true, true, true, true, true, true, true, true, true, false]) [] rfl (Y.index ke24 (Can.own 0 rfl) H20 rfl rfl) rfl rfl rfl rfl rfl ?_
            refine TA.one 13 (by kernel_rfl) ?_
            refine TX.ef0 (listed' := #[true, true, true, true, true, true, true, true, true, true, true, true, true, true]) [] rfl (Ef.store_el (us := [.int .i64 R23]) (is' := [.own V_s0 (lc (((s.set a.toNat R5).set d.toNat R14).set c.toNat R23))]) R23 0 kk3 rfl rfl (idx_get H20).2.2 rfl rfl (Cel.plain rfl rfl) rfl rfl rfl rfl) rfl rfl rfl (fun _ => rfl) (fun _ => ?_)
            refine TA.nil (by kernel_rfl) ?_
            exact TE.jb_go () [0] ⟨rfl, rfl, rfl, rfl, rfl, trivial⟩ rfl
      · refine TE.next ?_
        refine TW.seq ?_
        refine TW.bind fun E28 H29 => ?_
        refine TW.bind fun E30 H31 => ?_
        refine TW.bind fun R32 H33 => ?_
        refine TW.joinU (X := Unit) (fun _ _ => [(0, V_s0), (1, .int .i64 a), (2, .int .i64 b), (3, .int .i64 c), (4, .int .i64 d)]) (fun _ _ => [.own V_s0 (lc ((((s.set a.toNat R5).set d.toNat R14).set c.toNat R23).set b.toNat R32))]) ?_ (fun _ X36 => ?_)
        · refine TW.draw (isH := []) hMix ?_
          refine TA.y (listed' := #[true, false, false, false, false, false, false, false, false, false, false, false, false, false]) 0 [] rfl (Y.move rfl) rfl rfl rfl (by kernel_rfl) (by kernel_rfl) (by kernel_rfl) rfl rfl ?_
          refine TA.y (listed' := #[true, true, false, false, false, false, false, false, false, false, false, false, false, false]) 1 [] rfl (Y.move rfl) rfl rfl rfl (by kernel_rfl) (by kernel_rfl) (by kernel_rfl) rfl rfl ?_
          refine TA.y (listed' := #[true, true, true, false, false, false, false, false, false, false, false, false, false, false]) 2 [] rfl (Y.move rfl) rfl rfl rfl (by kernel_rfl) (by kernel_rfl) (by kernel_rfl) rfl rfl ?_
          refine TA.y (listed' := #[true, true, true, true, false, false, false, false, false, false, false, false, false, false]) 3 [] rfl (Y.move rfl) rfl rfl rfl (by kernel_rfl) (by kernel_rfl) (by kernel_rfl) rfl rfl ?_
          refine TA.y (listed' := #[true, true, true, true, false, false, true, false, false, false, false, false, false, false]) 6 [] rfl (Y.move rfl) rfl rfl rfl (by kernel_rfl) (by kernel_rfl) (by kernel_rfl) rfl rfl ?_
          refine TA.y (listed' := #[true, true, true, true, false, false, true, true, false, false, false, false, false, false]) 7 [] rfl (Y.move rfl) rfl rfl rfl (by kernel_rfl) (by kernel_rfl) (by kernel_rfl) rfl rfl ?_
          refine TA.two 4 8 (by kernel_rfl) ?_ ?_
          · refine TX.y (listed' := #[true, true, true, true, true, false, true, true, false, false, false, false, false, false]) [] rfl (Y.index ke24 (Can.own 0 rfl) H29 rfl rfl) rfl rfl rfl rfl rfl ?_
            refine TA.two 5 8 (by kernel_rfl) ?_ ?_
            · refine TX.y (listed' := #[true, true, true, true, true, true, true, true, false, false, false, false, false, false]) [] rfl (Y.load_el (us := [.int .i64 E28]) (u := .int .i64 E28) kk3 rfl (Can.own 0 rfl) (idx_get H29).2.2 rfl rfl rfl rfl rfl) rfl rfl rfl rfl rfl ?_
              refine TA.one 8 (by kernel_rfl) ?_
              refine TX.y (listed' := #[true, true, true, true, true, true, true, true, true, false, false, false, false, false]) [] rfl (Y.index ke24 (Can.own 0 rfl) H31 rfl rfl) rfl rfl rfl rfl rfl ?_
              refine TA.one 9 (by kernel_rfl) ?_
              refine TX.y (listed' := #[true, true, true, true, true, true, true, true, true, true, false, false, false, false]) [] rfl (Y.load_el (us := [.int .i64 E30]) (u := .int .i64 E30) kk3 rfl (Can.own 0 rfl) (idx_get H31).2.2 rfl rfl rfl rfl rfl) rfl rfl rfl rfl rfl ?_
              refine TA.y (listed' := #[true, true, true, true, true, true, true, true, true, true, true, false, false, false]) 10 [] rfl (Y.xor rfl rfl) rfl rfl rfl (by kernel_rfl) (by kernel_rfl) (by kernel_rfl) rfl rfl ?_
              refine TA.one 11 (by kernel_rfl) ?_
              refine TX.ef (listed' := #[true, true, true, true, true, true, true, true, true, true, true, true, false, false]) [] rfl (Ef.call (rest := [.own V_s0 (lc (((s.set a.toNat R5).set d.toNat R14).set c.toNat R23))]) [0] (spec_l3Left_con (ixor .i64 E28 E30) (12 : Int)  R32 H33) kc65 rfl rfl trivial) rfl rfl rfl rfl (fun _ => rfl) (fun _ => ?_)
              refine TA.one 12 (by kernel_rfl) ?_
              refine TX.y (listed' := #[true, true, true, true, true, true, true, true, true, true, true, true, true, false]) [] rfl (Y.index ke24 (Can.own 0 rfl) H29 rfl rfl) rfl rfl rfl rfl rfl ?_
              refine TA.one 13 (by kernel_rfl) ?_
              refine TX.ef0 (listed' := #[true, true, true, true, true, true, true, true, true, true, true, true, true, true]) [] rfl (Ef.store_el (us := [.int .i64 R32]) (is' := [.own V_s0 (lc ((((s.set a.toNat R5).set d.toNat R14).set c.toNat R23).set b.toNat R32))]) R32 0 kk3 rfl rfl (idx_get H29).2.2 rfl rfl (Cel.plain rfl rfl) rfl rfl rfl rfl) rfl rfl rfl (fun _ => rfl) (fun _ => ?_)
              refine TA.nil (by kernel_rfl) ?_
              exact TE.jb_go () [0] ⟨rfl, rfl, rfl, rfl, rfl, trivial⟩ rfl
            · refine TX.y (listed' := #[true, true, true, true, true, false, true, true, true, false, false, false, false, false]) [] rfl (Y.index ke24 (Can.own 0 rfl) H31 rfl rfl) rfl rfl rfl rfl rfl ?_
              refine TA.two 5 9 (by kernel_rfl) ?_ ?_
              · refine TX.y (listed' := #[true, true, true, true, true, true, true, true, true, false, false, false, false, false]) [] rfl (Y.load_el (us := [.int .i64 E28]) (u := .int .i64 E28) kk3 rfl (Can.own 0 rfl) (idx_get H29).2.2 rfl rfl rfl rfl rfl) rfl rfl rfl rfl rfl ?_
                refine TA.one 9 (by kernel_rfl) ?_
                refine TX.y (listed' := #[true, true, true, true, true, true, true, true, true, true, false, false, false, false]) [] rfl (Y.load_el (us := [.int .i64 E30]) (u := .int .i64 E30) kk3 rfl (Can.own 0 rfl) (idx_get H31).2.2 rfl rfl rfl rfl rfl) rfl rfl rfl rfl rfl ?_
                refine TA.y (listed' := #[true, true, true, true, true, true, true, true, true, true, true, false, false, false]) 10 [] rfl (Y.xor rfl rfl) rfl rfl rfl (by kernel_rfl) (by kernel_rfl) (by kernel_rfl) rfl rfl ?_
                refine TA.one 11 (by kernel_rfl) ?_
                refine TX.ef (listed' := #[true, true, true, true, true, true, true, true, true, true, true, true, false, false]) [] rfl (Ef.call (rest := [.own V_s0 (lc (((s.set a.toNat R5).set d.toNat R14).set c.toNat R23))]) [0] (spec_l3Left_con (ixor .i64 E28 E30) (12 : Int)  R32 H33) kc65 rfl rfl trivial) rfl rfl rfl rfl (fun _ => rfl) (fun _ => ?_)
                refine TA.one 12 (by kernel_rfl) ?_
                refine TX.y (listed' := #[true, true, true, true, true, true, true, true, true, true, true, true, true, false]) [] rfl (Y.index ke24 (Can.own 0 rfl) H29 rfl rfl) rfl rfl rfl rfl rfl ?_
                refine TA.one 13 (by kernel_rfl) ?_
                refine TX.ef0 (listed' := #[true, true, true, true, true, true, true, true, true, true, true, true, true, true]) [] rfl (Ef.store_el (us := [.int .i64 R32]) (is' := [.own V_s0 (lc ((((s.set a.toNat R5).set d.toNat R14).set c.toNat R23).set b.toNat R32))]) R32 0 kk3 rfl rfl (idx_get H29).2.2 rfl rfl (Cel.plain rfl rfl) rfl rfl rfl rfl) rfl rfl rfl (fun _ => rfl) (fun _ => ?_)
                refine TA.nil (by kernel_rfl) ?_
                exact TE.jb_go () [0] ⟨rfl, rfl, rfl, rfl, rfl, trivial⟩ rfl
              · refine TX.y (listed' := #[true, true, true, true, true, false, true, true, true, true, false, false, false, false]) [] rfl (Y.load_el (us := [.int .i64 E30]) (u := .int .i64 E30) kk3 rfl (Can.own 0 rfl) (idx_get H31).2.2 rfl rfl rfl rfl rfl) rfl rfl rfl rfl rfl ?_
                refine TA.one 5 (by kernel_rfl) ?_
                refine TX.y (listed' := #[true, true, true, true, true, true, true, true, true, true, false, false, false, false]) [] rfl (Y.load_el (us := [.int .i64 E28]) (u := .int .i64 E28) kk3 rfl (Can.own 0 rfl) (idx_get H29).2.2 rfl rfl rfl rfl rfl) rfl rfl rfl rfl rfl ?_
                refine TA.y (listed' := #[true, true, true, true, true, true, true, true, true, true, true, false, false, false]) 10 [] rfl (Y.xor rfl rfl) rfl rfl rfl (by kernel_rfl) (by kernel_rfl) (by kernel_rfl) rfl rfl ?_
                refine TA.one 11 (by kernel_rfl) ?_
                refine TX.ef (listed' := #[true, true, true, true, true, true, true, true, true, true, true, true, false, false]) [] rfl (Ef.call (rest := [.own V_s0 (lc (((s.set a.toNat R5).set d.toNat R14).set c.toNat R23))]) [0] (spec_l3Left_con (ixor .i64 E28 E30) (12 : Int)  R32 H33) kc65 rfl rfl trivial) rfl rfl rfl rfl (fun _ => rfl) (fun _ => ?_)
                refine TA.one 12 (by kernel_rfl) ?_
                refine TX.y (listed' := #[true, true, true, true, true, true, true, true, true, true, true, true, true, false]) [] rfl (Y.index ke24 (Can.own 0 rfl) H29 rfl rfl) rfl rfl rfl rfl rfl ?_
                refine TA.one 13 (by kernel_rfl) ?_
                refine TX.ef0 (listed' := #[true, true, true, true, true, true, true, true, true, true, true, true, true, true]) [] rfl (Ef.store_el (us := [.int .i64 R32]) (is' := [.own V_s0 (lc ((((s.set a.toNat R5).set d.toNat R14).set c.toNat R23).set b.toNat R32))]) R32 0 kk3 rfl rfl (idx_get H29).2.2 rfl rfl (Cel.plain rfl rfl) rfl rfl rfl rfl) rfl rfl rfl (fun _ => rfl) (fun _ => ?_)
                refine TA.nil (by kernel_rfl) ?_
                exact TE.jb_go () [0] ⟨rfl, rfl, rfl, rfl, rfl, trivial⟩ rfl
          · refine TX.y (listed' := #[true, true, true, true, false, false, true, true, true, false, false, false, false, false]) [] rfl (Y.index ke24 (Can.own 0 rfl) H31 rfl rfl) rfl rfl rfl rfl rfl ?_
            refine TA.two 4 9 (by kernel_rfl) ?_ ?_
            · refine TX.y (listed' := #[true, true, true, true, true, false, true, true, true, false, false, false, false, false]) [] rfl (Y.index ke24 (Can.own 0 rfl) H29 rfl rfl) rfl rfl rfl rfl rfl ?_
              refine TA.two 5 9 (by kernel_rfl) ?_ ?_
              · refine TX.y (listed' := #[true, true, true, true, true, true, true, true, true, false, false, false, false, false]) [] rfl (Y.load_el (us := [.int .i64 E28]) (u := .int .i64 E28) kk3 rfl (Can.own 0 rfl) (idx_get H29).2.2 rfl rfl rfl rfl rfl) rfl rfl rfl rfl rfl ?_
                refine TA.one 9 (by kernel_rfl) ?_
                refine TX.y (listed' := #[true, true, true, true, true, true, true, true, true, true, false, false, false, false]) [] rfl (Y.load_el (us := [.int .i64 E30]) (u := .int .i64 E30) kk3 rfl (Can.own 0 rfl) (idx_get H31).2.2 rfl rfl rfl rfl rfl) rfl rfl rfl rfl rfl ?_
                refine TA.y (listed' := #[true, true, true, true, true, true, true, true, true, true, true, false, false, false]) 10 [] rfl (Y.xor rfl rfl) rfl rfl rfl (by kernel_rfl) (by kernel_rfl) (by kernel_rfl) rfl rfl ?_
                refine TA.one 11 (by kernel_rfl) ?_
                refine TX.ef (listed' := #[true, true, true, true, true, true, true, true, true, true, true, true, false, false]) [] rfl (Ef.call (rest := [.own V_s0 (lc (((s.set a.toNat R5).set d.toNat R14).set c.toNat R23))]) [0] (spec_l3Left_con (ixor .i64 E28 E30) (12 : Int)  R32 H33) kc65 rfl rfl trivial) rfl rfl rfl rfl (fun _ => rfl) (fun _ => ?_)
                refine TA.one 12 (by kernel_rfl) ?_
                refine TX.y (listed' := #[true, true, true, true, true, true, true, true, true, true, true, true, true, false]) [] rfl (Y.index ke24 (Can.own 0 rfl) H29 rfl rfl) rfl rfl rfl rfl rfl ?_
                refine TA.one 13 (by kernel_rfl) ?_
                refine TX.ef0 (listed' := #[true, true, true, true, true, true, true, true, true, true, true, true, true, true]) [] rfl (Ef.store_el (us := [.int .i64 R32]) (is' := [.own V_s0 (lc ((((s.set a.toNat R5).set d.toNat R14).set c.toNat R23).set b.toNat R32))]) R32 0 kk3 rfl rfl (idx_get H29).2.2 rfl rfl (Cel.plain rfl rfl) rfl rfl rfl rfl) rfl rfl rfl (fun _ => rfl) (fun _ => ?_)
                refine TA.nil (by kernel_rfl) ?_
                exact TE.jb_go () [0] ⟨rfl, rfl, rfl, rfl, rfl, trivial⟩ rfl
              · refine TX.y (listed' := #[true, true, true, true, true, false, true, true, true, true, false, false, false, false]) [] rfl (Y.load_el (us := [.int .i64 E30]) (u := .int .i64 E30) kk3 rfl (Can.own 0 rfl) (idx_get H31).2.2 rfl rfl rfl rfl rfl) rfl rfl rfl rfl rfl ?_
                refine TA.one 5 (by kernel_rfl) ?_
                refine TX.y (listed' := #[true, true, true, true, true, true, true, true, true, true, false, false, false, false]) [] rfl (Y.load_el (us := [.int .i64 E28]) (u := .int .i64 E28) kk3 rfl (Can.own 0 rfl) (idx_get H29).2.2 rfl rfl rfl rfl rfl) rfl rfl rfl rfl rfl ?_
                refine TA.y (listed' := #[true, true, true, true, true, true, true, true, true, true, true, false, false, false]) 10 [] rfl (Y.xor rfl rfl) rfl rfl rfl (by kernel_rfl) (by kernel_rfl) (by kernel_rfl) rfl rfl ?_
                refine TA.one 11 (by kernel_rfl) ?_
                refine TX.ef (listed' := #[true, true, true, true, true, true, true, true, true, true, true, true, false, false]) [] rfl (Ef.call (rest := [.own V_s0 (lc (((s.set a.toNat R5).set d.toNat R14).set c.toNat R23))]) [0] (spec_l3Left_con (ixor .i64 E28 E30) (12 : Int)  R32 H33) kc65 rfl rfl trivial) rfl rfl rfl rfl (fun _ => rfl) (fun _ => ?_)
                refine TA.one 12 (by kernel_rfl) ?_
                refine TX.y (listed' := #[true, true, true, true, true, true, true, true, true, true, true, true, true, false]) [] rfl (Y.index ke24 (Can.own 0 rfl) H29 rfl rfl) rfl rfl rfl rfl rfl ?_
                refine TA.one 13 (by kernel_rfl) ?_
                refine TX.ef0 (listed' := #[true, true, true, true, true, true, true, true, true, true, true, true, true, true]) [] rfl (Ef.store_el (us := [.int .i64 R32]) (is' := [.own V_s0 (lc ((((s.set a.toNat R5).set d.toNat R14).set c.toNat R23).set b.toNat R32))]) R32 0 kk3 rfl rfl (idx_get H29).2.2 rfl rfl (Cel.plain rfl rfl) rfl rfl rfl rfl) rfl rfl rfl (fun _ => rfl) (fun _ => ?_)
                refine TA.nil (by kernel_rfl) ?_
                exact TE.jb_go () [0] ⟨rfl, rfl, rfl, rfl, rfl, trivial⟩ rfl
            · refine TX.y (listed' := #[true, true, true, true, false, false, true, true, true, true, false, false, false, false]) [] rfl (Y.load_el (us := [.int .i64 E30]) (u := .int .i64 E30) kk3 rfl (Can.own 0 rfl) (idx_get H31).2.2 rfl rfl rfl rfl rfl) rfl rfl rfl rfl rfl ?_
              refine TA.one 4 (by kernel_rfl) ?_
              refine TX.y (listed' := #[true, true, true, true, true, false, true, true, true, true, false, false, false, false]) [] rfl (Y.index ke24 (Can.own 0 rfl) H29 rfl rfl) rfl rfl rfl rfl rfl ?_
              refine TA.one 5 (by kernel_rfl) ?_
              refine TX.y (listed' := #[true, true, true, true, true, true, true, true, true, true, false, false, false, false]) [] rfl (Y.load_el (us := [.int .i64 E28]) (u := .int .i64 E28) kk3 rfl (Can.own 0 rfl) (idx_get H29).2.2 rfl rfl rfl rfl rfl) rfl rfl rfl rfl rfl ?_
              refine TA.y (listed' := #[true, true, true, true, true, true, true, true, true, true, true, false, false, false]) 10 [] rfl (Y.xor rfl rfl) rfl rfl rfl (by kernel_rfl) (by kernel_rfl) (by kernel_rfl) rfl rfl ?_
              refine TA.one 11 (by kernel_rfl) ?_
              refine TX.ef (listed' := #[true, true, true, true, true, true, true, true, true, true, true, true, false, false]) [] rfl (Ef.call (rest := [.own V_s0 (lc (((s.set a.toNat R5).set d.toNat R14).set c.toNat R23))]) [0] (spec_l3Left_con (ixor .i64 E28 E30) (12 : Int)  R32 H33) kc65 rfl rfl trivial) rfl rfl rfl rfl (fun _ => rfl) (fun _ => ?_)
              refine TA.one 12 (by kernel_rfl) ?_
              refine TX.y (listed' := #[true, true, true, true, true, true, true, true, true, true, true, true, true, false]) [] rfl (Y.index ke24 (Can.own 0 rfl) H29 rfl rfl) rfl rfl rfl rfl rfl ?_
              refine TA.one 13 (by kernel_rfl) ?_
              refine TX.ef0 (listed' := #[true, true, true, true, true, true, true, true, true, true, true, true, true, true]) [] rfl (Ef.store_el (us := [.int .i64 R32]) (is' := [.own V_s0 (lc ((((s.set a.toNat R5).set d.toNat R14).set c.toNat R23).set b.toNat R32))]) R32 0 kk3 rfl rfl (idx_get H29).2.2 rfl rfl (Cel.plain rfl rfl) rfl rfl rfl rfl) rfl rfl rfl (fun _ => rfl) (fun _ => ?_)
              refine TA.nil (by kernel_rfl) ?_
              exact TE.jb_go () [0] ⟨rfl, rfl, rfl, rfl, rfl, trivial⟩ rfl
        · refine TE.next ?_
          refine TW.seq ?_
          refine TW.bind fun E37 H38 => ?_
          refine TW.bind fun E39 H40 => ?_
          refine TW.bind fun R41 H42 => ?_
          refine TW.joinU (X := Unit) (fun _ _ => [(0, V_s0), (1, .int .i64 a), (2, .int .i64 b), (3, .int .i64 c), (4, .int .i64 d)]) (fun _ _ => [.own V_s0 (lc (((((s.set a.toNat R5).set d.toNat R14).set c.toNat R23).set b.toNat R32).set a.toNat R41))]) ?_ (fun _ X45 => ?_)
          · refine TW.draw (isH := []) hMix ?_
            refine TA.y (listed' := #[true, false, false, false, false, false, false, false, false, false, false, false, false, false]) 0 [] rfl (Y.move rfl) rfl rfl rfl (by kernel_rfl) (by kernel_rfl) (by kernel_rfl) rfl rfl ?_
            refine TA.y (listed' := #[true, true, false, false, false, false, false, false, false, false, false, false, false, false]) 1 [] rfl (Y.move rfl) rfl rfl rfl (by kernel_rfl) (by kernel_rfl) (by kernel_rfl) rfl rfl ?_
            refine TA.y (listed' := #[true, true, true, false, false, false, false, false, false, false, false, false, false, false]) 2 [] rfl (Y.move rfl) rfl rfl rfl (by kernel_rfl) (by kernel_rfl) (by kernel_rfl) rfl rfl ?_
            refine TA.y (listed' := #[true, true, true, true, false, false, false, false, false, false, false, false, false, false]) 3 [] rfl (Y.move rfl) rfl rfl rfl (by kernel_rfl) (by kernel_rfl) (by kernel_rfl) rfl rfl ?_
            refine TA.y (listed' := #[true, true, true, true, false, false, true, false, false, false, false, false, false, false]) 6 [] rfl (Y.move rfl) rfl rfl rfl (by kernel_rfl) (by kernel_rfl) (by kernel_rfl) rfl rfl ?_
            refine TA.y (listed' := #[true, true, true, true, false, false, true, true, false, false, false, false, false, false]) 7 [] rfl (Y.move rfl) rfl rfl rfl (by kernel_rfl) (by kernel_rfl) (by kernel_rfl) rfl rfl ?_
            refine TA.two 4 8 (by kernel_rfl) ?_ ?_
            · refine TX.y (listed' := #[true, true, true, true, true, false, true, true, false, false, false, false, false, false]) [] rfl (Y.index ke24 (Can.own 0 rfl) H38 rfl rfl) rfl rfl rfl rfl rfl ?_
              refine TA.two 5 8 (by kernel_rfl) ?_ ?_
              · refine TX.y (listed' := #[true, true, true, true, true, true, true, true, false, false, false, false, false, false]) [] rfl (Y.load_el (us := [.int .i64 E37]) (u := .int .i64 E37) kk3 rfl (Can.own 0 rfl) (idx_get H38).2.2 rfl rfl rfl rfl rfl) rfl rfl rfl rfl rfl ?_
                refine TA.one 8 (by kernel_rfl) ?_
                refine TX.y (listed' := #[true, true, true, true, true, true, true, true, true, false, false, false, false, false]) [] rfl (Y.index ke24 (Can.own 0 rfl) H40 rfl rfl) rfl rfl rfl rfl rfl ?_
                refine TA.one 9 (by kernel_rfl) ?_
                refine TX.y (listed' := #[true, true, true, true, true, true, true, true, true, true, false, false, false, false]) [] rfl (Y.load_el (us := [.int .i64 E39]) (u := .int .i64 E39) kk3 rfl (Can.own 0 rfl) (idx_get H40).2.2 rfl rfl rfl rfl rfl) rfl rfl rfl rfl rfl ?_
                refine TA.y (listed' := #[true, true, true, true, true, true, true, true, true, true, true, false, false, false]) 10 [] rfl (Y.add rfl rfl) rfl rfl rfl (by kernel_rfl) (by kernel_rfl) (by kernel_rfl) rfl rfl ?_
                refine TA.one 11 (by kernel_rfl) ?_
                refine TX.ef (listed' := #[true, true, true, true, true, true, true, true, true, true, true, true, false, false]) [] rfl (Ef.call (rest := [.own V_s0 (lc ((((s.set a.toNat R5).set d.toNat R14).set c.toNat R23).set b.toNat R32))]) [0] (spec_l3Word_con (IntKind.i64.wrap (E37 + E39))  R41 H42) kc64 rfl rfl trivial) rfl rfl rfl rfl (fun _ => rfl) (fun _ => ?_)
                refine TA.one 12 (by kernel_rfl) ?_
                refine TX.y (listed' := #[true, true, true, true, true, true, true, true, true, true, true, true, true, false]) [] rfl (Y.index ke24 (Can.own 0 rfl) H38 rfl rfl) rfl rfl rfl rfl rfl ?_
                refine TA.one 13 (by kernel_rfl) ?_
                refine TX.ef0 (listed' := #[true, true, true, true, true, true, true, true, true, true, true, true, true, true]) [] rfl (Ef.store_el (us := [.int .i64 R41]) (is' := [.own V_s0 (lc (((((s.set a.toNat R5).set d.toNat R14).set c.toNat R23).set b.toNat R32).set a.toNat R41))]) R41 0 kk3 rfl rfl (idx_get H38).2.2 rfl rfl (Cel.plain rfl rfl) rfl rfl rfl rfl) rfl rfl rfl (fun _ => rfl) (fun _ => ?_)
                refine TA.nil (by kernel_rfl) ?_
                exact TE.jb_go () [0] ⟨rfl, rfl, rfl, rfl, rfl, trivial⟩ rfl
              · refine TX.y (listed' := #[true, true, true, true, true, false, true, true, true, false, false, false, false, false]) [] rfl (Y.index ke24 (Can.own 0 rfl) H40 rfl rfl) rfl rfl rfl rfl rfl ?_
                refine TA.two 5 9 (by kernel_rfl) ?_ ?_
                · refine TX.y (listed' := #[true, true, true, true, true, true, true, true, true, false, false, false, false, false]) [] rfl (Y.load_el (us := [.int .i64 E37]) (u := .int .i64 E37) kk3 rfl (Can.own 0 rfl) (idx_get H38).2.2 rfl rfl rfl rfl rfl) rfl rfl rfl rfl rfl ?_
                  refine TA.one 9 (by kernel_rfl) ?_
                  refine TX.y (listed' := #[true, true, true, true, true, true, true, true, true, true, false, false, false, false]) [] rfl (Y.load_el (us := [.int .i64 E39]) (u := .int .i64 E39) kk3 rfl (Can.own 0 rfl) (idx_get H40).2.2 rfl rfl rfl rfl rfl) rfl rfl rfl rfl rfl ?_
                  refine TA.y (listed' := #[true, true, true, true, true, true, true, true, true, true, true, false, false, false]) 10 [] rfl (Y.add rfl rfl) rfl rfl rfl (by kernel_rfl) (by kernel_rfl) (by kernel_rfl) rfl rfl ?_
                  refine TA.one 11 (by kernel_rfl) ?_
                  refine TX.ef (listed' := #[true, true, true, true, true, true, true, true, true, true, true, true, false, false]) [] rfl (Ef.call (rest := [.own V_s0 (lc ((((s.set a.toNat R5).set d.toNat R14).set c.toNat R23).set b.toNat R32))]) [0] (spec_l3Word_con (IntKind.i64.wrap (E37 + E39))  R41 H42) kc64 rfl rfl trivial) rfl rfl rfl rfl (fun _ => rfl) (fun _ => ?_)
                  refine TA.one 12 (by kernel_rfl) ?_
                  refine TX.y (listed' := #[true, true, true, true, true, true, true, true, true, true, true, true, true, false]) [] rfl (Y.index ke24 (Can.own 0 rfl) H38 rfl rfl) rfl rfl rfl rfl rfl ?_
                  refine TA.one 13 (by kernel_rfl) ?_
                  refine TX.ef0 (listed' := #[true, true, true, true, true, true, true, true, true, true, true, true, true, true]) [] rfl (Ef.store_el (us := [.int .i64 R41]) (is' := [.own V_s0 (lc (((((s.set a.toNat R5).set d.toNat R14).set c.toNat R23).set b.toNat R32).set a.toNat R41))]) R41 0 kk3 rfl rfl (idx_get H38).2.2 rfl rfl (Cel.plain rfl rfl) rfl rfl rfl rfl) rfl rfl rfl (fun _ => rfl) (fun _ => ?_)
                  refine TA.nil (by kernel_rfl) ?_
                  exact TE.jb_go () [0] ⟨rfl, rfl, rfl, rfl, rfl, trivial⟩ rfl
                · refine TX.y (listed' := #[true, true, true, true, true, false, true, true, true, true, false, false, false, false]) [] rfl (Y.load_el (us := [.int .i64 E39]) (u := .int .i64 E39) kk3 rfl (Can.own 0 rfl) (idx_get H40).2.2 rfl rfl rfl rfl rfl) rfl rfl rfl rfl rfl ?_
                  refine TA.one 5 (by kernel_rfl) ?_
                  refine TX.y (listed' := #[true, true, true, true, true, true, true, true, true, true, false, false, false, false]) [] rfl (Y.load_el (us := [.int .i64 E37]) (u := .int .i64 E37) kk3 rfl (Can.own 0 rfl) (idx_get H38).2.2 rfl rfl rfl rfl rfl) rfl rfl rfl rfl rfl ?_
                  refine TA.y (listed' := #[true, true, true, true, true, true, true, true, true, true, true, false, false, false]) 10 [] rfl (Y.add rfl rfl) rfl rfl rfl (by kernel_rfl) (by kernel_rfl) (by kernel_rfl) rfl rfl ?_
                  refine TA.one 11 (by kernel_rfl) ?_
                  refine TX.ef (listed' := #[true, true, true, true, true, true, true, true, true, true, true, true, false, false]) [] rfl (Ef.call (rest := [.own V_s0 (lc ((((s.set a.toNat R5).set d.toNat R14).set c.toNat R23).set b.toNat R32))]) [0] (spec_l3Word_con (IntKind.i64.wrap (E37 + E39))  R41 H42) kc64 rfl rfl trivial) rfl rfl rfl rfl (fun _ => rfl) (fun _ => ?_)
                  refine TA.one 12 (by kernel_rfl) ?_
                  refine TX.y (listed' := #[true, true, true, true, true, true, true, true, true, true, true, true, true, false]) [] rfl (Y.index ke24 (Can.own 0 rfl) H38 rfl rfl) rfl rfl rfl rfl rfl ?_
                  refine TA.one 13 (by kernel_rfl) ?_
                  refine TX.ef0 (listed' := #[true, true, true, true, true, true, true, true, true, true, true, true, true, true]) [] rfl (Ef.store_el (us := [.int .i64 R41]) (is' := [.own V_s0 (lc (((((s.set a.toNat R5).set d.toNat R14).set c.toNat R23).set b.toNat R32).set a.toNat R41))]) R41 0 kk3 rfl rfl (idx_get H38).2.2 rfl rfl (Cel.plain rfl rfl) rfl rfl rfl rfl) rfl rfl rfl (fun _ => rfl) (fun _ => ?_)
                  refine TA.nil (by kernel_rfl) ?_
                  exact TE.jb_go () [0] ⟨rfl, rfl, rfl, rfl, rfl, trivial⟩ rfl
            · refine TX.y (listed' := #[true, true, true, true, false, false, true, true, true, false, false, false, false, false]) [] rfl (Y.index ke24 (Can.own 0 rfl) H40 rfl rfl) rfl rfl rfl rfl rfl ?_
              refine TA.two 4 9 (by kernel_rfl) ?_ ?_
              · refine TX.y (listed' := #[true, true, true, true, true, false, true, true, true, false, false, false, false, false]) [] rfl (Y.index ke24 (Can.own 0 rfl) H38 rfl rfl) rfl rfl rfl rfl rfl ?_
                refine TA.two 5 9 (by kernel_rfl) ?_ ?_
                · refine TX.y (listed' := #[true, true, true, true, true, true, true, true, true, false, false, false, false, false]) [] rfl (Y.load_el (us := [.int .i64 E37]) (u := .int .i64 E37) kk3 rfl (Can.own 0 rfl) (idx_get H38).2.2 rfl rfl rfl rfl rfl) rfl rfl rfl rfl rfl ?_
                  refine TA.one 9 (by kernel_rfl) ?_
                  refine TX.y (listed' := #[true, true, true, true, true, true, true, true, true, true, false, false, false, false]) [] rfl (Y.load_el (us := [.int .i64 E39]) (u := .int .i64 E39) kk3 rfl (Can.own 0 rfl) (idx_get H40).2.2 rfl rfl rfl rfl rfl) rfl rfl rfl rfl rfl ?_
                  refine TA.y (listed' := #[true, true, true, true, true, true, true, true, true, true, true, false, false, false]) 10 [] rfl (Y.add rfl rfl) rfl rfl rfl (by kernel_rfl) (by kernel_rfl) (by kernel_rfl) rfl rfl ?_
                  refine TA.one 11 (by kernel_rfl) ?_
                  refine TX.ef (listed' := #[true, true, true, true, true, true, true, true, true, true, true, true, false, false]) [] rfl (Ef.call (rest := [.own V_s0 (lc ((((s.set a.toNat R5).set d.toNat R14).set c.toNat R23).set b.toNat R32))]) [0] (spec_l3Word_con (IntKind.i64.wrap (E37 + E39))  R41 H42) kc64 rfl rfl trivial) rfl rfl rfl rfl (fun _ => rfl) (fun _ => ?_)
                  refine TA.one 12 (by kernel_rfl) ?_
                  refine TX.y (listed' := #[true, true, true, true, true, true, true, true, true, true, true, true, true, false]) [] rfl (Y.index ke24 (Can.own 0 rfl) H38 rfl rfl) rfl rfl rfl rfl rfl ?_
                  refine TA.one 13 (by kernel_rfl) ?_
                  refine TX.ef0 (listed' := #[true, true, true, true, true, true, true, true, true, true, true, true, true, true]) [] rfl (Ef.store_el (us := [.int .i64 R41]) (is' := [.own V_s0 (lc (((((s.set a.toNat R5).set d.toNat R14).set c.toNat R23).set b.toNat R32).set a.toNat R41))]) R41 0 kk3 rfl rfl (idx_get H38).2.2 rfl rfl (Cel.plain rfl rfl) rfl rfl rfl rfl) rfl rfl rfl (fun _ => rfl) (fun _ => ?_)
                  refine TA.nil (by kernel_rfl) ?_
                  exact TE.jb_go () [0] ⟨rfl, rfl, rfl, rfl, rfl, trivial⟩ rfl
                · refine TX.y (listed' := #[true, true, true, true, true, false, true, true, true, true, false, false, false, false]) [] rfl (Y.load_el (us := [.int .i64 E39]) (u := .int .i64 E39) kk3 rfl (Can.own 0 rfl) (idx_get H40).2.2 rfl rfl rfl rfl rfl) rfl rfl rfl rfl rfl ?_
                  refine TA.one 5 (by kernel_rfl) ?_
                  refine TX.y (listed' := #[true, true, true, true, true, true, true, true, true, true, false, false, false, false]) [] rfl (Y.load_el (us := [.int .i64 E37]) (u := .int .i64 E37) kk3 rfl (Can.own 0 rfl) (idx_get H38).2.2 rfl rfl rfl rfl rfl) rfl rfl rfl rfl rfl ?_
                  refine TA.y (listed' := #[true, true, true, true, true, true, true, true, true, true, true, false, false, false]) 10 [] rfl (Y.add rfl rfl) rfl rfl rfl (by kernel_rfl) (by kernel_rfl) (by kernel_rfl) rfl rfl ?_
                  refine TA.one 11 (by kernel_rfl) ?_
                  refine TX.ef (listed' := #[true, true, true, true, true, true, true, true, true, true, true, true, false, false]) [] rfl (Ef.call (rest := [.own V_s0 (lc ((((s.set a.toNat R5).set d.toNat R14).set c.toNat R23).set b.toNat R32))]) [0] (spec_l3Word_con (IntKind.i64.wrap (E37 + E39))  R41 H42) kc64 rfl rfl trivial) rfl rfl rfl rfl (fun _ => rfl) (fun _ => ?_)
                  refine TA.one 12 (by kernel_rfl) ?_
                  refine TX.y (listed' := #[true, true, true, true, true, true, true, true, true, true, true, true, true, false]) [] rfl (Y.index ke24 (Can.own 0 rfl) H38 rfl rfl) rfl rfl rfl rfl rfl ?_
                  refine TA.one 13 (by kernel_rfl) ?_
                  refine TX.ef0 (listed' := #[true, true, true, true, true, true, true, true, true, true, true, true, true, true]) [] rfl (Ef.store_el (us := [.int .i64 R41]) (is' := [.own V_s0 (lc (((((s.set a.toNat R5).set d.toNat R14).set c.toNat R23).set b.toNat R32).set a.toNat R41))]) R41 0 kk3 rfl rfl (idx_get H38).2.2 rfl rfl (Cel.plain rfl rfl) rfl rfl rfl rfl) rfl rfl rfl (fun _ => rfl) (fun _ => ?_)
                  refine TA.nil (by kernel_rfl) ?_
                  exact TE.jb_go () [0] ⟨rfl, rfl, rfl, rfl, rfl, trivial⟩ rfl
              · refine TX.y (listed' := #[true, true, true, true, false, false, true, true, true, true, false, false, false, false]) [] rfl (Y.load_el (us := [.int .i64 E39]) (u := .int .i64 E39) kk3 rfl (Can.own 0 rfl) (idx_get H40).2.2 rfl rfl rfl rfl rfl) rfl rfl rfl rfl rfl ?_
                refine TA.one 4 (by kernel_rfl) ?_
                refine TX.y (listed' := #[true, true, true, true, true, false, true, true, true, true, false, false, false, false]) [] rfl (Y.index ke24 (Can.own 0 rfl) H38 rfl rfl) rfl rfl rfl rfl rfl ?_
                refine TA.one 5 (by kernel_rfl) ?_
                refine TX.y (listed' := #[true, true, true, true, true, true, true, true, true, true, false, false, false, false]) [] rfl (Y.load_el (us := [.int .i64 E37]) (u := .int .i64 E37) kk3 rfl (Can.own 0 rfl) (idx_get H38).2.2 rfl rfl rfl rfl rfl) rfl rfl rfl rfl rfl ?_
                refine TA.y (listed' := #[true, true, true, true, true, true, true, true, true, true, true, false, false, false]) 10 [] rfl (Y.add rfl rfl) rfl rfl rfl (by kernel_rfl) (by kernel_rfl) (by kernel_rfl) rfl rfl ?_
                refine TA.one 11 (by kernel_rfl) ?_
                refine TX.ef (listed' := #[true, true, true, true, true, true, true, true, true, true, true, true, false, false]) [] rfl (Ef.call (rest := [.own V_s0 (lc ((((s.set a.toNat R5).set d.toNat R14).set c.toNat R23).set b.toNat R32))]) [0] (spec_l3Word_con (IntKind.i64.wrap (E37 + E39))  R41 H42) kc64 rfl rfl trivial) rfl rfl rfl rfl (fun _ => rfl) (fun _ => ?_)
                refine TA.one 12 (by kernel_rfl) ?_
                refine TX.y (listed' := #[true, true, true, true, true, true, true, true, true, true, true, true, true, false]) [] rfl (Y.index ke24 (Can.own 0 rfl) H38 rfl rfl) rfl rfl rfl rfl rfl ?_
                refine TA.one 13 (by kernel_rfl) ?_
                refine TX.ef0 (listed' := #[true, true, true, true, true, true, true, true, true, true, true, true, true, true]) [] rfl (Ef.store_el (us := [.int .i64 R41]) (is' := [.own V_s0 (lc (((((s.set a.toNat R5).set d.toNat R14).set c.toNat R23).set b.toNat R32).set a.toNat R41))]) R41 0 kk3 rfl rfl (idx_get H38).2.2 rfl rfl (Cel.plain rfl rfl) rfl rfl rfl rfl) rfl rfl rfl (fun _ => rfl) (fun _ => ?_)
                refine TA.nil (by kernel_rfl) ?_
                exact TE.jb_go () [0] ⟨rfl, rfl, rfl, rfl, rfl, trivial⟩ rfl
          · refine TE.next ?_
            refine TW.seq ?_
            refine TW.bind fun E46 H47 => ?_
            refine TW.bind fun E48 H49 => ?_
            refine TW.bind fun R50 H51 => ?_
            refine TW.joinU (X := Unit) (fun _ _ => [(0, V_s0), (2, .int .i64 b), (3, .int .i64 c), (4, .int .i64 d)]) (fun _ _ => [.own V_s0 (lc ((((((s.set a.toNat R5).set d.toNat R14).set c.toNat R23).set b.toNat R32).set a.toNat R41).set d.toNat R50))]) ?_ (fun _ X54 => ?_)
            · refine TW.draw (isH := []) hMix ?_
              refine TA.y (listed' := #[true, false, false, false, false, false, false, false, false, false, false, false, false, false]) 0 [] rfl (Y.move rfl) rfl rfl rfl (by kernel_rfl) (by kernel_rfl) (by kernel_rfl) rfl rfl ?_
              refine TA.y (listed' := #[true, true, false, false, false, false, false, false, false, false, false, false, false, false]) 1 [] rfl (Y.move rfl) rfl rfl rfl (by kernel_rfl) (by kernel_rfl) (by kernel_rfl) rfl rfl ?_
              refine TA.y (listed' := #[true, true, true, false, false, false, false, false, false, false, false, false, false, false]) 2 [] rfl (Y.move rfl) rfl rfl rfl (by kernel_rfl) (by kernel_rfl) (by kernel_rfl) rfl rfl ?_
              refine TA.y (listed' := #[true, true, true, true, false, false, false, false, false, false, false, false, false, false]) 3 [] rfl (Y.move rfl) rfl rfl rfl (by kernel_rfl) (by kernel_rfl) (by kernel_rfl) rfl rfl ?_
              refine TA.y (listed' := #[true, true, true, true, false, false, true, false, false, false, false, false, false, false]) 6 [] rfl (Y.move rfl) rfl rfl rfl (by kernel_rfl) (by kernel_rfl) (by kernel_rfl) rfl rfl ?_
              refine TA.y (listed' := #[true, true, true, true, false, false, true, true, false, false, false, false, false, false]) 7 [] rfl (Y.move rfl) rfl rfl rfl (by kernel_rfl) (by kernel_rfl) (by kernel_rfl) rfl rfl ?_
              refine TA.two 4 8 (by kernel_rfl) ?_ ?_
              · refine TX.y (listed' := #[true, true, true, true, true, false, true, true, false, false, false, false, false, false]) [] rfl (Y.index ke24 (Can.own 0 rfl) H47 rfl rfl) rfl rfl rfl rfl rfl ?_
                refine TA.two 5 8 (by kernel_rfl) ?_ ?_
                · refine TX.y (listed' := #[true, true, true, true, true, true, true, true, false, false, false, false, false, false]) [] rfl (Y.load_el (us := [.int .i64 E46]) (u := .int .i64 E46) kk3 rfl (Can.own 0 rfl) (idx_get H47).2.2 rfl rfl rfl rfl rfl) rfl rfl rfl rfl rfl ?_
                  refine TA.one 8 (by kernel_rfl) ?_
                  refine TX.y (listed' := #[true, true, true, true, true, true, true, true, true, false, false, false, false, false]) [] rfl (Y.index ke24 (Can.own 0 rfl) H49 rfl rfl) rfl rfl rfl rfl rfl ?_
                  refine TA.one 9 (by kernel_rfl) ?_
                  refine TX.y (listed' := #[true, true, true, true, true, true, true, true, true, true, false, false, false, false]) [] rfl (Y.load_el (us := [.int .i64 E48]) (u := .int .i64 E48) kk3 rfl (Can.own 0 rfl) (idx_get H49).2.2 rfl rfl rfl rfl rfl) rfl rfl rfl rfl rfl ?_
                  refine TA.y (listed' := #[true, true, true, true, true, true, true, true, true, true, true, false, false, false]) 10 [] rfl (Y.xor rfl rfl) rfl rfl rfl (by kernel_rfl) (by kernel_rfl) (by kernel_rfl) rfl rfl ?_
                  refine TA.one 11 (by kernel_rfl) ?_
                  refine TX.ef (listed' := #[true, true, true, true, true, true, true, true, true, true, true, true, false, false]) [] rfl (Ef.call (rest := [.own V_s0 (lc (((((s.set a.toNat R5).set d.toNat R14).set c.toNat R23).set b.toNat R32).set a.toNat R41))]) [0] (spec_l3Left_con (ixor .i64 E46 E48) (8 : Int)  R50 H51) kc65 rfl rfl trivial) rfl rfl rfl rfl (fun _ => rfl) (fun _ => ?_)
                  refine TA.one 12 (by kernel_rfl) ?_
                  refine TX.y (listed' := #[true, true, true, true, true, true, true, true, true, true, true, true, true, false]) [] rfl (Y.index ke24 (Can.own 0 rfl) H47 rfl rfl) rfl rfl rfl rfl rfl ?_
                  refine TA.one 13 (by kernel_rfl) ?_
                  refine TX.ef0 (listed' := #[true, true, true, true, true, true, true, true, true, true, true, true, true, true]) [] rfl (Ef.store_el (us := [.int .i64 R50]) (is' := [.own V_s0 (lc ((((((s.set a.toNat R5).set d.toNat R14).set c.toNat R23).set b.toNat R32).set a.toNat R41).set d.toNat R50))]) R50 0 kk3 rfl rfl (idx_get H47).2.2 rfl rfl (Cel.plain rfl rfl) rfl rfl rfl rfl) rfl rfl rfl (fun _ => rfl) (fun _ => ?_)
                  refine TA.nil (by kernel_rfl) ?_
                  exact TE.jb_go () [0] ⟨rfl, rfl, rfl, rfl, trivial⟩ rfl
                · refine TX.y (listed' := #[true, true, true, true, true, false, true, true, true, false, false, false, false, false]) [] rfl (Y.index ke24 (Can.own 0 rfl) H49 rfl rfl) rfl rfl rfl rfl rfl ?_
                  refine TA.two 5 9 (by kernel_rfl) ?_ ?_
                  · refine TX.y (listed' := #[true, true, true, true, true, true, true, true, true, false, false, false, false, false]) [] rfl (Y.load_el (us := [.int .i64 E46]) (u := .int .i64 E46) kk3 rfl (Can.own 0 rfl) (idx_get H47).2.2 rfl rfl rfl rfl rfl) rfl rfl rfl rfl rfl ?_
                    refine TA.one 9 (by kernel_rfl) ?_
                    refine TX.y (listed' := #[true, true, true, true, true, true, true, true, true, true, false, false, false, false]) [] rfl (Y.load_el (us := [.int .i64 E48]) (u := .int .i64 E48) kk3 rfl (Can.own 0 rfl) (idx_get H49).2.2 rfl rfl rfl rfl rfl) rfl rfl rfl rfl rfl ?_
                    refine TA.y (listed' := #[true, true, true, true, true, true, true, true, true, true, true, false, false, false]) 10 [] rfl (Y.xor rfl rfl) rfl rfl rfl (by kernel_rfl) (by kernel_rfl) (by kernel_rfl) rfl rfl ?_
                    refine TA.one 11 (by kernel_rfl) ?_
                    refine TX.ef (listed' := #[true, true, true, true, true, true, true, true, true, true, true, true, false, false]) [] rfl (Ef.call (rest := [.own V_s0 (lc (((((s.set a.toNat R5).set d.toNat R14).set c.toNat R23).set b.toNat R32).set a.toNat R41))]) [0] (spec_l3Left_con (ixor .i64 E46 E48) (8 : Int)  R50 H51) kc65 rfl rfl trivial) rfl rfl rfl rfl (fun _ => rfl) (fun _ => ?_)
                    refine TA.one 12 (by kernel_rfl) ?_
                    refine TX.y (listed' := #[true, true, true, true, true, true, true, true, true, true, true, true, true, false]) [] rfl (Y.index ke24 (Can.own 0 rfl) H47 rfl rfl) rfl rfl rfl rfl rfl ?_
                    refine TA.one 13 (by kernel_rfl) ?_
                    refine TX.ef0 (listed' := #[true, true, true, true, true, true, true, true, true, true, true, true, true, true]) [] rfl (Ef.store_el (us := [.int .i64 R50]) (is' := [.own V_s0 (lc ((((((s.set a.toNat R5).set d.toNat R14).set c.toNat R23).set b.toNat R32).set a.toNat R41).set d.toNat R50))]) R50 0 kk3 rfl rfl (idx_get H47).2.2 rfl rfl (Cel.plain rfl rfl) rfl rfl rfl rfl) rfl rfl rfl (fun _ => rfl) (fun _ => ?_)
                    refine TA.nil (by kernel_rfl) ?_
                    exact TE.jb_go () [0] ⟨rfl, rfl, rfl, rfl, trivial⟩ rfl
                  · refine TX.y (listed' := #[true, true, true, true, true, false, true, true, true, true, false, false, false, false]) [] rfl (Y.load_el (us := [.int .i64 E48]) (u := .int .i64 E48) kk3 rfl (Can.own 0 rfl) (idx_get H49).2.2 rfl rfl rfl rfl rfl) rfl rfl rfl rfl rfl ?_
                    refine TA.one 5 (by kernel_rfl) ?_
                    refine TX.y (listed' := #[true, true, true, true, true, true, true, true, true, true, false, false, false, false]) [] rfl (Y.load_el (us := [.int .i64 E46]) (u := .int .i64 E46) kk3 rfl (Can.own 0 rfl) (idx_get H47).2.2 rfl rfl rfl rfl rfl) rfl rfl rfl rfl rfl ?_
                    refine TA.y (listed' := #[true, true, true, true, true, true, true, true, true, true, true, false, false, false]) 10 [] rfl (Y.xor rfl rfl) rfl rfl rfl (by kernel_rfl) (by kernel_rfl) (by kernel_rfl) rfl rfl ?_
                    refine TA.one 11 (by kernel_rfl) ?_
                    refine TX.ef (listed' := #[true, true, true, true, true, true, true, true, true, true, true, true, false, false]) [] rfl (Ef.call (rest := [.own V_s0 (lc (((((s.set a.toNat R5).set d.toNat R14).set c.toNat R23).set b.toNat R32).set a.toNat R41))]) [0] (spec_l3Left_con (ixor .i64 E46 E48) (8 : Int)  R50 H51) kc65 rfl rfl trivial) rfl rfl rfl rfl (fun _ => rfl) (fun _ => ?_)
                    refine TA.one 12 (by kernel_rfl) ?_
                    refine TX.y (listed' := #[true, true, true, true, true, true, true, true, true, true, true, true, true, false]) [] rfl (Y.index ke24 (Can.own 0 rfl) H47 rfl rfl) rfl rfl rfl rfl rfl ?_
                    refine TA.one 13 (by kernel_rfl) ?_
                    refine TX.ef0 (listed' := #[true, true, true, true, true, true, true, true, true, true, true, true, true, true]) [] rfl (Ef.store_el (us := [.int .i64 R50]) (is' := [.own V_s0 (lc ((((((s.set a.toNat R5).set d.toNat R14).set c.toNat R23).set b.toNat R32).set a.toNat R41).set d.toNat R50))]) R50 0 kk3 rfl rfl (idx_get H47).2.2 rfl rfl (Cel.plain rfl rfl) rfl rfl rfl rfl) rfl rfl rfl (fun _ => rfl) (fun _ => ?_)
                    refine TA.nil (by kernel_rfl) ?_
                    exact TE.jb_go () [0] ⟨rfl, rfl, rfl, rfl, trivial⟩ rfl
              · refine TX.y (listed' := #[true, true, true, true, false, false, true, true, true, false, false, false, false, false]) [] rfl (Y.index ke24 (Can.own 0 rfl) H49 rfl rfl) rfl rfl rfl rfl rfl ?_
                refine TA.two 4 9 (by kernel_rfl) ?_ ?_
                · refine TX.y (listed' := #[true, true, true, true, true, false, true, true, true, false, false, false, false, false]) [] rfl (Y.index ke24 (Can.own 0 rfl) H47 rfl rfl) rfl rfl rfl rfl rfl ?_
                  refine TA.two 5 9 (by kernel_rfl) ?_ ?_
                  · refine TX.y (listed' := #[true, true, true, true, true, true, true, true, true, false, false, false, false, false]) [] rfl (Y.load_el (us := [.int .i64 E46]) (u := .int .i64 E46) kk3 rfl (Can.own 0 rfl) (idx_get H47).2.2 rfl rfl rfl rfl rfl) rfl rfl rfl rfl rfl ?_
                    refine TA.one 9 (by kernel_rfl) ?_
                    refine TX.y (listed' := #[true, true, true, true, true, true, true, true, true, true, false, false, false, false]) [] rfl (Y.load_el (us := [.int .i64 E48]) (u := .int .i64 E48) kk3 rfl (Can.own 0 rfl) (idx_get H49).2.2 rfl rfl rfl rfl rfl) rfl rfl rfl rfl rfl ?_
                    refine TA.y (listed' := #[true, true, true, true, true, true, true, true, true, true, true, false, false, false]) 10 [] rfl (Y.xor rfl rfl) rfl rfl rfl (by kernel_rfl) (by kernel_rfl) (by kernel_rfl) rfl rfl ?_
                    refine TA.one 11 (by kernel_rfl) ?_
                    refine TX.ef (listed' := #[true, true, true, true, true, true, true, true, true, true, true, true, false, false]) [] rfl (Ef.call (rest := [.own V_s0 (lc (((((s.set a.toNat R5).set d.toNat R14).set c.toNat R23).set b.toNat R32).set a.toNat R41))]) [0] (spec_l3Left_con (ixor .i64 E46 E48) (8 : Int)  R50 H51) kc65 rfl rfl trivial) rfl rfl rfl rfl (fun _ => rfl) (fun _ => ?_)
                    refine TA.one 12 (by kernel_rfl) ?_
                    refine TX.y (listed' := #[true, true, true, true, true, true, true, true, true, true, true, true, true, false]) [] rfl (Y.index ke24 (Can.own 0 rfl) H47 rfl rfl) rfl rfl rfl rfl rfl ?_
                    refine TA.one 13 (by kernel_rfl) ?_
                    refine TX.ef0 (listed' := #[true, true, true, true, true, true, true, true, true, true, true, true, true, true]) [] rfl (Ef.store_el (us := [.int .i64 R50]) (is' := [.own V_s0 (lc ((((((s.set a.toNat R5).set d.toNat R14).set c.toNat R23).set b.toNat R32).set a.toNat R41).set d.toNat R50))]) R50 0 kk3 rfl rfl (idx_get H47).2.2 rfl rfl (Cel.plain rfl rfl) rfl rfl rfl rfl) rfl rfl rfl (fun _ => rfl) (fun _ => ?_)
                    refine TA.nil (by kernel_rfl) ?_
                    exact TE.jb_go () [0] ⟨rfl, rfl, rfl, rfl, trivial⟩ rfl
                  · refine TX.y (listed' := #[true, true, true, true, true, false, true, true, true, true, false, false, false, false]) [] rfl (Y.load_el (us := [.int .i64 E48]) (u := .int .i64 E48) kk3 rfl (Can.own 0 rfl) (idx_get H49).2.2 rfl rfl rfl rfl rfl) rfl rfl rfl rfl rfl ?_
                    refine TA.one 5 (by kernel_rfl) ?_
                    refine TX.y (listed' := #[true, true, true, true, true, true, true, true, true, true, false, false, false, false]) [] rfl (Y.load_el (us := [.int .i64 E46]) (u := .int .i64 E46) kk3 rfl (Can.own 0 rfl) (idx_get H47).2.2 rfl rfl rfl rfl rfl) rfl rfl rfl rfl rfl ?_
                    refine TA.y (listed' := #[true, true, true, true, true, true, true, true, true, true, true, false, false, false]) 10 [] rfl (Y.xor rfl rfl) rfl rfl rfl (by kernel_rfl) (by kernel_rfl) (by kernel_rfl) rfl rfl ?_
                    refine TA.one 11 (by kernel_rfl) ?_
                    refine TX.ef (listed' := #[true, true, true, true, true, true, true, true, true, true, true, true, false, false]) [] rfl (Ef.call (rest := [.own V_s0 (lc (((((s.set a.toNat R5).set d.toNat R14).set c.toNat R23).set b.toNat R32).set a.toNat R41))]) [0] (spec_l3Left_con (ixor .i64 E46 E48) (8 : Int)  R50 H51) kc65 rfl rfl trivial) rfl rfl rfl rfl (fun _ => rfl) (fun _ => ?_)
                    refine TA.one 12 (by kernel_rfl) ?_
                    refine TX.y (listed' := #[true, true, true, true, true, true, true, true, true, true, true, true, true, false]) [] rfl (Y.index ke24 (Can.own 0 rfl) H47 rfl rfl) rfl rfl rfl rfl rfl ?_
                    refine TA.one 13 (by kernel_rfl) ?_
                    refine TX.ef0 (listed' := #[true, true, true, true, true, true, true, true, true, true, true, true, true, true]) [] rfl (Ef.store_el (us := [.int .i64 R50]) (is' := [.own V_s0 (lc ((((((s.set a.toNat R5).set d.toNat R14).set c.toNat R23).set b.toNat R32).set a.toNat R41).set d.toNat R50))]) R50 0 kk3 rfl rfl (idx_get H47).2.2 rfl rfl (Cel.plain rfl rfl) rfl rfl rfl rfl) rfl rfl rfl (fun _ => rfl) (fun _ => ?_)
                    refine TA.nil (by kernel_rfl) ?_
                    exact TE.jb_go () [0] ⟨rfl, rfl, rfl, rfl, trivial⟩ rfl
                · refine TX.y (listed' := #[true, true, true, true, false, false, true, true, true, true, false, false, false, false]) [] rfl (Y.load_el (us := [.int .i64 E48]) (u := .int .i64 E48) kk3 rfl (Can.own 0 rfl) (idx_get H49).2.2 rfl rfl rfl rfl rfl) rfl rfl rfl rfl rfl ?_
                  refine TA.one 4 (by kernel_rfl) ?_
                  refine TX.y (listed' := #[true, true, true, true, true, false, true, true, true, true, false, false, false, false]) [] rfl (Y.index ke24 (Can.own 0 rfl) H47 rfl rfl) rfl rfl rfl rfl rfl ?_
                  refine TA.one 5 (by kernel_rfl) ?_
                  refine TX.y (listed' := #[true, true, true, true, true, true, true, true, true, true, false, false, false, false]) [] rfl (Y.load_el (us := [.int .i64 E46]) (u := .int .i64 E46) kk3 rfl (Can.own 0 rfl) (idx_get H47).2.2 rfl rfl rfl rfl rfl) rfl rfl rfl rfl rfl ?_
                  refine TA.y (listed' := #[true, true, true, true, true, true, true, true, true, true, true, false, false, false]) 10 [] rfl (Y.xor rfl rfl) rfl rfl rfl (by kernel_rfl) (by kernel_rfl) (by kernel_rfl) rfl rfl ?_
                  refine TA.one 11 (by kernel_rfl) ?_
                  refine TX.ef (listed' := #[true, true, true, true, true, true, true, true, true, true, true, true, false, false]) [] rfl (Ef.call (rest := [.own V_s0 (lc (((((s.set a.toNat R5).set d.toNat R14).set c.toNat R23).set b.toNat R32).set a.toNat R41))]) [0] (spec_l3Left_con (ixor .i64 E46 E48) (8 : Int)  R50 H51) kc65 rfl rfl trivial) rfl rfl rfl rfl (fun _ => rfl) (fun _ => ?_)
                  refine TA.one 12 (by kernel_rfl) ?_
                  refine TX.y (listed' := #[true, true, true, true, true, true, true, true, true, true, true, true, true, false]) [] rfl (Y.index ke24 (Can.own 0 rfl) H47 rfl rfl) rfl rfl rfl rfl rfl ?_
                  refine TA.one 13 (by kernel_rfl) ?_
                  refine TX.ef0 (listed' := #[true, true, true, true, true, true, true, true, true, true, true, true, true, true]) [] rfl (Ef.store_el (us := [.int .i64 R50]) (is' := [.own V_s0 (lc ((((((s.set a.toNat R5).set d.toNat R14).set c.toNat R23).set b.toNat R32).set a.toNat R41).set d.toNat R50))]) R50 0 kk3 rfl rfl (idx_get H47).2.2 rfl rfl (Cel.plain rfl rfl) rfl rfl rfl rfl) rfl rfl rfl (fun _ => rfl) (fun _ => ?_)
                  refine TA.nil (by kernel_rfl) ?_
                  exact TE.jb_go () [0] ⟨rfl, rfl, rfl, rfl, trivial⟩ rfl
            · refine TE.next ?_
              refine TW.seq ?_
              refine TW.bind fun E55 H56 => ?_
              refine TW.bind fun E57 H58 => ?_
              refine TW.bind fun R59 H60 => ?_
              refine TW.joinU (X := Unit) (fun _ _ => [(0, V_s0), (2, .int .i64 b), (3, .int .i64 c)]) (fun _ _ => [.own V_s0 (lc (((((((s.set a.toNat R5).set d.toNat R14).set c.toNat R23).set b.toNat R32).set a.toNat R41).set d.toNat R50).set c.toNat R59))]) ?_ (fun _ X63 => ?_)
              · refine TW.draw (isH := []) hMix ?_
                refine TA.y (listed' := #[true, false, false, false, false, false, false, false, false, false, false, false, false, false]) 0 [] rfl (Y.move rfl) rfl rfl rfl (by kernel_rfl) (by kernel_rfl) (by kernel_rfl) rfl rfl ?_
                refine TA.y (listed' := #[true, true, false, false, false, false, false, false, false, false, false, false, false, false]) 1 [] rfl (Y.move rfl) rfl rfl rfl (by kernel_rfl) (by kernel_rfl) (by kernel_rfl) rfl rfl ?_
                refine TA.y (listed' := #[true, true, true, false, false, false, false, false, false, false, false, false, false, false]) 2 [] rfl (Y.move rfl) rfl rfl rfl (by kernel_rfl) (by kernel_rfl) (by kernel_rfl) rfl rfl ?_
                refine TA.y (listed' := #[true, true, true, true, false, false, false, false, false, false, false, false, false, false]) 3 [] rfl (Y.move rfl) rfl rfl rfl (by kernel_rfl) (by kernel_rfl) (by kernel_rfl) rfl rfl ?_
                refine TA.y (listed' := #[true, true, true, true, false, false, true, false, false, false, false, false, false, false]) 6 [] rfl (Y.move rfl) rfl rfl rfl (by kernel_rfl) (by kernel_rfl) (by kernel_rfl) rfl rfl ?_
                refine TA.y (listed' := #[true, true, true, true, false, false, true, true, false, false, false, false, false, false]) 7 [] rfl (Y.move rfl) rfl rfl rfl (by kernel_rfl) (by kernel_rfl) (by kernel_rfl) rfl rfl ?_
                refine TA.two 4 8 (by kernel_rfl) ?_ ?_
                · refine TX.y (listed' := #[true, true, true, true, true, false, true, true, false, false, false, false, false, false]) [] rfl (Y.index ke24 (Can.own 0 rfl) H56 rfl rfl) rfl rfl rfl rfl rfl ?_
                  refine TA.two 5 8 (by kernel_rfl) ?_ ?_
                  · refine TX.y (listed' := #[true, true, true, true, true, true, true, true, false, false, false, false, false, false]) [] rfl (Y.load_el (us := [.int .i64 E55]) (u := .int .i64 E55) kk3 rfl (Can.own 0 rfl) (idx_get H56).2.2 rfl rfl rfl rfl rfl) rfl rfl rfl rfl rfl ?_
                    refine TA.one 8 (by kernel_rfl) ?_
                    refine TX.y (listed' := #[true, true, true, true, true, true, true, true, true, false, false, false, false, false]) [] rfl (Y.index ke24 (Can.own 0 rfl) H58 rfl rfl) rfl rfl rfl rfl rfl ?_
                    refine TA.one 9 (by kernel_rfl) ?_
                    refine TX.y (listed' := #[true, true, true, true, true, true, true, true, true, true, false, false, false, false]) [] rfl (Y.load_el (us := [.int .i64 E57]) (u := .int .i64 E57) kk3 rfl (Can.own 0 rfl) (idx_get H58).2.2 rfl rfl rfl rfl rfl) rfl rfl rfl rfl rfl ?_
                    refine TA.y (listed' := #[true, true, true, true, true, true, true, true, true, true, true, false, false, false]) 10 [] rfl (Y.add rfl rfl) rfl rfl rfl (by kernel_rfl) (by kernel_rfl) (by kernel_rfl) rfl rfl ?_
                    refine TA.one 11 (by kernel_rfl) ?_
                    refine TX.ef (listed' := #[true, true, true, true, true, true, true, true, true, true, true, true, false, false]) [] rfl (Ef.call (rest := [.own V_s0 (lc ((((((s.set a.toNat R5).set d.toNat R14).set c.toNat R23).set b.toNat R32).set a.toNat R41).set d.toNat R50))]) [0] (spec_l3Word_con (IntKind.i64.wrap (E55 + E57))  R59 H60) kc64 rfl rfl trivial) rfl rfl rfl rfl (fun _ => rfl) (fun _ => ?_)
                    refine TA.one 12 (by kernel_rfl) ?_
                    refine TX.y (listed' := #[true, true, true, true, true, true, true, true, true, true, true, true, true, false]) [] rfl (Y.index ke24 (Can.own 0 rfl) H56 rfl rfl) rfl rfl rfl rfl rfl ?_
                    refine TA.one 13 (by kernel_rfl) ?_
                    refine TX.ef0 (listed' := #[true, true, true, true, true, true, true, true, true, true, true, true, true, true]) [] rfl (Ef.store_el (us := [.int .i64 R59]) (is' := [.own V_s0 (lc (((((((s.set a.toNat R5).set d.toNat R14).set c.toNat R23).set b.toNat R32).set a.toNat R41).set d.toNat R50).set c.toNat R59))]) R59 0 kk3 rfl rfl (idx_get H56).2.2 rfl rfl (Cel.plain rfl rfl) rfl rfl rfl rfl) rfl rfl rfl (fun _ => rfl) (fun _ => ?_)
                    refine TA.nil (by kernel_rfl) ?_
                    exact TE.jb_go () [0] ⟨rfl, rfl, rfl, trivial⟩ rfl
                  · refine TX.y (listed' := #[true, true, true, true, true, false, true, true, true, false, false, false, false, false]) [] rfl (Y.index ke24 (Can.own 0 rfl) H58 rfl rfl) rfl rfl rfl rfl rfl ?_
                    refine TA.two 5 9 (by kernel_rfl) ?_ ?_
                    · refine TX.y (listed' := #[true, true, true, true, true, true, true, true, true, false, false, false, false, false]) [] rfl (Y.load_el (us := [.int .i64 E55]) (u := .int .i64 E55) kk3 rfl (Can.own 0 rfl) (idx_get H56).2.2 rfl rfl rfl rfl rfl) rfl rfl rfl rfl rfl ?_
                      refine TA.one 9 (by kernel_rfl) ?_
                      refine TX.y (listed' := #[true, true, true, true, true, true, true, true, true, true, false, false, false, false]) [] rfl (Y.load_el (us := [.int .i64 E57]) (u := .int .i64 E57) kk3 rfl (Can.own 0 rfl) (idx_get H58).2.2 rfl rfl rfl rfl rfl) rfl rfl rfl rfl rfl ?_
                      refine TA.y (listed' := #[true, true, true, true, true, true, true, true, true, true, true, false, false, false]) 10 [] rfl (Y.add rfl rfl) rfl rfl rfl (by kernel_rfl) (by kernel_rfl) (by kernel_rfl) rfl rfl ?_
                      refine TA.one 11 (by kernel_rfl) ?_
                      refine TX.ef (listed' := #[true, true, true, true, true, true, true, true, true, true, true, true, false, false]) [] rfl (Ef.call (rest := [.own V_s0 (lc ((((((s.set a.toNat R5).set d.toNat R14).set c.toNat R23).set b.toNat R32).set a.toNat R41).set d.toNat R50))]) [0] (spec_l3Word_con (IntKind.i64.wrap (E55 + E57))  R59 H60) kc64 rfl rfl trivial) rfl rfl rfl rfl (fun _ => rfl) (fun _ => ?_)
                      refine TA.one 12 (by kernel_rfl) ?_
                      refine TX.y (listed' := #[true, true, true, true, true, true, true, true, true, true, true, true, true, false]) [] rfl (Y.index ke24 (Can.own 0 rfl) H56 rfl rfl) rfl rfl rfl rfl rfl ?_
                      refine TA.one 13 (by kernel_rfl) ?_
                      refine TX.ef0 (listed' := #[true, true, true, true, true, true, true, true, true, true, true, true, true, true]) [] rfl (Ef.store_el (us := [.int .i64 R59]) (is' := [.own V_s0 (lc (((((((s.set a.toNat R5).set d.toNat R14).set c.toNat R23).set b.toNat R32).set a.toNat R41).set d.toNat R50).set c.toNat R59))]) R59 0 kk3 rfl rfl (idx_get H56).2.2 rfl rfl (Cel.plain rfl rfl) rfl rfl rfl rfl) rfl rfl rfl (fun _ => rfl) (fun _ => ?_)
                      refine TA.nil (by kernel_rfl) ?_
                      exact TE.jb_go () [0] ⟨rfl, rfl, rfl, trivial⟩ rfl
                    · refine TX.y (listed' := #[true, true, true, true, true, false, true, true, true, true, false, false, false, false]) [] rfl (Y.load_el (us := [.int .i64 E57]) (u := .int .i64 E57) kk3 rfl (Can.own 0 rfl) (idx_get H58).2.2 rfl rfl rfl rfl rfl) rfl rfl rfl rfl rfl ?_
                      refine TA.one 5 (by kernel_rfl) ?_
                      refine TX.y (listed' := #[true, true, true, true, true, true, true, true, true, true, false, false, false, false]) [] rfl (Y.load_el (us := [.int .i64 E55]) (u := .int .i64 E55) kk3 rfl (Can.own 0 rfl) (idx_get H56).2.2 rfl rfl rfl rfl rfl) rfl rfl rfl rfl rfl ?_
                      refine TA.y (listed' := #[true, true, true, true, true, true, true, true, true, true, true, false, false, false]) 10 [] rfl (Y.add rfl rfl) rfl rfl rfl (by kernel_rfl) (by kernel_rfl) (by kernel_rfl) rfl rfl ?_
                      refine TA.one 11 (by kernel_rfl) ?_
                      refine TX.ef (listed' := #[true, true, true, true, true, true, true, true, true, true, true, true, false, false]) [] rfl (Ef.call (rest := [.own V_s0 (lc ((((((s.set a.toNat R5).set d.toNat R14).set c.toNat R23).set b.toNat R32).set a.toNat R41).set d.toNat R50))]) [0] (spec_l3Word_con (IntKind.i64.wrap (E55 + E57))  R59 H60) kc64 rfl rfl trivial) rfl rfl rfl rfl (fun _ => rfl) (fun _ => ?_)
                      refine TA.one 12 (by kernel_rfl) ?_
                      refine TX.y (listed' := #[true, true, true, true, true, true, true, true, true, true, true, true, true, false]) [] rfl (Y.index ke24 (Can.own 0 rfl) H56 rfl rfl) rfl rfl rfl rfl rfl ?_
                      refine TA.one 13 (by kernel_rfl) ?_
                      refine TX.ef0 (listed' := #[true, true, true, true, true, true, true, true, true, true, true, true, true, true]) [] rfl (Ef.store_el (us := [.int .i64 R59]) (is' := [.own V_s0 (lc (((((((s.set a.toNat R5).set d.toNat R14).set c.toNat R23).set b.toNat R32).set a.toNat R41).set d.toNat R50).set c.toNat R59))]) R59 0 kk3 rfl rfl (idx_get H56).2.2 rfl rfl (Cel.plain rfl rfl) rfl rfl rfl rfl) rfl rfl rfl (fun _ => rfl) (fun _ => ?_)
                      refine TA.nil (by kernel_rfl) ?_
                      exact TE.jb_go () [0] ⟨rfl, rfl, rfl, trivial⟩ rfl
                · refine TX.y (listed' := #[true, true, true, true, false, false, true, true, true, false, false, false, false, false]) [] rfl (Y.index ke24 (Can.own 0 rfl) H58 rfl rfl) rfl rfl rfl rfl rfl ?_
                  refine TA.two 4 9 (by kernel_rfl) ?_ ?_
                  · refine TX.y (listed' := #[true, true, true, true, true, false, true, true, true, false, false, false, false, false]) [] rfl (Y.index ke24 (Can.own 0 rfl) H56 rfl rfl) rfl rfl rfl rfl rfl ?_
                    refine TA.two 5 9 (by kernel_rfl) ?_ ?_
                    · refine TX.y (listed' := #[true, true, true, true, true, true, true, true, true, false, false, false, false, false]) [] rfl (Y.load_el (us := [.int .i64 E55]) (u := .int .i64 E55) kk3 rfl (Can.own 0 rfl) (idx_get H56).2.2 rfl rfl rfl rfl rfl) rfl rfl rfl rfl rfl ?_
                      refine TA.one 9 (by kernel_rfl) ?_
                      refine TX.y (listed' := #[true, true, true, true, true, true, true, true, true, true, false, false, false, false]) [] rfl (Y.load_el (us := [.int .i64 E57]) (u := .int .i64 E57) kk3 rfl (Can.own 0 rfl) (idx_get H58).2.2 rfl rfl rfl rfl rfl) rfl rfl rfl rfl rfl ?_
                      refine TA.y (listed' := #[true, true, true, true, true, true, true, true, true, true, true, false, false, false]) 10 [] rfl (Y.add rfl rfl) rfl rfl rfl (by kernel_rfl) (by kernel_rfl) (by kernel_rfl) rfl rfl ?_
                      refine TA.one 11 (by kernel_rfl) ?_
                      refine TX.ef (listed' := #[true, true, true, true, true, true, true, true, true, true, true, true, false, false]) [] rfl (Ef.call (rest := [.own V_s0 (lc ((((((s.set a.toNat R5).set d.toNat R14).set c.toNat R23).set b.toNat R32).set a.toNat R41).set d.toNat R50))]) [0] (spec_l3Word_con (IntKind.i64.wrap (E55 + E57))  R59 H60) kc64 rfl rfl trivial) rfl rfl rfl rfl (fun _ => rfl) (fun _ => ?_)
                      refine TA.one 12 (by kernel_rfl) ?_
                      refine TX.y (listed' := #[true, true, true, true, true, true, true, true, true, true, true, true, true, false]) [] rfl (Y.index ke24 (Can.own 0 rfl) H56 rfl rfl) rfl rfl rfl rfl rfl ?_
                      refine TA.one 13 (by kernel_rfl) ?_
                      refine TX.ef0 (listed' := #[true, true, true, true, true, true, true, true, true, true, true, true, true, true]) [] rfl (Ef.store_el (us := [.int .i64 R59]) (is' := [.own V_s0 (lc (((((((s.set a.toNat R5).set d.toNat R14).set c.toNat R23).set b.toNat R32).set a.toNat R41).set d.toNat R50).set c.toNat R59))]) R59 0 kk3 rfl rfl (idx_get H56).2.2 rfl rfl (Cel.plain rfl rfl) rfl rfl rfl rfl) rfl rfl rfl (fun _ => rfl) (fun _ => ?_)
                      refine TA.nil (by kernel_rfl) ?_
                      exact TE.jb_go () [0] ⟨rfl, rfl, rfl, trivial⟩ rfl
                    · refine TX.y (listed' := #[true, true, true, true, true, false, true, true, true, true, false, false, false, false]) [] rfl (Y.load_el (us := [.int .i64 E57]) (u := .int .i64 E57) kk3 rfl (Can.own 0 rfl) (idx_get H58).2.2 rfl rfl rfl rfl rfl) rfl rfl rfl rfl rfl ?_
                      refine TA.one 5 (by kernel_rfl) ?_
                      refine TX.y (listed' := #[true, true, true, true, true, true, true, true, true, true, false, false, false, false]) [] rfl (Y.load_el (us := [.int .i64 E55]) (u := .int .i64 E55) kk3 rfl (Can.own 0 rfl) (idx_get H56).2.2 rfl rfl rfl rfl rfl) rfl rfl rfl rfl rfl ?_
                      refine TA.y (listed' := #[true, true, true, true, true, true, true, true, true, true, true, false, false, false]) 10 [] rfl (Y.add rfl rfl) rfl rfl rfl (by kernel_rfl) (by kernel_rfl) (by kernel_rfl) rfl rfl ?_
                      refine TA.one 11 (by kernel_rfl) ?_
                      refine TX.ef (listed' := #[true, true, true, true, true, true, true, true, true, true, true, true, false, false]) [] rfl (Ef.call (rest := [.own V_s0 (lc ((((((s.set a.toNat R5).set d.toNat R14).set c.toNat R23).set b.toNat R32).set a.toNat R41).set d.toNat R50))]) [0] (spec_l3Word_con (IntKind.i64.wrap (E55 + E57))  R59 H60) kc64 rfl rfl trivial) rfl rfl rfl rfl (fun _ => rfl) (fun _ => ?_)
                      refine TA.one 12 (by kernel_rfl) ?_
                      refine TX.y (listed' := #[true, true, true, true, true, true, true, true, true, true, true, true, true, false]) [] rfl (Y.index ke24 (Can.own 0 rfl) H56 rfl rfl) rfl rfl rfl rfl rfl ?_
                      refine TA.one 13 (by kernel_rfl) ?_
                      refine TX.ef0 (listed' := #[true, true, true, true, true, true, true, true, true, true, true, true, true, true]) [] rfl (Ef.store_el (us := [.int .i64 R59]) (is' := [.own V_s0 (lc (((((((s.set a.toNat R5).set d.toNat R14).set c.toNat R23).set b.toNat R32).set a.toNat R41).set d.toNat R50).set c.toNat R59))]) R59 0 kk3 rfl rfl (idx_get H56).2.2 rfl rfl (Cel.plain rfl rfl) rfl rfl rfl rfl) rfl rfl rfl (fun _ => rfl) (fun _ => ?_)
                      refine TA.nil (by kernel_rfl) ?_
                      exact TE.jb_go () [0] ⟨rfl, rfl, rfl, trivial⟩ rfl
                  · refine TX.y (listed' := #[true, true, true, true, false, false, true, true, true, true, false, false, false, false]) [] rfl (Y.load_el (us := [.int .i64 E57]) (u := .int .i64 E57) kk3 rfl (Can.own 0 rfl) (idx_get H58).2.2 rfl rfl rfl rfl rfl) rfl rfl rfl rfl rfl ?_
                    refine TA.one 4 (by kernel_rfl) ?_
                    refine TX.y (listed' := #[true, true, true, true, true, false, true, true, true, true, false, false, false, false]) [] rfl (Y.index ke24 (Can.own 0 rfl) H56 rfl rfl) rfl rfl rfl rfl rfl ?_
                    refine TA.one 5 (by kernel_rfl) ?_
                    refine TX.y (listed' := #[true, true, true, true, true, true, true, true, true, true, false, false, false, false]) [] rfl (Y.load_el (us := [.int .i64 E55]) (u := .int .i64 E55) kk3 rfl (Can.own 0 rfl) (idx_get H56).2.2 rfl rfl rfl rfl rfl) rfl rfl rfl rfl rfl ?_
                    refine TA.y (listed' := #[true, true, true, true, true, true, true, true, true, true, true, false, false, false]) 10 [] rfl (Y.add rfl rfl) rfl rfl rfl (by kernel_rfl) (by kernel_rfl) (by kernel_rfl) rfl rfl ?_
                    refine TA.one 11 (by kernel_rfl) ?_
                    refine TX.ef (listed' := #[true, true, true, true, true, true, true, true, true, true, true, true, false, false]) [] rfl (Ef.call (rest := [.own V_s0 (lc ((((((s.set a.toNat R5).set d.toNat R14).set c.toNat R23).set b.toNat R32).set a.toNat R41).set d.toNat R50))]) [0] (spec_l3Word_con (IntKind.i64.wrap (E55 + E57))  R59 H60) kc64 rfl rfl trivial) rfl rfl rfl rfl (fun _ => rfl) (fun _ => ?_)
                    refine TA.one 12 (by kernel_rfl) ?_
                    refine TX.y (listed' := #[true, true, true, true, true, true, true, true, true, true, true, true, true, false]) [] rfl (Y.index ke24 (Can.own 0 rfl) H56 rfl rfl) rfl rfl rfl rfl rfl ?_
                    refine TA.one 13 (by kernel_rfl) ?_
                    refine TX.ef0 (listed' := #[true, true, true, true, true, true, true, true, true, true, true, true, true, true]) [] rfl (Ef.store_el (us := [.int .i64 R59]) (is' := [.own V_s0 (lc (((((((s.set a.toNat R5).set d.toNat R14).set c.toNat R23).set b.toNat R32).set a.toNat R41).set d.toNat R50).set c.toNat R59))]) R59 0 kk3 rfl rfl (idx_get H56).2.2 rfl rfl (Cel.plain rfl rfl) rfl rfl rfl rfl) rfl rfl rfl (fun _ => rfl) (fun _ => ?_)
                    refine TA.nil (by kernel_rfl) ?_
                    exact TE.jb_go () [0] ⟨rfl, rfl, rfl, trivial⟩ rfl
              · refine TE.next ?_
                refine TW.seq ?_
                refine TW.bind fun E64 H65 => ?_
                refine TW.bind fun E66 H67 => ?_
                refine TW.bind fun R68 H69 => ?_
                refine TW.joinU (X := Unit) (fun _ _ => [(0, V_s0)]) (fun _ _ => [.own V_s0 (lc ((((((((s.set a.toNat R5).set d.toNat R14).set c.toNat R23).set b.toNat R32).set a.toNat R41).set d.toNat R50).set c.toNat R59).set b.toNat R68))]) ?_ (fun _ X72 => ?_)
                · refine TW.draw (isH := []) hMix ?_
                  refine TA.y (listed' := #[true, false, false, false, false, false, false, false, false, false, false, false, false, false]) 0 [] rfl (Y.move rfl) rfl rfl rfl (by kernel_rfl) (by kernel_rfl) (by kernel_rfl) rfl rfl ?_
                  refine TA.y (listed' := #[true, true, false, false, false, false, false, false, false, false, false, false, false, false]) 1 [] rfl (Y.move rfl) rfl rfl rfl (by kernel_rfl) (by kernel_rfl) (by kernel_rfl) rfl rfl ?_
                  refine TA.y (listed' := #[true, true, true, false, false, false, false, false, false, false, false, false, false, false]) 2 [] rfl (Y.move rfl) rfl rfl rfl (by kernel_rfl) (by kernel_rfl) (by kernel_rfl) rfl rfl ?_
                  refine TA.y (listed' := #[true, true, true, true, false, false, false, false, false, false, false, false, false, false]) 3 [] rfl (Y.move rfl) rfl rfl rfl (by kernel_rfl) (by kernel_rfl) (by kernel_rfl) rfl rfl ?_
                  refine TA.y (listed' := #[true, true, true, true, false, false, true, false, false, false, false, false, false, false]) 6 [] rfl (Y.move rfl) rfl rfl rfl (by kernel_rfl) (by kernel_rfl) (by kernel_rfl) rfl rfl ?_
                  refine TA.y (listed' := #[true, true, true, true, false, false, true, true, false, false, false, false, false, false]) 7 [] rfl (Y.move rfl) rfl rfl rfl (by kernel_rfl) (by kernel_rfl) (by kernel_rfl) rfl rfl ?_
                  refine TA.two 4 8 (by kernel_rfl) ?_ ?_
                  · refine TX.y (listed' := #[true, true, true, true, true, false, true, true, false, false, false, false, false, false]) [] rfl (Y.index ke24 (Can.own 0 rfl) H65 rfl rfl) rfl rfl rfl rfl rfl ?_
                    refine TA.two 5 8 (by kernel_rfl) ?_ ?_
                    · refine TX.y (listed' := #[true, true, true, true, true, true, true, true, false, false, false, false, false, false]) [] rfl (Y.load_el (us := [.int .i64 E64]) (u := .int .i64 E64) kk3 rfl (Can.own 0 rfl) (idx_get H65).2.2 rfl rfl rfl rfl rfl) rfl rfl rfl rfl rfl ?_
                      refine TA.one 8 (by kernel_rfl) ?_
                      refine TX.y (listed' := #[true, true, true, true, true, true, true, true, true, false, false, false, false, false]) [] rfl (Y.index ke24 (Can.own 0 rfl) H67 rfl rfl) rfl rfl rfl rfl rfl ?_
                      refine TA.one 9 (by kernel_rfl) ?_
                      refine TX.y (listed' := #[true, true, true, true, true, true, true, true, true, true, false, false, false, false]) [] rfl (Y.load_el (us := [.int .i64 E66]) (u := .int .i64 E66) kk3 rfl (Can.own 0 rfl) (idx_get H67).2.2 rfl rfl rfl rfl rfl) rfl rfl rfl rfl rfl ?_
                      refine TA.y (listed' := #[true, true, true, true, true, true, true, true, true, true, true, false, false, false]) 10 [] rfl (Y.xor rfl rfl) rfl rfl rfl (by kernel_rfl) (by kernel_rfl) (by kernel_rfl) rfl rfl ?_
                      refine TA.one 11 (by kernel_rfl) ?_
                      refine TX.ef (listed' := #[true, true, true, true, true, true, true, true, true, true, true, true, false, false]) [] rfl (Ef.call (rest := [.own V_s0 (lc (((((((s.set a.toNat R5).set d.toNat R14).set c.toNat R23).set b.toNat R32).set a.toNat R41).set d.toNat R50).set c.toNat R59))]) [0] (spec_l3Left_con (ixor .i64 E64 E66) (7 : Int)  R68 H69) kc65 rfl rfl trivial) rfl rfl rfl rfl (fun _ => rfl) (fun _ => ?_)
                      refine TA.one 12 (by kernel_rfl) ?_
                      refine TX.y (listed' := #[true, true, true, true, true, true, true, true, true, true, true, true, true, false]) [] rfl (Y.index ke24 (Can.own 0 rfl) H65 rfl rfl) rfl rfl rfl rfl rfl ?_
                      refine TA.one 13 (by kernel_rfl) ?_
                      refine TX.ef0 (listed' := #[true, true, true, true, true, true, true, true, true, true, true, true, true, true]) [] rfl (Ef.store_el (us := [.int .i64 R68]) (is' := [.own V_s0 (lc ((((((((s.set a.toNat R5).set d.toNat R14).set c.toNat R23).set b.toNat R32).set a.toNat R41).set d.toNat R50).set c.toNat R59).set b.toNat R68))]) R68 0 kk3 rfl rfl (idx_get H65).2.2 rfl rfl (Cel.plain rfl rfl) rfl rfl rfl rfl) rfl rfl rfl (fun _ => rfl) (fun _ => ?_)
                      refine TA.nil (by kernel_rfl) ?_
                      exact TE.jb_go () [0] ⟨rfl, trivial⟩ rfl
                    · refine TX.y (listed' := #[true, true, true, true, true, false, true, true, true, false, false, false, false, false]) [] rfl (Y.index ke24 (Can.own 0 rfl) H67 rfl rfl) rfl rfl rfl rfl rfl ?_
                      refine TA.two 5 9 (by kernel_rfl) ?_ ?_
                      · refine TX.y (listed' := #[true, true, true, true, true, true, true, true, true, false, false, false, false, false]) [] rfl (Y.load_el (us := [.int .i64 E64]) (u := .int .i64 E64) kk3 rfl (Can.own 0 rfl) (idx_get H65).2.2 rfl rfl rfl rfl rfl) rfl rfl rfl rfl rfl ?_
                        refine TA.one 9 (by kernel_rfl) ?_
                        refine TX.y (listed' := #[true, true, true, true, true, true, true, true, true, true, false, false, false, false]) [] rfl (Y.load_el (us := [.int .i64 E66]) (u := .int .i64 E66) kk3 rfl (Can.own 0 rfl) (idx_get H67).2.2 rfl rfl rfl rfl rfl) rfl rfl rfl rfl rfl ?_
                        refine TA.y (listed' := #[true, true, true, true, true, true, true, true, true, true, true, false, false, false]) 10 [] rfl (Y.xor rfl rfl) rfl rfl rfl (by kernel_rfl) (by kernel_rfl) (by kernel_rfl) rfl rfl ?_
                        refine TA.one 11 (by kernel_rfl) ?_
                        refine TX.ef (listed' := #[true, true, true, true, true, true, true, true, true, true, true, true, false, false]) [] rfl (Ef.call (rest := [.own V_s0 (lc (((((((s.set a.toNat R5).set d.toNat R14).set c.toNat R23).set b.toNat R32).set a.toNat R41).set d.toNat R50).set c.toNat R59))]) [0] (spec_l3Left_con (ixor .i64 E64 E66) (7 : Int)  R68 H69) kc65 rfl rfl trivial) rfl rfl rfl rfl (fun _ => rfl) (fun _ => ?_)
                        refine TA.one 12 (by kernel_rfl) ?_
                        refine TX.y (listed' := #[true, true, true, true, true, true, true, true, true, true, true, true, true, false]) [] rfl (Y.index ke24 (Can.own 0 rfl) H65 rfl rfl) rfl rfl rfl rfl rfl ?_
                        refine TA.one 13 (by kernel_rfl) ?_
                        refine TX.ef0 (listed' := #[true, true, true, true, true, true, true, true, true, true, true, true, true, true]) [] rfl (Ef.store_el (us := [.int .i64 R68]) (is' := [.own V_s0 (lc ((((((((s.set a.toNat R5).set d.toNat R14).set c.toNat R23).set b.toNat R32).set a.toNat R41).set d.toNat R50).set c.toNat R59).set b.toNat R68))]) R68 0 kk3 rfl rfl (idx_get H65).2.2 rfl rfl (Cel.plain rfl rfl) rfl rfl rfl rfl) rfl rfl rfl (fun _ => rfl) (fun _ => ?_)
                        refine TA.nil (by kernel_rfl) ?_
                        exact TE.jb_go () [0] ⟨rfl, trivial⟩ rfl
                      · refine TX.y (listed' := #[true, true, true, true, true, false, true, true, true, true, false, false, false, false]) [] rfl (Y.load_el (us := [.int .i64 E66]) (u := .int .i64 E66) kk3 rfl (Can.own 0 rfl) (idx_get H67).2.2 rfl rfl rfl rfl rfl) rfl rfl rfl rfl rfl ?_
                        refine TA.one 5 (by kernel_rfl) ?_
                        refine TX.y (listed' := #[true, true, true, true, true, true, true, true, true, true, false, false, false, false]) [] rfl (Y.load_el (us := [.int .i64 E64]) (u := .int .i64 E64) kk3 rfl (Can.own 0 rfl) (idx_get H65).2.2 rfl rfl rfl rfl rfl) rfl rfl rfl rfl rfl ?_
                        refine TA.y (listed' := #[true, true, true, true, true, true, true, true, true, true, true, false, false, false]) 10 [] rfl (Y.xor rfl rfl) rfl rfl rfl (by kernel_rfl) (by kernel_rfl) (by kernel_rfl) rfl rfl ?_
                        refine TA.one 11 (by kernel_rfl) ?_
                        refine TX.ef (listed' := #[true, true, true, true, true, true, true, true, true, true, true, true, false, false]) [] rfl (Ef.call (rest := [.own V_s0 (lc (((((((s.set a.toNat R5).set d.toNat R14).set c.toNat R23).set b.toNat R32).set a.toNat R41).set d.toNat R50).set c.toNat R59))]) [0] (spec_l3Left_con (ixor .i64 E64 E66) (7 : Int)  R68 H69) kc65 rfl rfl trivial) rfl rfl rfl rfl (fun _ => rfl) (fun _ => ?_)
                        refine TA.one 12 (by kernel_rfl) ?_
                        refine TX.y (listed' := #[true, true, true, true, true, true, true, true, true, true, true, true, true, false]) [] rfl (Y.index ke24 (Can.own 0 rfl) H65 rfl rfl) rfl rfl rfl rfl rfl ?_
                        refine TA.one 13 (by kernel_rfl) ?_
                        refine TX.ef0 (listed' := #[true, true, true, true, true, true, true, true, true, true, true, true, true, true]) [] rfl (Ef.store_el (us := [.int .i64 R68]) (is' := [.own V_s0 (lc ((((((((s.set a.toNat R5).set d.toNat R14).set c.toNat R23).set b.toNat R32).set a.toNat R41).set d.toNat R50).set c.toNat R59).set b.toNat R68))]) R68 0 kk3 rfl rfl (idx_get H65).2.2 rfl rfl (Cel.plain rfl rfl) rfl rfl rfl rfl) rfl rfl rfl (fun _ => rfl) (fun _ => ?_)
                        refine TA.nil (by kernel_rfl) ?_
                        exact TE.jb_go () [0] ⟨rfl, trivial⟩ rfl
                  · refine TX.y (listed' := #[true, true, true, true, false, false, true, true, true, false, false, false, false, false]) [] rfl (Y.index ke24 (Can.own 0 rfl) H67 rfl rfl) rfl rfl rfl rfl rfl ?_
                    refine TA.two 4 9 (by kernel_rfl) ?_ ?_
                    · refine TX.y (listed' := #[true, true, true, true, true, false, true, true, true, false, false, false, false, false]) [] rfl (Y.index ke24 (Can.own 0 rfl) H65 rfl rfl) rfl rfl rfl rfl rfl ?_
                      refine TA.two 5 9 (by kernel_rfl) ?_ ?_
                      · refine TX.y (listed' := #[true, true, true, true, true, true, true, true, true, false, false, false, false, false]) [] rfl (Y.load_el (us := [.int .i64 E64]) (u := .int .i64 E64) kk3 rfl (Can.own 0 rfl) (idx_get H65).2.2 rfl rfl rfl rfl rfl) rfl rfl rfl rfl rfl ?_
                        refine TA.one 9 (by kernel_rfl) ?_
                        refine TX.y (listed' := #[true, true, true, true, true, true, true, true, true, true, false, false, false, false]) [] rfl (Y.load_el (us := [.int .i64 E66]) (u := .int .i64 E66) kk3 rfl (Can.own 0 rfl) (idx_get H67).2.2 rfl rfl rfl rfl rfl) rfl rfl rfl rfl rfl ?_
                        refine TA.y (listed' := #[true, true, true, true, true, true, true, true, true, true, true, false, false, false]) 10 [] rfl (Y.xor rfl rfl) rfl rfl rfl (by kernel_rfl) (by kernel_rfl) (by kernel_rfl) rfl rfl ?_
                        refine TA.one 11 (by kernel_rfl) ?_
                        refine TX.ef (listed' := #[true, true, true, true, true, true, true, true, true, true, true, true, false, false]) [] rfl (Ef.call (rest := [.own V_s0 (lc (((((((s.set a.toNat R5).set d.toNat R14).set c.toNat R23).set b.toNat R32).set a.toNat R41).set d.toNat R50).set c.toNat R59))]) [0] (spec_l3Left_con (ixor .i64 E64 E66) (7 : Int)  R68 H69) kc65 rfl rfl trivial) rfl rfl rfl rfl (fun _ => rfl) (fun _ => ?_)
                        refine TA.one 12 (by kernel_rfl) ?_
                        refine TX.y (listed' := #[true, true, true, true, true, true, true, true, true, true, true, true, true, false]) [] rfl (Y.index ke24 (Can.own 0 rfl) H65 rfl rfl) rfl rfl rfl rfl rfl ?_
                        refine TA.one 13 (by kernel_rfl) ?_
                        refine TX.ef0 (listed' := #[true, true, true, true, true, true, true, true, true, true, true, true, true, true]) [] rfl (Ef.store_el (us := [.int .i64 R68]) (is' := [.own V_s0 (lc ((((((((s.set a.toNat R5).set d.toNat R14).set c.toNat R23).set b.toNat R32).set a.toNat R41).set d.toNat R50).set c.toNat R59).set b.toNat R68))]) R68 0 kk3 rfl rfl (idx_get H65).2.2 rfl rfl (Cel.plain rfl rfl) rfl rfl rfl rfl) rfl rfl rfl (fun _ => rfl) (fun _ => ?_)
                        refine TA.nil (by kernel_rfl) ?_
                        exact TE.jb_go () [0] ⟨rfl, trivial⟩ rfl
                      · refine TX.y (listed' := #[true, true, true, true, true, false, true, true, true, true, false, false, false, false]) [] rfl (Y.load_el (us := [.int .i64 E66]) (u := .int .i64 E66) kk3 rfl (Can.own 0 rfl) (idx_get H67).2.2 rfl rfl rfl rfl rfl) rfl rfl rfl rfl rfl ?_
                        refine TA.one 5 (by kernel_rfl) ?_
                        refine TX.y (listed' := #[true, true, true, true, true, true, true, true, true, true, false, false, false, false]) [] rfl (Y.load_el (us := [.int .i64 E64]) (u := .int .i64 E64) kk3 rfl (Can.own 0 rfl) (idx_get H65).2.2 rfl rfl rfl rfl rfl) rfl rfl rfl rfl rfl ?_
                        refine TA.y (listed' := #[true, true, true, true, true, true, true, true, true, true, true, false, false, false]) 10 [] rfl (Y.xor rfl rfl) rfl rfl rfl (by kernel_rfl) (by kernel_rfl) (by kernel_rfl) rfl rfl ?_
                        refine TA.one 11 (by kernel_rfl) ?_
                        refine TX.ef (listed' := #[true, true, true, true, true, true, true, true, true, true, true, true, false, false]) [] rfl (Ef.call (rest := [.own V_s0 (lc (((((((s.set a.toNat R5).set d.toNat R14).set c.toNat R23).set b.toNat R32).set a.toNat R41).set d.toNat R50).set c.toNat R59))]) [0] (spec_l3Left_con (ixor .i64 E64 E66) (7 : Int)  R68 H69) kc65 rfl rfl trivial) rfl rfl rfl rfl (fun _ => rfl) (fun _ => ?_)
                        refine TA.one 12 (by kernel_rfl) ?_
                        refine TX.y (listed' := #[true, true, true, true, true, true, true, true, true, true, true, true, true, false]) [] rfl (Y.index ke24 (Can.own 0 rfl) H65 rfl rfl) rfl rfl rfl rfl rfl ?_
                        refine TA.one 13 (by kernel_rfl) ?_
                        refine TX.ef0 (listed' := #[true, true, true, true, true, true, true, true, true, true, true, true, true, true]) [] rfl (Ef.store_el (us := [.int .i64 R68]) (is' := [.own V_s0 (lc ((((((((s.set a.toNat R5).set d.toNat R14).set c.toNat R23).set b.toNat R32).set a.toNat R41).set d.toNat R50).set c.toNat R59).set b.toNat R68))]) R68 0 kk3 rfl rfl (idx_get H65).2.2 rfl rfl (Cel.plain rfl rfl) rfl rfl rfl rfl) rfl rfl rfl (fun _ => rfl) (fun _ => ?_)
                        refine TA.nil (by kernel_rfl) ?_
                        exact TE.jb_go () [0] ⟨rfl, trivial⟩ rfl
                    · refine TX.y (listed' := #[true, true, true, true, false, false, true, true, true, true, false, false, false, false]) [] rfl (Y.load_el (us := [.int .i64 E66]) (u := .int .i64 E66) kk3 rfl (Can.own 0 rfl) (idx_get H67).2.2 rfl rfl rfl rfl rfl) rfl rfl rfl rfl rfl ?_
                      refine TA.one 4 (by kernel_rfl) ?_
                      refine TX.y (listed' := #[true, true, true, true, true, false, true, true, true, true, false, false, false, false]) [] rfl (Y.index ke24 (Can.own 0 rfl) H65 rfl rfl) rfl rfl rfl rfl rfl ?_
                      refine TA.one 5 (by kernel_rfl) ?_
                      refine TX.y (listed' := #[true, true, true, true, true, true, true, true, true, true, false, false, false, false]) [] rfl (Y.load_el (us := [.int .i64 E64]) (u := .int .i64 E64) kk3 rfl (Can.own 0 rfl) (idx_get H65).2.2 rfl rfl rfl rfl rfl) rfl rfl rfl rfl rfl ?_
                      refine TA.y (listed' := #[true, true, true, true, true, true, true, true, true, true, true, false, false, false]) 10 [] rfl (Y.xor rfl rfl) rfl rfl rfl (by kernel_rfl) (by kernel_rfl) (by kernel_rfl) rfl rfl ?_
                      refine TA.one 11 (by kernel_rfl) ?_
                      refine TX.ef (listed' := #[true, true, true, true, true, true, true, true, true, true, true, true, false, false]) [] rfl (Ef.call (rest := [.own V_s0 (lc (((((((s.set a.toNat R5).set d.toNat R14).set c.toNat R23).set b.toNat R32).set a.toNat R41).set d.toNat R50).set c.toNat R59))]) [0] (spec_l3Left_con (ixor .i64 E64 E66) (7 : Int)  R68 H69) kc65 rfl rfl trivial) rfl rfl rfl rfl (fun _ => rfl) (fun _ => ?_)
                      refine TA.one 12 (by kernel_rfl) ?_
                      refine TX.y (listed' := #[true, true, true, true, true, true, true, true, true, true, true, true, true, false]) [] rfl (Y.index ke24 (Can.own 0 rfl) H65 rfl rfl) rfl rfl rfl rfl rfl ?_
                      refine TA.one 13 (by kernel_rfl) ?_
                      refine TX.ef0 (listed' := #[true, true, true, true, true, true, true, true, true, true, true, true, true, true]) [] rfl (Ef.store_el (us := [.int .i64 R68]) (is' := [.own V_s0 (lc ((((((((s.set a.toNat R5).set d.toNat R14).set c.toNat R23).set b.toNat R32).set a.toNat R41).set d.toNat R50).set c.toNat R59).set b.toNat R68))]) R68 0 kk3 rfl rfl (idx_get H65).2.2 rfl rfl (Cel.plain rfl rfl) rfl rfl rfl rfl) rfl rfl rfl (fun _ => rfl) (fun _ => ?_)
                      refine TA.nil (by kernel_rfl) ?_
                      exact TE.jb_go () [0] ⟨rfl, trivial⟩ rfl
                · refine TE.next ?_
                  refine TW.seq ?_
                  refine TW.region ?_
                  refine TO.y (Y.move rfl) rfl rfl rfl ?_
                  refine TO.y (Y.assign rfl) rfl rfl rfl ?_
                  refine TO.nil ?_
                  refine TE.next ?_
                  refine TW.ret ?_
                  exact TE.leaf fun _ _ hf_ hs_ => ret_any (rs := [.tmp 10]) (vs := [V_s0]) (.inl rfl) rfl ⟨rfl, trivial⟩ hf_ hs_ ⟨V_s0, rfl, hs_.pulls [0] rfl⟩

/-- loop.example/g00950/spec.l3Block -/
noncomputable def spec_l3Block (key : List UInt8) (counter : Int) (nonce : List UInt8) : Option (List UInt8) :=
  bindC (loopO (fun (S2 : Int × List Int) => if (decide (S2.1 < (8 : Int))) = true then ((spec_l3Little key (IntKind.i64.wrap ((4 : Int) * S2.1))).bind fun R7 =>
  (app 8 S2.2 ([R7])).bind fun E12 =>
  some (.go (IntKind.i64.wrap (S2.1 + (1 : Int)), E12)))
  else (some (.done (.go S2.2))))
  ((0 : Int), ([(1634760805 : Int), (857760878 : Int), (2036477234 : Int), (1797285236 : Int)])))
  (fun (T4 : List Int) => (spec_l3Little nonce (0 : Int)).bind fun R14 =>
  (spec_l3Little nonce (4 : Int)).bind fun R17 =>
  (spec_l3Little nonce (8 : Int)).bind fun R20 =>
  (app 8 T4 ([counter, R14, R17, R20])).bind fun E25 =>
  (app 8 ([] : List Int) E25).bind fun E29 =>
  bindC (loopO (fun (S31 : Int × List Int) => if (decide (S31.1 < (10 : Int))) = true then ((spec_l3Quarter S31.2 (0 : Int) (4 : Int) (8 : Int) (12 : Int)).bind fun R36 =>
  (spec_l3Quarter R36 (1 : Int) (5 : Int) (9 : Int) (13 : Int)).bind fun R39 =>
  (spec_l3Quarter R39 (2 : Int) (6 : Int) (10 : Int) (14 : Int)).bind fun R42 =>
  (spec_l3Quarter R42 (3 : Int) (7 : Int) (11 : Int) (15 : Int)).bind fun R45 =>
  (spec_l3Quarter R45 (0 : Int) (5 : Int) (10 : Int) (15 : Int)).bind fun R48 =>
  (spec_l3Quarter R48 (1 : Int) (6 : Int) (11 : Int) (12 : Int)).bind fun R51 =>
  (spec_l3Quarter R51 (2 : Int) (7 : Int) (8 : Int) (13 : Int)).bind fun R54 =>
  (spec_l3Quarter R54 (3 : Int) (4 : Int) (9 : Int) (14 : Int)).bind fun R57 =>
  some (.go (IntKind.i64.wrap (S31.1 + (1 : Int)), R57)))
  else (some (.done (.go S31.2))))
  ((0 : Int), E29))
  (fun (T33 : List Int) => bindC (loopO (fun (S61 : Int × List UInt8) => if (decide (S61.1 < (16 : Int))) = true then ((idx T33 S61.1).bind fun E66 =>
  (idx E25 S61.1).bind fun E68 =>
  (spec_l3Word (IntKind.i64.wrap (E66 + E68))).bind fun R70 =>
  (app 1 S61.2 ([toU8 (iand .i64 R70 (255 : Int)), toU8 (iand .i64 (ishr .i64 R70 (8 : Int)) (255 : Int)), toU8 (iand .i64 (ishr .i64 R70 (16 : Int)) (255 : Int)), toU8 (ishr .i64 R70 (24 : Int))])).bind fun E75 =>
  some (.go (IntKind.i64.wrap (S61.1 + (1 : Int)), E75)))
  else (some (.done (.go S61.2))))
  ((0 : Int), ([] : List UInt8)))
  (fun (T63 : List UInt8) => some T63)))

theorem spec_l3Block_con (key : List UInt8) (counter : Int) (nonce : List UInt8)  (r : List UInt8) (hm : spec_l3Block key counter nonce = some r) :
    Con Try.prog 58 [strV key, .int .i64 counter, strV nonce] [] [] (fun _ : Unit => strV r) (fun _ => []) := by
  refine Con.intro (args := [strV key, .int .i64 counter, strV nonce]) (n := 93) (val := fun r (_ : Unit) => strV r) (post := fun _ _ => []) (m := spec_l3Block key counter nonce) Try.func58 rfl rfl rfl hm ?_
  intro w S _
  unfold spec_l3Block
  refine TW.seq ?_
  refine TW.region ?_
  refine TO.y (Y.assign rfl) rfl rfl rfl ?_
  refine TO.nil ?_
  refine TE.next ?_
  refine TW.seq ?_
  refine TW.region ?_
  refine TO.ef (Ef.buildSlice (α := Int) (Vs := [.int .i64 (1634760805 : Int), .int .i64 (857760878 : Int), .int .i64 (2036477234 : Int), .int .i64 (1797285236 : Int)]) [(1634760805 : Int), (857760878 : Int), (2036477234 : Int), (1797285236 : Int)] ke24 kz3 rfl rfl rfl rfl rfl) rfl rfl rfl (fun B1 => ?_)
  refine TO.y (Y.assign rfl) rfl rfl rfl ?_
  refine TO.nil ?_
  refine TE.next ?_
  refine TW.seq ?_
  refine TW.seq ?_
  refine TW.region ?_
  refine TO.y (Y.assign rfl) rfl rfl rfl ?_
  refine TO.nil ?_
  refine TE.next ?_
  refine TW.joinX (τ := List Int) (X := Value) (fun _ X => [(1, .int .i64 counter), (2, strV nonce), (7, X)]) (fun T X => [.own X (lc T)]) ?_ (fun T4 X5 => ?_)
  · refine TW.block ?_
    refine TW.loopX (σ := Int × List Int) (X := Value) (fun T X => [(0, strV key), (1, .int .i64 counter), (2, strV nonce), (7, X), (8, .int .i64 T.1)]) (fun T X => [.own X (lc T.2)]) (.slice (some ⟨B1, 0, none⟩) 4 4) [0] ⟨rfl, rfl, rfl, rfl, rfl, trivial⟩ rfl (fun S2 X3 => ?_)
    refine TW.seq ?_
    refine TW.seq ?_
    refine TW.region ?_
    refine TO.y (Y.move rfl) rfl rfl rfl ?_
    refine TO.y (Y.lss rfl rfl) rfl rfl rfl ?_
    refine TO.nil ?_
    refine TE.next ?_
    refine TW.cond rfl (fun H6 => ?_) (fun H6 => ?_)
    · refine TW.skip ?_
      refine TE.next ?_
      refine TW.seq ?_
      refine TW.block ?_
      refine TW.region ?_
      refine TO.y (Y.move rfl) rfl rfl rfl ?_
      refine TO.y (Y.move rfl) rfl rfl rfl ?_
      refine TO.y (Y.move rfl) rfl rfl rfl ?_
      refine TO.y (Y.mul rfl rfl) rfl rfl rfl ?_
      refine TO.bind fun R7 H8 => ?_
      refine TO.ef (Ef.call (rest := [.own X3 (lc S2.2)]) [0] (spec_l3Little_con key (IntKind.i64.wrap ((4 : Int) * S2.1))  R7 H8) kc62 rfl rfl trivial) rfl rfl rfl (fun _ => ?_)
      refine TO.ef (Ef.buildSlice (α := Int) (Vs := [.int .i64 R7]) [R7] ke24 kz3 rfl rfl rfl rfl rfl) rfl rfl rfl (fun B10 => ?_)
      refine TO.bind fun E12 H13 => ?_
      refine TO.ef (Ef.append (α := Int) (is' := [.own (.slice (some ⟨B10, 0, none⟩) 1 1) (lc ([R7]))]) [1, 0] H13 ke24 kz3 rfl rfl rfl rfl rfl (Can.own 0 rfl)) rfl rfl rfl (fun V11 => ?_)
      refine TO.y (Y.assign rfl) rfl rfl rfl ?_
      refine TO.nil ?_
      refine TE.block_normal ?_
      refine TE.next ?_
      refine TW.region ?_
      refine TO.y (Y.move rfl) rfl rfl rfl ?_
      refine TO.y (Y.add rfl rfl) rfl rfl rfl ?_
      refine TO.y (Y.assign rfl) rfl rfl rfl ?_
      refine TO.nil ?_
      exact TE.lp_go V11 [0] ⟨rfl, rfl, rfl, rfl, rfl, trivial⟩ rfl
    · refine TW.exit ?_
      refine TE.then_exit ?_
      refine TE.lp_exit ?_
      refine TE.block_exit ?_
      exact TE.jn_go X3 [0] ⟨rfl, rfl, rfl, trivial⟩ rfl
  · refine TE.next ?_
    refine TW.seq ?_
    refine TW.region ?_
    refine TO.y (Y.move rfl) rfl rfl rfl ?_
    refine TO.y (Y.move rfl) rfl rfl rfl ?_
    refine TO.y (Y.move rfl) rfl rfl rfl ?_
    refine TO.bind fun R14 H15 => ?_
    refine TO.ef (Ef.call (rest := [.own X5 (lc T4)]) [0] (spec_l3Little_con nonce (0 : Int)  R14 H15) kc62 rfl rfl trivial) rfl rfl rfl (fun _ => ?_)
    refine TO.y (Y.move rfl) rfl rfl rfl ?_
    refine TO.bind fun R17 H18 => ?_
    refine TO.ef (Ef.call (rest := [.own X5 (lc T4)]) [0] (spec_l3Little_con nonce (4 : Int)  R17 H18) kc62 rfl rfl trivial) rfl rfl rfl (fun _ => ?_)
    refine TO.y (Y.move rfl) rfl rfl rfl ?_
    refine TO.bind fun R20 H21 => ?_
    refine TO.ef (Ef.call (rest := [.own X5 (lc T4)]) [0] (spec_l3Little_con nonce (8 : Int)  R20 H21) kc62 rfl rfl trivial) rfl rfl rfl (fun _ => ?_)
    refine TO.ef (Ef.buildSlice (α := Int) (Vs := [.int .i64 counter, .int .i64 R14, .int .i64 R17, .int .i64 R20]) [counter, R14, R17, R20] ke24 kz3 rfl rfl rfl rfl rfl) rfl rfl rfl (fun B23 => ?_)
    refine TO.bind fun E25 H26 => ?_
    refine TO.ef (Ef.append (α := Int) (is' := [.own (.slice (some ⟨B23, 0, none⟩) 4 4) (lc ([counter, R14, R17, R20]))]) [1, 0] H26 ke24 kz3 rfl rfl rfl rfl rfl (Can.own 0 rfl)) rfl rfl rfl (fun V24 => ?_)
    refine TO.y (Y.assign rfl) rfl rfl rfl ?_
    refine TO.nil ?_
    refine TE.next ?_
    refine TW.seq ?_
    refine TW.region ?_
    refine TO.ef (Ef.buildSlice (α := Int) (Vs := []) ([] : List Int) ke24 kz3 rfl rfl rfl rfl rfl) rfl rfl rfl (fun B27 => ?_)
    refine TO.y (Y.move rfl) rfl rfl rfl ?_
    refine TO.bind fun E29 H30 => ?_
    refine TO.ef (Ef.append (α := Int) (is' := [.own V24 (lc E25), .own (.slice (some ⟨B23, 0, none⟩) 4 4) (lc ([counter, R14, R17, R20]))]) [0, 0, 0] H30 ke24 kz3 rfl rfl rfl rfl rfl (Can.own 1 rfl)) rfl rfl rfl (fun V28 => ?_)
    refine TO.y (Y.assign rfl) rfl rfl rfl ?_
    refine TO.nil ?_
    refine TE.next ?_
    refine TW.seq ?_
    refine TW.seq ?_
    refine TW.region ?_
    refine TO.y (Y.assign rfl) rfl rfl rfl ?_
    refine TO.nil ?_
    refine TE.next ?_
    refine TW.joinX (τ := List Int) (X := Value) (fun _ X => [(7, V24), (9, X)]) (fun T X => [.own V24 (lc E25), .own X (lc T)]) ?_ (fun T33 X34 => ?_)
    · refine TW.block ?_
      refine TW.loopX (σ := Int × List Int) (X := Value) (fun T X => [(7, V24), (9, X), (10, .int .i64 T.1)]) (fun T X => [.own V24 (lc E25), .own X (lc T.2)]) V28 [1, 0] ⟨rfl, rfl, rfl, trivial⟩ rfl (fun S31 X32 => ?_)
      refine TW.seq ?_
      refine TW.seq ?_
      refine TW.region ?_
      refine TO.y (Y.move rfl) rfl rfl rfl ?_
      refine TO.y (Y.lss rfl rfl) rfl rfl rfl ?_
      refine TO.nil ?_
      refine TE.next ?_
      refine TW.cond rfl (fun H35 => ?_) (fun H35 => ?_)
      · refine TW.skip ?_
        refine TE.next ?_
        refine TW.seq ?_
        refine TW.block ?_
        refine TW.seq ?_
        refine TW.region ?_
        refine TO.y (Y.move rfl) rfl rfl rfl ?_
        refine TO.bind fun R36 H37 => ?_
        refine TO.ef (Ef.call (rest := [.own V24 (lc E25)]) [1, 0] (spec_l3Quarter_con S31.2 (0 : Int) (4 : Int) (8 : Int) (12 : Int) X32 R36 H37) kc63 rfl rfl trivial) rfl rfl rfl (fun Y38 => ?_)
        refine TO.y (Y.assign rfl) rfl rfl rfl ?_
        refine TO.nil ?_
        refine TE.next ?_
        refine TW.seq ?_
        refine TW.region ?_
        refine TO.y (Y.move rfl) rfl rfl rfl ?_
        refine TO.bind fun R39 H40 => ?_
        refine TO.ef (Ef.call (rest := [.own V24 (lc E25)]) [0, 0] (spec_l3Quarter_con R36 (1 : Int) (5 : Int) (9 : Int) (13 : Int) Y38 R39 H40) kc63 rfl rfl trivial) rfl rfl rfl (fun Y41 => ?_)
        refine TO.y (Y.assign rfl) rfl rfl rfl ?_
        refine TO.nil ?_
        refine TE.next ?_
        refine TW.seq ?_
        refine TW.region ?_
        refine TO.y (Y.move rfl) rfl rfl rfl ?_
        refine TO.bind fun R42 H43 => ?_
        refine TO.ef (Ef.call (rest := [.own V24 (lc E25)]) [0, 0] (spec_l3Quarter_con R39 (2 : Int) (6 : Int) (10 : Int) (14 : Int) Y41 R42 H43) kc63 rfl rfl trivial) rfl rfl rfl (fun Y44 => ?_)
        refine TO.y (Y.assign rfl) rfl rfl rfl ?_
        refine TO.nil ?_
        refine TE.next ?_
        refine TW.seq ?_
        refine TW.region ?_
        refine TO.y (Y.move rfl) rfl rfl rfl ?_
        refine TO.bind fun R45 H46 => ?_
        refine TO.ef (Ef.call (rest := [.own V24 (lc E25)]) [0, 0] (spec_l3Quarter_con R42 (3 : Int) (7 : Int) (11 : Int) (15 : Int) Y44 R45 H46) kc63 rfl rfl trivial) rfl rfl rfl (fun Y47 => ?_)
        refine TO.y (Y.assign rfl) rfl rfl rfl ?_
        refine TO.nil ?_
        refine TE.next ?_
        refine TW.seq ?_
        refine TW.region ?_
        refine TO.y (Y.move rfl) rfl rfl rfl ?_
        refine TO.bind fun R48 H49 => ?_
        refine TO.ef (Ef.call (rest := [.own V24 (lc E25)]) [0, 0] (spec_l3Quarter_con R45 (0 : Int) (5 : Int) (10 : Int) (15 : Int) Y47 R48 H49) kc63 rfl rfl trivial) rfl rfl rfl (fun Y50 => ?_)
        refine TO.y (Y.assign rfl) rfl rfl rfl ?_
        refine TO.nil ?_
        refine TE.next ?_
        refine TW.seq ?_
        refine TW.region ?_
        refine TO.y (Y.move rfl) rfl rfl rfl ?_
        refine TO.bind fun R51 H52 => ?_
        refine TO.ef (Ef.call (rest := [.own V24 (lc E25)]) [0, 0] (spec_l3Quarter_con R48 (1 : Int) (6 : Int) (11 : Int) (12 : Int) Y50 R51 H52) kc63 rfl rfl trivial) rfl rfl rfl (fun Y53 => ?_)
        refine TO.y (Y.assign rfl) rfl rfl rfl ?_
        refine TO.nil ?_
        refine TE.next ?_
        refine TW.seq ?_
        refine TW.region ?_
        refine TO.y (Y.move rfl) rfl rfl rfl ?_
        refine TO.bind fun R54 H55 => ?_
        refine TO.ef (Ef.call (rest := [.own V24 (lc E25)]) [0, 0] (spec_l3Quarter_con R51 (2 : Int) (7 : Int) (8 : Int) (13 : Int) Y53 R54 H55) kc63 rfl rfl trivial) rfl rfl rfl (fun Y56 => ?_)
        refine TO.y (Y.assign rfl) rfl rfl rfl ?_
        refine TO.nil ?_
        refine TE.next ?_
        refine TW.region ?_
        refine TO.y (Y.move rfl) rfl rfl rfl ?_
        refine TO.bind fun R57 H58 => ?_
        refine TO.ef (Ef.call (rest := [.own V24 (lc E25)]) [0, 0] (spec_l3Quarter_con R54 (3 : Int) (4 : Int) (9 : Int) (14 : Int) Y56 R57 H58) kc63 rfl rfl trivial) rfl rfl rfl (fun Y59 => ?_)
        refine TO.y (Y.assign rfl) rfl rfl rfl ?_
        refine TO.nil ?_
        refine TE.block_normal ?_
        refine TE.next ?_
        refine TW.region ?_
        refine TO.y (Y.move rfl) rfl rfl rfl ?_
        refine TO.y (Y.add rfl rfl) rfl rfl rfl ?_
        refine TO.y (Y.assign rfl) rfl rfl rfl ?_
        refine TO.nil ?_
        exact TE.lp_go Y59 [1, 0] ⟨rfl, rfl, rfl, trivial⟩ rfl
      · refine TW.exit ?_
        refine TE.then_exit ?_
        refine TE.lp_exit ?_
        refine TE.block_exit ?_
        exact TE.jn_go X32 [0, 0] ⟨rfl, rfl, trivial⟩ rfl
    · refine TE.next ?_
      refine TW.seq ?_
      refine TW.region ?_
      refine TO.ef (Ef.buildSlice (α := UInt8) (Vs := []) ([] : List UInt8) ke22 kz5 rfl rfl rfl rfl rfl) rfl rfl rfl (fun B60 => ?_)
      refine TO.y (Y.assign rfl) rfl rfl rfl ?_
      refine TO.nil ?_
      refine TE.next ?_
      refine TW.seq ?_
      refine TW.seq ?_
      refine TW.region ?_
      refine TO.y (Y.assign rfl) rfl rfl rfl ?_
      refine TO.nil ?_
      refine TE.next ?_
      refine TW.joinX (τ := List UInt8) (X := Value) (fun _ X => [(11, X)]) (fun T X => [.own X (lc T)]) ?_ (fun T63 X64 => ?_)
      · refine TW.block ?_
        refine TW.loopX (σ := Int × List UInt8) (X := Value) (fun T X => [(7, V24), (9, X34), (11, X), (12, .int .i64 T.1)]) (fun T X => [.own V24 (lc E25), .own X34 (lc T33), .own X (lc T.2)]) (.slice (some ⟨B60, 0, none⟩) 0 0) [1, 1, 0] ⟨rfl, rfl, rfl, rfl, trivial⟩ rfl (fun S61 X62 => ?_)
        refine TW.seq ?_
        refine TW.seq ?_
        refine TW.region ?_
        refine TO.y (Y.move rfl) rfl rfl rfl ?_
        refine TO.y (Y.lss rfl rfl) rfl rfl rfl ?_
        refine TO.nil ?_
        refine TE.next ?_
        refine TW.cond rfl (fun H65 => ?_) (fun H65 => ?_)
        · refine TW.skip ?_
          refine TE.next ?_
          refine TW.seq ?_
          refine TW.block ?_
          refine TW.seq ?_
          refine TW.draw (isH := [.own V24 (lc E25), .own X34 (lc T33), .own X62 (lc S61.2)]) hMix ?_
          refine TA.y (listed' := #[true, false, false, false, false, false, false, false, false, false, false]) 0 [0, 0, 0] rfl (Y.move rfl) rfl rfl rfl (by kernel_rfl) (by kernel_rfl) (by kernel_rfl) rfl rfl ?_
          refine TA.y (listed' := #[true, true, false, false, false, false, false, false, false, false, false]) 1 [0, 0, 0] rfl (Y.move rfl) rfl rfl rfl (by kernel_rfl) (by kernel_rfl) (by kernel_rfl) rfl rfl ?_
          refine TA.bind fun E66 H67 => ?_
          refine TA.y (listed' := #[true, true, true, false, false, false, false, false, false, false, false]) 2 [0, 0, 0] rfl (Y.index ke24 (Can.own 1 rfl) H67 rfl rfl) rfl rfl rfl (by kernel_rfl) (by kernel_rfl) (by kernel_rfl) rfl rfl ?_
          refine TA.y (listed' := #[true, true, true, true, false, false, false, false, false, false, false]) 3 [0, 0, 0] rfl (Y.load_el (us := [.int .i64 E66]) (u := .int .i64 E66) kk3 rfl (Can.own 1 rfl) (idx_get H67).2.2 rfl rfl rfl rfl rfl) rfl rfl rfl (by kernel_rfl) (by kernel_rfl) (by kernel_rfl) rfl rfl ?_
          refine TA.y (listed' := #[true, true, true, true, true, false, false, false, false, false, false]) 4 [0, 0, 0] rfl (Y.move rfl) rfl rfl rfl (by kernel_rfl) (by kernel_rfl) (by kernel_rfl) rfl rfl ?_
          refine TA.y (listed' := #[true, true, true, true, true, true, false, false, false, false, false]) 5 [0, 0, 0] rfl (Y.move rfl) rfl rfl rfl (by kernel_rfl) (by kernel_rfl) (by kernel_rfl) rfl rfl ?_
          refine TA.bind fun E68 H69 => ?_
          refine TA.y (listed' := #[true, true, true, true, true, true, true, false, false, false, false]) 6 [0, 0, 0] rfl (Y.index ke24 (Can.own 0 rfl) H69 rfl rfl) rfl rfl rfl (by kernel_rfl) (by kernel_rfl) (by kernel_rfl) rfl rfl ?_
          refine TA.y (listed' := #[true, true, true, true, true, true, true, true, false, false, false]) 7 [0, 0, 0] rfl (Y.load_el (us := [.int .i64 E68]) (u := .int .i64 E68) kk3 rfl (Can.own 0 rfl) (idx_get H69).2.2 rfl rfl rfl rfl rfl) rfl rfl rfl (by kernel_rfl) (by kernel_rfl) (by kernel_rfl) rfl rfl ?_
          refine TA.y (listed' := #[true, true, true, true, true, true, true, true, true, false, false]) 8 [0, 0, 0] rfl (Y.add rfl rfl) rfl rfl rfl (by kernel_rfl) (by kernel_rfl) (by kernel_rfl) rfl rfl ?_
          refine TA.bind fun R70 H71 => ?_
          refine TA.one 9 (by kernel_rfl) ?_
          refine TX.ef (listed' := #[true, true, true, true, true, true, true, true, true, true, false]) [0, 0, 0] rfl (Ef.call (rest := [.own V24 (lc E25), .own X34 (lc T33), .own X62 (lc S61.2)]) [0, 0, 0] (spec_l3Word_con (IntKind.i64.wrap (E66 + E68))  R70 H71) kc64 rfl rfl trivial) rfl rfl rfl rfl (fun _ => rfl) (fun _ => ?_)
          refine TA.y (listed' := #[true, true, true, true, true, true, true, true, true, true, true]) 10 [0, 0, 0] rfl (Y.assign rfl) rfl rfl rfl (by kernel_rfl) (by kernel_rfl) (by kernel_rfl) rfl rfl ?_
          refine TA.nil (by kernel_rfl) ?_
          refine TE.next ?_
          refine TW.region ?_
          refine TO.y (Y.move rfl) rfl rfl rfl ?_
          refine TO.y (Y.move rfl) rfl rfl rfl ?_
          refine TO.y (Y.and rfl rfl) rfl rfl rfl ?_
          refine TO.y (Y.conv8 ki3 ki5 rfl) rfl rfl rfl ?_
          refine TO.y (Y.move rfl) rfl rfl rfl ?_
          refine TO.y (Y.shr (by decide) rfl rfl) rfl rfl rfl ?_
          refine TO.y (Y.and rfl rfl) rfl rfl rfl ?_
          refine TO.y (Y.conv8 ki3 ki5 rfl) rfl rfl rfl ?_
          refine TO.y (Y.move rfl) rfl rfl rfl ?_
          refine TO.y (Y.shr (by decide) rfl rfl) rfl rfl rfl ?_
          refine TO.y (Y.and rfl rfl) rfl rfl rfl ?_
          refine TO.y (Y.conv8 ki3 ki5 rfl) rfl rfl rfl ?_
          refine TO.y (Y.move rfl) rfl rfl rfl ?_
          refine TO.y (Y.shr (by decide) rfl rfl) rfl rfl rfl ?_
          refine TO.y (Y.conv8 ki3 ki5 rfl) rfl rfl rfl ?_
          refine TO.ef (Ef.buildSlice (α := UInt8) (Vs := [.int .u8 (((toU8 (iand .i64 R70 (255 : Int))).toNat : Nat) : Int), .int .u8 (((toU8 (iand .i64 (ishr .i64 R70 (8 : Int)) (255 : Int))).toNat : Nat) : Int), .int .u8 (((toU8 (iand .i64 (ishr .i64 R70 (16 : Int)) (255 : Int))).toNat : Nat) : Int), .int .u8 (((toU8 (ishr .i64 R70 (24 : Int))).toNat : Nat) : Int)]) [toU8 (iand .i64 R70 (255 : Int)), toU8 (iand .i64 (ishr .i64 R70 (8 : Int)) (255 : Int)), toU8 (iand .i64 (ishr .i64 R70 (16 : Int)) (255 : Int)), toU8 (ishr .i64 R70 (24 : Int))] ke22 kz5 rfl rfl rfl rfl rfl) rfl rfl rfl (fun B73 => ?_)
          refine TO.bind fun E75 H76 => ?_
          refine TO.ef (Ef.append (α := UInt8) (is' := [.own (.slice (some ⟨B73, 0, none⟩) 4 4) (lc ([toU8 (iand .i64 R70 (255 : Int)), toU8 (iand .i64 (ishr .i64 R70 (8 : Int)) (255 : Int)), toU8 (iand .i64 (ishr .i64 R70 (16 : Int)) (255 : Int)), toU8 (ishr .i64 R70 (24 : Int))])), .own V24 (lc E25), .own X34 (lc T33)]) [3, 0, 0, 0] H76 ke22 kz5 rfl rfl rfl rfl rfl (Can.own 0 rfl)) rfl rfl rfl (fun V74 => ?_)
          refine TO.y (Y.assign rfl) rfl rfl rfl ?_
          refine TO.nil ?_
          refine TE.block_normal ?_
          refine TE.next ?_
          refine TW.region ?_
          refine TO.y (Y.move rfl) rfl rfl rfl ?_
          refine TO.y (Y.add rfl rfl) rfl rfl rfl ?_
          refine TO.y (Y.assign rfl) rfl rfl rfl ?_
          refine TO.nil ?_
          exact TE.lp_go V74 [2, 2, 0] ⟨rfl, rfl, rfl, rfl, trivial⟩ rfl
        · refine TW.exit ?_
          refine TE.then_exit ?_
          refine TE.lp_exit ?_
          refine TE.block_exit ?_
          exact TE.jn_go X62 [2] ⟨rfl, trivial⟩ rfl
      · refine TE.next ?_
        refine TW.seq ?_
        refine TW.region ?_
        refine TO.y (Y.move rfl) rfl rfl rfl ?_
        refine TO.y (Y.toStr ke22 ki5 ks9 (Can.own 0 rfl) rfl) rfl rfl rfl ?_
        refine TO.y (Y.assign rfl) rfl rfl rfl ?_
        refine TO.nil ?_
        refine TE.next ?_
        refine TW.ret ?_
        exact TE.leaf fun _ _ hf_ hs_ => ret_any (rs := [.tmp 6]) (vs := [strV T63]) (.inl rfl) rfl ⟨rfl, trivial⟩ hf_ hs_ ⟨(), rfl, hs_.pulls [] rfl⟩

/-- loop.example/g00950/spec.ChaBlock -/
noncomputable def spec_ChaBlock (key : List UInt8) (counter : Int) (nonce : List UInt8) : Option (List UInt8) :=
  (if (!(decide (((key.length : Nat) : Int) = (32 : Int)))) = true then (some true)
  else (if (!(decide (((nonce.length : Nat) : Int) = (12 : Int)))) = true then (some true)
  else ((spec_l1In counter (0 : Int) (4294967295 : Int)).bind fun R5 =>
  some (!R5)))).bind (fun (T1 : Bool) =>
  if T1 = true then (some ([]))
  else ((spec_l3Block key counter nonce).bind fun R9 =>
  some R9))

theorem spec_ChaBlock_con (key : List UInt8) (counter : Int) (nonce : List UInt8)  (r : List UInt8) (hm : spec_ChaBlock key counter nonce = some r) :
    Con Try.prog 46 [strV key, .int .i64 counter, strV nonce] [] [] (fun _ : Unit => strV r) (fun _ => []) := by
  refine Con.intro (args := [strV key, .int .i64 counter, strV nonce]) (n := 24) (val := fun r (_ : Unit) => strV r) (post := fun _ _ => []) (m := spec_ChaBlock key counter nonce) Try.func46 rfl rfl rfl hm ?_
  intro w S _
  unfold spec_ChaBlock
  refine TW.seq ?_
  refine TW.region ?_
  refine TO.y (Y.assign rfl) rfl rfl rfl ?_
  refine TO.nil ?_
  refine TE.next ?_
  refine TW.seq ?_
  refine TW.seq ?_
  refine TW.joinBX (τ := Bool) (X := Unit) (fun T _ => [(0, strV key), (1, .int .i64 counter), (2, strV nonce), (19, .bool T)]) (fun _ _ => []) ?_ (fun T1 X2 => ?_)
  · refine TW.region ?_
    refine TO.y (Y.move rfl) rfl rfl rfl ?_
    refine TO.y (Y.slen ks9 rfl) rfl rfl rfl ?_
    refine TO.y (Y.neq rfl rfl) rfl rfl rfl ?_
    refine TO.y (Y.move rfl) rfl rfl rfl ?_
    refine TO.ite (b := !(decide (((key.length : Nat) : Int) = (32 : Int)))) (fun H3 => ?_) (fun H3 => ?_)
    · refine TO.off (Gd.at 3 false 10 (!(decide (((key.length : Nat) : Int) = (32 : Int)))) rfl rfl rfl (beq_tf H3)) rfl rfl ?_
      refine TO.off (Gd.at 3 false 10 (!(decide (((key.length : Nat) : Int) = (32 : Int)))) rfl rfl rfl (beq_tf H3)) rfl rfl ?_
      refine TO.off (Gd.at 3 false 10 (!(decide (((key.length : Nat) : Int) = (32 : Int)))) rfl rfl rfl (beq_tf H3)) rfl rfl ?_
      refine TO.y (Y.pick_t H3 rfl rfl) rfl rfl rfl ?_
      refine TO.y (Y.move rfl) rfl rfl rfl ?_
      refine TO.off (Gd.at 8 false 15 true rfl rfl rfl rfl) rfl rfl ?_
      refine TO.off (Gd.at 8 false 15 true rfl rfl rfl rfl) rfl rfl ?_
      refine TO.off (Gd.at 8 false 15 true rfl rfl rfl rfl) rfl rfl ?_
      refine TO.y (Y.pick_t rfl rfl rfl) rfl rfl rfl ?_
      refine TO.nil ?_
      exact TE.jb_go () [] ⟨rfl, rfl, rfl, rfl, trivial⟩ rfl
    · refine TO.y (Y.move rfl) (Gd.at 3 false 10 (!(decide (((key.length : Nat) : Int) = (32 : Int)))) rfl rfl rfl (beq_ff H3)) rfl rfl ?_
      refine TO.y (Y.slen ks9 rfl) (Gd.at 3 false 10 (!(decide (((key.length : Nat) : Int) = (32 : Int)))) rfl rfl rfl (beq_ff H3)) rfl rfl ?_
      refine TO.y (Y.neq rfl rfl) (Gd.at 3 false 10 (!(decide (((key.length : Nat) : Int) = (32 : Int)))) rfl rfl rfl (beq_ff H3)) rfl rfl ?_
      refine TO.y (Y.pick_f H3 rfl rfl) rfl rfl rfl ?_
      refine TO.y (Y.move rfl) rfl rfl rfl ?_
      refine TO.ite (b := !(decide (((nonce.length : Nat) : Int) = (12 : Int)))) (fun H4 => ?_) (fun H4 => ?_)
      · refine TO.off (Gd.at 8 false 15 (!(decide (((nonce.length : Nat) : Int) = (12 : Int)))) rfl rfl rfl (beq_tf H4)) rfl rfl ?_
        refine TO.off (Gd.at 8 false 15 (!(decide (((nonce.length : Nat) : Int) = (12 : Int)))) rfl rfl rfl (beq_tf H4)) rfl rfl ?_
        refine TO.off (Gd.at 8 false 15 (!(decide (((nonce.length : Nat) : Int) = (12 : Int)))) rfl rfl rfl (beq_tf H4)) rfl rfl ?_
        refine TO.y (Y.pick_t H4 rfl rfl) rfl rfl rfl ?_
        refine TO.nil ?_
        exact TE.jb_go () [] ⟨rfl, rfl, rfl, rfl, trivial⟩ rfl
      · refine TO.y (Y.move rfl) (Gd.at 8 false 15 (!(decide (((nonce.length : Nat) : Int) = (12 : Int)))) rfl rfl rfl (beq_ff H4)) rfl rfl ?_
        refine TO.bind fun R5 H6 => ?_
        refine TO.ef (Ef.call (rest := []) [] (spec_l1In_con counter (0 : Int) (4294967295 : Int)  R5 H6) kc31 rfl rfl trivial) (Gd.at 8 false 15 (!(decide (((nonce.length : Nat) : Int) = (12 : Int)))) rfl rfl rfl (beq_ff H4)) rfl rfl (fun _ => ?_)
        refine TO.y (Y.not rfl) (Gd.at 8 false 15 (!(decide (((nonce.length : Nat) : Int) = (12 : Int)))) rfl rfl rfl (beq_ff H4)) rfl rfl ?_
        refine TO.y (Y.pick_f H4 rfl rfl) rfl rfl rfl ?_
        refine TO.nil ?_
        exact TE.jb_go () [] ⟨rfl, rfl, rfl, rfl, trivial⟩ rfl
  · refine TE.next ?_
    refine TW.cond rfl (fun H8 => ?_) (fun H8 => ?_)
    · refine TW.seq ?_
      refine TW.region ?_
      refine TO.y (Y.assign rfl) rfl rfl rfl ?_
      refine TO.nil ?_
      refine TE.next ?_
      refine TW.ret ?_
      refine TE.then_ret ?_
      exact TE.leaf fun _ _ hf_ hs_ => ret_any (rs := [.tmp 6]) (vs := [strV ([])]) (.inl rfl) rfl ⟨rfl, trivial⟩ hf_ hs_ ⟨(), rfl, hs_.pulls [] rfl⟩
    · refine TW.skip ?_
      refine TE.next ?_
      refine TW.seq ?_
      refine TW.region ?_
      refine TO.y (Y.move rfl) rfl rfl rfl ?_
      refine TO.y (Y.move rfl) rfl rfl rfl ?_
      refine TO.y (Y.move rfl) rfl rfl rfl ?_
      refine TO.bind fun R9 H10 => ?_
      refine TO.ef (Ef.call (rest := []) [] (spec_l3Block_con key counter nonce  R9 H10) kc58 rfl rfl trivial) rfl rfl rfl (fun _ => ?_)
      refine TO.y (Y.assign rfl) rfl rfl rfl ?_
      refine TO.nil ?_
      refine TE.next ?_
      refine TW.ret ?_
      exact TE.leaf fun _ _ hf_ hs_ => ret_any (rs := [.tmp 6]) (vs := [strV R9]) (.inl rfl) rfl ⟨rfl, trivial⟩ hf_ hs_ ⟨(), rfl, hs_.pulls [] rfl⟩

/-- loop.example/g00950/spec.MintToken -/
noncomputable def spec_MintToken (secret : List UInt8) (tenant : Int) (epoch : Int) : Option (List UInt8) :=
  (if (!(decide (((secret.length : Nat) : Int) = (32 : Int)))) = true then (some true)
  else ((spec_l1In tenant (1 : Int) (99 : Int)).bind fun R4 =>
  if (!R4) = true then (some true)
  else ((spec_l1In epoch (0 : Int) (1000000 : Int)).bind fun R8 =>
  some (!R8)))).bind (fun (T1 : Bool) =>
  if T1 = true then (some ([]))
  else ((spec_Var tenant).bind fun R12 =>
  (spec_Var epoch).bind fun R15 =>
  (cat R12 R15).bind fun E18 =>
  (spec_NonceOf (2 : Int) tenant).bind fun R20 =>
  (spec_ChaBlock secret epoch R20).bind fun R23 =>
  (ssub R23 0 (8 : Int)).bind fun E26 =>
  (cat E18 E26).bind fun E28 =>
  some E28))

theorem spec_MintToken_con (secret : List UInt8) (tenant : Int) (epoch : Int)  (r : List UInt8) (hm : spec_MintToken secret tenant epoch = some r) :
    Con Try.prog 22 [strV secret, .int .i64 tenant, .int .i64 epoch] [] [] (fun _ : Unit => strV r) (fun _ => []) := by
  refine Con.intro (args := [strV secret, .int .i64 tenant, .int .i64 epoch]) (n := 32) (val := fun r (_ : Unit) => strV r) (post := fun _ _ => []) (m := spec_MintToken secret tenant epoch) Try.func22 rfl rfl rfl hm ?_
  intro w S _
  unfold spec_MintToken
  refine TW.seq ?_
  refine TW.region ?_
  refine TO.y (Y.assign rfl) rfl rfl rfl ?_
  refine TO.nil ?_
  refine TE.next ?_
  refine TW.seq ?_
  refine TW.seq ?_
  refine TW.joinBX (τ := Bool) (X := Unit) (fun T _ => [(0, strV secret), (1, .int .i64 tenant), (2, .int .i64 epoch), (19, .bool T)]) (fun _ _ => []) ?_ (fun T1 X2 => ?_)
  · refine TW.region ?_
    refine TO.y (Y.move rfl) rfl rfl rfl ?_
    refine TO.y (Y.slen ks9 rfl) rfl rfl rfl ?_
    refine TO.y (Y.neq rfl rfl) rfl rfl rfl ?_
    refine TO.y (Y.move rfl) rfl rfl rfl ?_
    refine TO.ite (b := !(decide (((secret.length : Nat) : Int) = (32 : Int)))) (fun H3 => ?_) (fun H3 => ?_)
    · refine TO.off (Gd.at 3 false 10 (!(decide (((secret.length : Nat) : Int) = (32 : Int)))) rfl rfl rfl (beq_tf H3)) rfl rfl ?_
      refine TO.off (Gd.at 3 false 10 (!(decide (((secret.length : Nat) : Int) = (32 : Int)))) rfl rfl rfl (beq_tf H3)) rfl rfl ?_
      refine TO.off (Gd.at 3 false 10 (!(decide (((secret.length : Nat) : Int) = (32 : Int)))) rfl rfl rfl (beq_tf H3)) rfl rfl ?_
      refine TO.y (Y.pick_t H3 rfl rfl) rfl rfl rfl ?_
      refine TO.y (Y.move rfl) rfl rfl rfl ?_
      refine TO.off (Gd.at 8 false 15 true rfl rfl rfl rfl) rfl rfl ?_
      refine TO.off (Gd.at 8 false 15 true rfl rfl rfl rfl) rfl rfl ?_
      refine TO.off (Gd.at 8 false 15 true rfl rfl rfl rfl) rfl rfl ?_
      refine TO.y (Y.pick_t rfl rfl rfl) rfl rfl rfl ?_
      refine TO.nil ?_
      exact TE.jb_go () [] ⟨rfl, rfl, rfl, rfl, trivial⟩ rfl
    · refine TO.y (Y.move rfl) (Gd.at 3 false 10 (!(decide (((secret.length : Nat) : Int) = (32 : Int)))) rfl rfl rfl (beq_ff H3)) rfl rfl ?_
      refine TO.bind fun R4 H5 => ?_
      refine TO.ef (Ef.call (rest := []) [] (spec_l1In_con tenant (1 : Int) (99 : Int)  R4 H5) kc31 rfl rfl trivial) (Gd.at 3 false 10 (!(decide (((secret.length : Nat) : Int) = (32 : Int)))) rfl rfl rfl (beq_ff H3)) rfl rfl (fun _ => ?_)
      refine TO.y (Y.not rfl) (Gd.at 3 false 10 (!(decide (((secret.length : Nat) : Int) = (32 : Int)))) rfl rfl rfl (beq_ff H3)) rfl rfl ?_
      refine TO.y (Y.pick_f H3 rfl rfl) rfl rfl rfl ?_
      refine TO.y (Y.move rfl) rfl rfl rfl ?_
      refine TO.ite (b := !R4) (fun H7 => ?_) (fun H7 => ?_)
      · refine TO.off (Gd.at 8 false 15 (!R4) rfl rfl rfl (beq_tf H7)) rfl rfl ?_
        refine TO.off (Gd.at 8 false 15 (!R4) rfl rfl rfl (beq_tf H7)) rfl rfl ?_
        refine TO.off (Gd.at 8 false 15 (!R4) rfl rfl rfl (beq_tf H7)) rfl rfl ?_
        refine TO.y (Y.pick_t H7 rfl rfl) rfl rfl rfl ?_
        refine TO.nil ?_
        exact TE.jb_go () [] ⟨rfl, rfl, rfl, rfl, trivial⟩ rfl
      · refine TO.y (Y.move rfl) (Gd.at 8 false 15 (!R4) rfl rfl rfl (beq_ff H7)) rfl rfl ?_
        refine TO.bind fun R8 H9 => ?_
        refine TO.ef (Ef.call (rest := []) [] (spec_l1In_con epoch (0 : Int) (1000000 : Int)  R8 H9) kc31 rfl rfl trivial) (Gd.at 8 false 15 (!R4) rfl rfl rfl (beq_ff H7)) rfl rfl (fun _ => ?_)
        refine TO.y (Y.not rfl) (Gd.at 8 false 15 (!R4) rfl rfl rfl (beq_ff H7)) rfl rfl ?_
        refine TO.y (Y.pick_f H7 rfl rfl) rfl rfl rfl ?_
        refine TO.nil ?_
        exact TE.jb_go () [] ⟨rfl, rfl, rfl, rfl, trivial⟩ rfl
  · refine TE.next ?_
    refine TW.cond rfl (fun H11 => ?_) (fun H11 => ?_)
    · refine TW.seq ?_
      refine TW.region ?_
      refine TO.y (Y.assign rfl) rfl rfl rfl ?_
      refine TO.nil ?_
      refine TE.next ?_
      refine TW.ret ?_
      refine TE.then_ret ?_
      exact TE.leaf fun _ _ hf_ hs_ => ret_any (rs := [.tmp 6]) (vs := [strV ([])]) (.inl rfl) rfl ⟨rfl, trivial⟩ hf_ hs_ ⟨(), rfl, hs_.pulls [] rfl⟩
    · refine TW.skip ?_
      refine TE.next ?_
      refine TW.seq ?_
      refine TW.region ?_
      refine TO.y (Y.move rfl) rfl rfl rfl ?_
      refine TO.bind fun R12 H13 => ?_
      refine TO.ef (Ef.call (rest := []) [] (spec_Var_con tenant  R12 H13) kc45 rfl rfl trivial) rfl rfl rfl (fun _ => ?_)
      refine TO.y (Y.move rfl) rfl rfl rfl ?_
      refine TO.bind fun R15 H16 => ?_
      refine TO.ef (Ef.call (rest := []) [] (spec_Var_con epoch  R15 H16) kc45 rfl rfl trivial) rfl rfl rfl (fun _ => ?_)
      refine TO.bind fun E18 H19 => ?_
      refine TO.y (Y.cat H19 rfl rfl) rfl rfl rfl ?_
      refine TO.y (Y.move rfl) rfl rfl rfl ?_
      refine TO.y (Y.move rfl) rfl rfl rfl ?_
      refine TO.y (Y.move rfl) rfl rfl rfl ?_
      refine TO.bind fun R20 H21 => ?_
      refine TO.ef (Ef.call (rest := []) [] (spec_NonceOf_con (2 : Int) tenant  R20 H21) kc47 rfl rfl trivial) rfl rfl rfl (fun _ => ?_)
      refine TO.bind fun R23 H24 => ?_
      refine TO.ef (Ef.call (rest := []) [] (spec_ChaBlock_con secret epoch R20  R23 H24) kc46 rfl rfl trivial) rfl rfl rfl (fun _ => ?_)
      refine TO.bind fun E26 H27 => ?_
      refine TO.y (Y.ssub_to H27 ks9 rfl rfl) rfl rfl rfl ?_
      refine TO.bind fun E28 H29 => ?_
      refine TO.y (Y.cat H29 rfl rfl) rfl rfl rfl ?_
      refine TO.y (Y.assign rfl) rfl rfl rfl ?_
      refine TO.nil ?_
      refine TE.next ?_
      refine TW.ret ?_
      exact TE.leaf fun _ _ hf_ hs_ => ret_any (rs := [.tmp 6]) (vs := [strV E28]) (.inl rfl) rfl ⟨rfl, trivial⟩ hf_ hs_ ⟨(), rfl, hs_.pulls [] rfl⟩

/-- loop.example/g00950/spec.l1Text -/
noncomputable def spec_l1Text (c : L1Cur) (most : Int) : Option (List UInt8 × L1Cur) :=
  (spec_l1Below c (4 : Int)).bind fun R2 =>
  (spec_l1Below ({ b := c.b, i := R2.2.i, h := R2.2.h : L1Cur }) (IntKind.i64.wrap (most + (1 : Int)))).bind fun R5 =>
  bindC (loopO (fun (S8 : Int × Int × Int × List UInt8) => if (decide (S8.2.2.1 > (0 : Int))) = true then ((spec_l1Byte ({ b := c.b, i := S8.1, h := S8.2.1 : L1Cur })).bind fun R13 =>
  bindC (if (decide (R2.1 = (1 : Int))) = true then (some (.go (Int.tmod R13.1 (2 : Int))))
  else (some (.go R13.1)))
  (fun (T16 : Int) => bindC (if (decide (R2.1 = (2 : Int))) = true then (some (.go (IntKind.i64.wrap ((97 : Int) + (Int.tmod T16 (4 : Int))))))
  else (some (.go T16)))
  (fun (T19 : Int) => (app 1 S8.2.2.2 ([toU8 T19])).bind fun E24 =>
  some (.go (R13.2.i, R13.2.h, IntKind.i64.wrap (S8.2.2.1 - (1 : Int)), E24)))))
  else (some (.done (.go (S8.1, S8.2.1, S8.2.2.2)))))
  (R5.2.i, R5.2.h, R5.1, ([] : List UInt8)))
  (fun (T10 : Int × Int × List UInt8) => some (T10.2.2, { b := c.b, i := T10.1, h := T10.2.1 : L1Cur }))

theorem spec_l1Text_con (c : L1Cur) (most : Int) (V_c0 : Value) (B_c : Nat) (r : List UInt8 × L1Cur) (hm : spec_l1Text c most = some r) :
    Con Try.prog 51 [.pointer (some ⟨B_c, 0, none⟩), .int .i64 most] [.box B_c 69 [V_c0, .int .i64 c.i, .int .i64 c.h]] [(V_c0, lc c.b)] (fun _ : Unit => strV r.1) (fun _ => [.box B_c 69 [V_c0, .int .i64 r.2.i, .int .i64 r.2.h]]) := by
  refine Con.intro (args := [.pointer (some ⟨B_c, 0, none⟩), .int .i64 most]) (n := 38) (val := fun r (_ : Unit) => strV r.1) (post := fun r _ => [.box B_c 69 [V_c0, .int .i64 r.2.i, .int .i64 r.2.h]]) (m := spec_l1Text c most) Try.func51 rfl rfl rfl hm ?_
  intro w S hrd
  have HB_V_c0 := hrd _ (.head _)
  clear hrd
  unfold spec_l1Text
  refine TW.seq ?_
  refine TW.region ?_
  refine TO.y (Y.assign rfl) rfl rfl rfl ?_
  refine TO.nil ?_
  refine TE.next ?_
  refine TW.seq ?_
  refine TW.region ?_
  refine TO.ef (Ef.buildSlice (α := UInt8) (Vs := []) ([] : List UInt8) ke22 kz5 rfl rfl rfl rfl rfl) rfl rfl rfl (fun B1 => ?_)
  refine TO.y (Y.assign rfl) rfl rfl rfl ?_
  refine TO.nil ?_
  refine TE.next ?_
  refine TW.seq ?_
  refine TW.region ?_
  refine TO.y (Y.move rfl) rfl rfl rfl ?_
  refine TO.bind fun R2 H3 => ?_
  refine TO.ef (Ef.call (rest := [.own (.slice (some ⟨B1, 0, none⟩) 0 0) (lc ([] : List UInt8))]) [1, 0] (spec_l1Below_con c (4 : Int) V_c0 B_c R2 H3) kc33 rfl rfl ⟨(Base.can HB_V_c0), trivial⟩) rfl rfl rfl (fun _ => ?_)
  refine TO.y (Y.assign rfl) rfl rfl rfl ?_
  refine TO.nil ?_
  refine TE.next ?_
  refine TW.seq ?_
  refine TW.seq ?_
  refine TW.region ?_
  refine TO.y (Y.move rfl) rfl rfl rfl ?_
  refine TO.y (Y.move rfl) rfl rfl rfl ?_
  refine TO.y (Y.add rfl rfl) rfl rfl rfl ?_
  refine TO.bind fun R5 H6 => ?_
  refine TO.ef (Ef.call (rest := [.own (.slice (some ⟨B1, 0, none⟩) 0 0) (lc ([] : List UInt8))]) [0, 0] (spec_l1Below_con ({ b := c.b, i := R2.2.i, h := R2.2.h : L1Cur }) (IntKind.i64.wrap (most + (1 : Int))) V_c0 B_c R5 H6) kc33 rfl rfl ⟨(Base.can HB_V_c0), trivial⟩) rfl rfl rfl (fun _ => ?_)
  refine TO.y (Y.assign rfl) rfl rfl rfl ?_
  refine TO.nil ?_
  refine TE.next ?_
  refine TW.joinX (τ := Int × Int × List UInt8) (X := Value) (fun _ X => [(5, X)]) (fun T X => [.box B_c 69 [V_c0, .int .i64 T.1, .int .i64 T.2.1], .own X (lc T.2.2)]) ?_ (fun T10 X11 => ?_)
  · refine TW.block ?_
    refine TW.loopX (σ := Int × Int × Int × List UInt8) (X := Value) (fun T X => [(0, .pointer (some ⟨B_c, 0, none⟩)), (5, X), (6, .int .i64 R2.1), (7, .int .i64 T.2.2.1)]) (fun T X => [.box B_c 69 [V_c0, .int .i64 T.1, .int .i64 T.2.1], .own X (lc T.2.2.2)]) (.slice (some ⟨B1, 0, none⟩) 0 0) [0, 0] ⟨rfl, rfl, rfl, rfl, trivial⟩ rfl (fun S8 X9 => ?_)
    refine TW.seq ?_
    refine TW.seq ?_
    refine TW.region ?_
    refine TO.y (Y.move rfl) rfl rfl rfl ?_
    refine TO.y (Y.gtr rfl rfl) rfl rfl rfl ?_
    refine TO.nil ?_
    refine TE.next ?_
    refine TW.cond rfl (fun H12 => ?_) (fun H12 => ?_)
    · refine TW.skip ?_
      refine TE.next ?_
      refine TW.seq ?_
      refine TW.block ?_
      refine TW.seq ?_
      refine TW.region ?_
      refine TO.y (Y.move rfl) rfl rfl rfl ?_
      refine TO.bind fun R13 H14 => ?_
      refine TO.ef (Ef.call (rest := [.own X9 (lc S8.2.2.2)]) [0, 0] (spec_l1Byte_con ({ b := c.b, i := S8.1, h := S8.2.1 : L1Cur }) V_c0 B_c R13 H14) kc50 rfl rfl ⟨(Base.can HB_V_c0), trivial⟩) rfl rfl rfl (fun _ => ?_)
      refine TO.y (Y.assign rfl) rfl rfl rfl ?_
      refine TO.nil ?_
      refine TE.next ?_
      refine TW.seq ?_
      refine TW.seq ?_
      refine TW.region ?_
      refine TO.y (Y.move rfl) rfl rfl rfl ?_
      refine TO.y (Y.eql rfl rfl) rfl rfl rfl ?_
      refine TO.nil ?_
      refine TE.next ?_
      refine TW.joinX (τ := Int) (X := Unit) (fun T _ => [(0, .pointer (some ⟨B_c, 0, none⟩)), (5, X9), (6, .int .i64 R2.1), (7, .int .i64 S8.2.2.1), (8, .int .i64 T)]) (fun _ _ => [.box B_c 69 [V_c0, .int .i64 R13.2.i, .int .i64 R13.2.h], .own X9 (lc S8.2.2.2)]) ?_ (fun T16 X17 => ?_)
      · refine TW.cond rfl (fun H18 => ?_) (fun H18 => ?_)
        · refine TW.region ?_
          refine TO.y (Y.move rfl) rfl rfl rfl ?_
          refine TO.y (Y.rem (by decide) rfl rfl) rfl rfl rfl ?_
          refine TO.y (Y.assign rfl) rfl rfl rfl ?_
          refine TO.nil ?_
          exact TE.jn_go () [0, 0] ⟨rfl, rfl, rfl, rfl, rfl, trivial⟩ rfl
        · refine TW.skip ?_
          exact TE.jn_go () [0, 0] ⟨rfl, rfl, rfl, rfl, rfl, trivial⟩ rfl
      · refine TE.next ?_
        refine TW.seq ?_
        refine TW.seq ?_
        refine TW.region ?_
        refine TO.y (Y.move rfl) rfl rfl rfl ?_
        refine TO.y (Y.eql rfl rfl) rfl rfl rfl ?_
        refine TO.nil ?_
        refine TE.next ?_
        refine TW.joinX (τ := Int) (X := Unit) (fun T _ => [(0, .pointer (some ⟨B_c, 0, none⟩)), (5, X9), (6, .int .i64 R2.1), (7, .int .i64 S8.2.2.1), (8, .int .i64 T)]) (fun _ _ => [.box B_c 69 [V_c0, .int .i64 R13.2.i, .int .i64 R13.2.h], .own X9 (lc S8.2.2.2)]) ?_ (fun T19 X20 => ?_)
        · refine TW.cond rfl (fun H21 => ?_) (fun H21 => ?_)
          · refine TW.region ?_
            refine TO.y (Y.move rfl) rfl rfl rfl ?_
            refine TO.y (Y.rem (by decide) rfl rfl) rfl rfl rfl ?_
            refine TO.y (Y.add rfl rfl) rfl rfl rfl ?_
            refine TO.y (Y.assign rfl) rfl rfl rfl ?_
            refine TO.nil ?_
            exact TE.jn_go () [0, 0] ⟨rfl, rfl, rfl, rfl, rfl, trivial⟩ rfl
          · refine TW.skip ?_
            exact TE.jn_go () [0, 0] ⟨rfl, rfl, rfl, rfl, rfl, trivial⟩ rfl
        · refine TE.next ?_
          refine TW.region ?_
          refine TO.y (Y.move rfl) rfl rfl rfl ?_
          refine TO.y (Y.move rfl) rfl rfl rfl ?_
          refine TO.y (Y.conv8 ki3 ki5 rfl) rfl rfl rfl ?_
          refine TO.ef (Ef.buildSlice (α := UInt8) (Vs := [.int .u8 (((toU8 T19).toNat : Nat) : Int)]) [toU8 T19] ke22 kz5 rfl rfl rfl rfl rfl) rfl rfl rfl (fun B22 => ?_)
          refine TO.bind fun E24 H25 => ?_
          refine TO.ef (Ef.append (α := UInt8) (is' := [.own (.slice (some ⟨B22, 0, none⟩) 1 1) (lc ([toU8 T19])), .box B_c 69 [V_c0, .int .i64 R13.2.i, .int .i64 R13.2.h]]) [2, 0, 0] H25 ke22 kz5 rfl rfl rfl rfl rfl (Can.own 0 rfl)) rfl rfl rfl (fun V23 => ?_)
          refine TO.y (Y.assign rfl) rfl rfl rfl ?_
          refine TO.nil ?_
          refine TE.block_normal ?_
          refine TE.next ?_
          refine TW.region ?_
          refine TO.y (Y.move rfl) rfl rfl rfl ?_
          refine TO.y (Y.sub rfl rfl) rfl rfl rfl ?_
          refine TO.y (Y.assign rfl) rfl rfl rfl ?_
          refine TO.nil ?_
          exact TE.lp_go V23 [2, 0] ⟨rfl, rfl, rfl, rfl, trivial⟩ rfl
    · refine TW.exit ?_
      refine TE.then_exit ?_
      refine TE.lp_exit ?_
      refine TE.block_exit ?_
      exact TE.jn_go X9 [0, 0] ⟨rfl, trivial⟩ rfl
  · refine TE.next ?_
    refine TW.seq ?_
    refine TW.region ?_
    refine TO.y (Y.move rfl) rfl rfl rfl ?_
    refine TO.y (Y.toStr ke22 ki5 ks9 (Can.own 1 rfl) rfl) rfl rfl rfl ?_
    refine TO.y (Y.assign rfl) rfl rfl rfl ?_
    refine TO.nil ?_
    refine TE.next ?_
    refine TW.ret ?_
    exact TE.leaf fun _ _ hf_ hs_ => ret_any (rs := [.tmp 4]) (vs := [strV T10.2.2]) (.inl rfl) rfl ⟨rfl, trivial⟩ hf_ hs_ ⟨(), rfl, hs_.pulls [0] rfl⟩

/-- loop.example/g00950/spec.l1Spoil -/
noncomputable def spec_l1Spoil (c : L1Cur) (s : List UInt8) : Option (List UInt8 × L1Cur) :=
  if (decide (((s.length : Nat) : Int) = (0 : Int))) = true then ((spec_l1Text c (3 : Int)).bind fun R2 =>
  some (R2.1, { b := c.b, i := R2.2.i, h := R2.2.h : L1Cur }))
  else ((spec_l1Below c ((s.length : Nat) : Int)).bind fun R5 =>
  (spec_l1Below ({ b := c.b, i := R5.2.i, h := R5.2.h : L1Cur }) (4 : Int)).bind fun R8 =>
  if (decide (R8.1 = (0 : Int))) = true then ((ssub s 0 R5.1).bind fun E12 =>
  (ssub s (IntKind.i64.wrap (R5.1 + (1 : Int))) (s.length : Int)).bind fun E14 =>
  (cat E12 E14).bind fun E16 =>
  some (E16, { b := c.b, i := R8.2.i, h := R8.2.h : L1Cur }))
  else (if (decide (R8.1 = (1 : Int))) = true then ((ssub s 0 R5.1).bind fun E19 =>
  (ssub s R5.1 (s.length : Int)).bind fun E21 =>
  (spec_l1Byte ({ b := c.b, i := R8.2.i, h := R8.2.h : L1Cur })).bind fun R23 =>
  (cat E19 ([toU8 R23.1])).bind fun E27 =>
  (cat E27 E21).bind fun E29 =>
  some (E29, { b := c.b, i := R23.2.i, h := R23.2.h : L1Cur }))
  else (if (decide (R8.1 = (2 : Int))) = true then ((ssub s 0 R5.1).bind fun E32 =>
  some (E32, { b := c.b, i := R8.2.i, h := R8.2.h : L1Cur }))
  else ((ssub s 0 R5.1).bind fun E34 =>
  (sidx s R5.1).bind fun E36 =>
  (ssub s (IntKind.i64.wrap (R5.1 + (1 : Int))) (s.length : Int)).bind fun E38 =>
  (spec_l1Below ({ b := c.b, i := R8.2.i, h := R8.2.h : L1Cur }) (255 : Int)).bind fun R40 =>
  (cat E34 ([toU8 (ixor .i64 (IntKind.i64.wrap ((E36.toNat : Nat) : Int)) (IntKind.i64.wrap ((1 : Int) + R40.1)))])).bind fun E44 =>
  (cat E44 E38).bind fun E46 =>
  some (E46, { b := c.b, i := R40.2.i, h := R40.2.h : L1Cur })))))

theorem spec_l1Spoil_con (c : L1Cur) (s : List UInt8) (V_c0 : Value) (B_c : Nat) (r : List UInt8 × L1Cur) (hm : spec_l1Spoil c s = some r) :
    Con Try.prog 36 [.pointer (some ⟨B_c, 0, none⟩), strV s] [.box B_c 69 [V_c0, .int .i64 c.i, .int .i64 c.h]] [(V_c0, lc c.b)] (fun _ : Unit => strV r.1) (fun _ => [.box B_c 69 [V_c0, .int .i64 r.2.i, .int .i64 r.2.h]]) := by
  refine Con.intro (args := [.pointer (some ⟨B_c, 0, none⟩), strV s]) (n := 67) (val := fun r (_ : Unit) => strV r.1) (post := fun r _ => [.box B_c 69 [V_c0, .int .i64 r.2.i, .int .i64 r.2.h]]) (m := spec_l1Spoil c s) Try.func36 rfl rfl rfl hm ?_
  intro w S hrd
  have HB_V_c0 := hrd _ (.head _)
  clear hrd
  unfold spec_l1Spoil
  refine TW.seq ?_
  refine TW.region ?_
  refine TO.y (Y.assign rfl) rfl rfl rfl ?_
  refine TO.nil ?_
  refine TE.next ?_
  refine TW.seq ?_
  refine TW.seq ?_
  refine TW.region ?_
  refine TO.y (Y.move rfl) rfl rfl rfl ?_
  refine TO.y (Y.slen ks9 rfl) rfl rfl rfl ?_
  refine TO.y (Y.eql rfl rfl) rfl rfl rfl ?_
  refine TO.nil ?_
  refine TE.next ?_
  refine TW.cond rfl (fun H1 => ?_) (fun H1 => ?_)
  · refine TW.seq ?_
    refine TW.region ?_
    refine TO.y (Y.move rfl) rfl rfl rfl ?_
    refine TO.bind fun R2 H3 => ?_
    refine TO.ef (Ef.call (rest := []) [0] (spec_l1Text_con c (3 : Int) V_c0 B_c R2 H3) kc51 rfl rfl ⟨(Base.can HB_V_c0), trivial⟩) rfl rfl rfl (fun _ => ?_)
    refine TO.y (Y.assign rfl) rfl rfl rfl ?_
    refine TO.nil ?_
    refine TE.next ?_
    refine TW.ret ?_
    refine TE.then_ret ?_
    exact TE.leaf fun _ _ hf_ hs_ => ret_any (rs := [.tmp 4]) (vs := [strV R2.1]) (.inl rfl) rfl ⟨rfl, trivial⟩ hf_ hs_ ⟨(), rfl, hs_.pulls [0] rfl⟩
  · refine TW.skip ?_
    refine TE.next ?_
    refine TW.seq ?_
    refine TW.region ?_
    refine TO.y (Y.move rfl) rfl rfl rfl ?_
    refine TO.y (Y.move rfl) rfl rfl rfl ?_
    refine TO.y (Y.slen ks9 rfl) rfl rfl rfl ?_
    refine TO.bind fun R5 H6 => ?_
    refine TO.ef (Ef.call (rest := []) [0] (spec_l1Below_con c ((s.length : Nat) : Int) V_c0 B_c R5 H6) kc33 rfl rfl ⟨(Base.can HB_V_c0), trivial⟩) rfl rfl rfl (fun _ => ?_)
    refine TO.y (Y.assign rfl) rfl rfl rfl ?_
    refine TO.nil ?_
    refine TE.next ?_
    refine TW.seq ?_
    refine TW.seq ?_
    refine TW.region ?_
    refine TO.y (Y.move rfl) rfl rfl rfl ?_
    refine TO.bind fun R8 H9 => ?_
    refine TO.ef (Ef.call (rest := []) [0] (spec_l1Below_con ({ b := c.b, i := R5.2.i, h := R5.2.h : L1Cur }) (4 : Int) V_c0 B_c R8 H9) kc33 rfl rfl ⟨(Base.can HB_V_c0), trivial⟩) rfl rfl rfl (fun _ => ?_)
    refine TO.nil ?_
    refine TE.next ?_
    refine TW.block ?_
    refine TW.seq ?_
    refine TW.region ?_
    refine TO.y (Y.eql rfl rfl) rfl rfl rfl ?_
    refine TO.y (Y.assign rfl) rfl rfl rfl ?_
    refine TO.nil ?_
    refine TE.next ?_
    refine TW.cond rfl (fun H11 => ?_) (fun H11 => ?_)
    · refine TW.seq ?_
      refine TW.draw (isH := [.box B_c 69 [V_c0, .int .i64 R8.2.i, .int .i64 R8.2.h]]) hMix ?_
      refine TA.y (listed' := #[true, false, false, false, false, false, false, false, false]) 0 [0] rfl (Y.move rfl) rfl rfl rfl (by kernel_rfl) (by kernel_rfl) (by kernel_rfl) rfl rfl ?_
      refine TA.y (listed' := #[true, true, false, false, false, false, false, false, false]) 1 [0] rfl (Y.move rfl) rfl rfl rfl (by kernel_rfl) (by kernel_rfl) (by kernel_rfl) rfl rfl ?_
      refine TA.bind fun E12 H13 => ?_
      refine TA.y (listed' := #[true, true, true, false, false, false, false, false, false]) 2 [0] rfl (Y.ssub_to H13 ks9 rfl rfl) rfl rfl rfl (by kernel_rfl) (by kernel_rfl) (by kernel_rfl) rfl rfl ?_
      refine TA.y (listed' := #[true, true, true, true, false, false, false, false, false]) 3 [0] rfl (Y.move rfl) rfl rfl rfl (by kernel_rfl) (by kernel_rfl) (by kernel_rfl) rfl rfl ?_
      refine TA.y (listed' := #[true, true, true, true, true, false, false, false, false]) 4 [0] rfl (Y.move rfl) rfl rfl rfl (by kernel_rfl) (by kernel_rfl) (by kernel_rfl) rfl rfl ?_
      refine TA.y (listed' := #[true, true, true, true, true, true, false, false, false]) 5 [0] rfl (Y.add rfl rfl) rfl rfl rfl (by kernel_rfl) (by kernel_rfl) (by kernel_rfl) rfl rfl ?_
      refine TA.bind fun E14 H15 => ?_
      refine TA.y (listed' := #[true, true, true, true, true, true, true, false, false]) 6 [0] rfl (Y.ssub_from H15 ks9 rfl rfl) rfl rfl rfl (by kernel_rfl) (by kernel_rfl) (by kernel_rfl) rfl rfl ?_
      refine TA.bind fun E16 H17 => ?_
      refine TA.y (listed' := #[true, true, true, true, true, true, true, true, false]) 7 [0] rfl (Y.cat H17 rfl rfl) rfl rfl rfl (by kernel_rfl) (by kernel_rfl) (by kernel_rfl) rfl rfl ?_
      refine TA.y (listed' := #[true, true, true, true, true, true, true, true, true]) 8 [0] rfl (Y.assign rfl) rfl rfl rfl (by kernel_rfl) (by kernel_rfl) (by kernel_rfl) rfl rfl ?_
      refine TA.nil (by kernel_rfl) ?_
      refine TE.next ?_
      refine TW.ret ?_
      refine TE.block_ret ?_
      refine TE.then_ret ?_
      exact TE.leaf fun _ _ hf_ hs_ => ret_any (rs := [.tmp 4]) (vs := [strV E16]) (.inl rfl) rfl ⟨rfl, trivial⟩ hf_ hs_ ⟨(), rfl, hs_.pulls [0] rfl⟩
    · refine TW.seq ?_
      refine TW.region ?_
      refine TO.y (Y.eql rfl rfl) rfl rfl rfl ?_
      refine TO.y (Y.assign rfl) rfl rfl rfl ?_
      refine TO.nil ?_
      refine TE.next ?_
      refine TW.cond rfl (fun H18 => ?_) (fun H18 => ?_)
      · refine TW.seq ?_
        refine TW.draw (isH := []) hMix ?_
        refine TA.y (listed' := #[true, false, false, false, false, false, false, false, false, false, false, false, false, false]) 0 [] rfl (Y.move rfl) rfl rfl rfl (by kernel_rfl) (by kernel_rfl) (by kernel_rfl) rfl rfl ?_
        refine TA.y (listed' := #[true, true, false, false, false, false, false, false, false, false, false, false, false, false]) 1 [] rfl (Y.move rfl) rfl rfl rfl (by kernel_rfl) (by kernel_rfl) (by kernel_rfl) rfl rfl ?_
        refine TA.bind fun E19 H20 => ?_
        refine TA.y (listed' := #[true, true, true, false, false, false, false, false, false, false, false, false, false, false]) 2 [] rfl (Y.ssub_to H20 ks9 rfl rfl) rfl rfl rfl (by kernel_rfl) (by kernel_rfl) (by kernel_rfl) rfl rfl ?_
        refine TA.y (listed' := #[true, true, true, true, false, false, false, false, false, false, false, false, false, false]) 3 [] rfl (Y.move rfl) rfl rfl rfl (by kernel_rfl) (by kernel_rfl) (by kernel_rfl) rfl rfl ?_
        refine TA.y (listed' := #[true, true, true, true, false, false, false, false, false, true, false, false, false, false]) 9 [] rfl (Y.move rfl) rfl rfl rfl (by kernel_rfl) (by kernel_rfl) (by kernel_rfl) rfl rfl ?_
        refine TA.y (listed' := #[true, true, true, true, false, false, false, false, false, true, true, false, false, false]) 10 [] rfl (Y.move rfl) rfl rfl rfl (by kernel_rfl) (by kernel_rfl) (by kernel_rfl) rfl rfl ?_
        refine TA.bind fun E21 H22 => ?_
        refine TA.y (listed' := #[true, true, true, true, false, false, false, false, false, true, true, true, false, false]) 11 [] rfl (Y.ssub_from H22 ks9 rfl rfl) rfl rfl rfl (by kernel_rfl) (by kernel_rfl) (by kernel_rfl) rfl rfl ?_
        refine TA.bind fun R23 H24 => ?_
        refine TA.one 4 (by kernel_rfl) ?_
        refine TX.ef (listed' := #[true, true, true, true, true, false, false, false, false, true, true, true, false, false]) [] rfl (Ef.call (rest := []) [0] (spec_l1Byte_con ({ b := c.b, i := R8.2.i, h := R8.2.h : L1Cur }) V_c0 B_c R23 H24) kc50 rfl rfl ⟨(Base.can HB_V_c0), trivial⟩) rfl rfl rfl rfl (fun _ => rfl) (fun _ => ?_)
        refine TA.y (listed' := #[true, true, true, true, true, true, false, false, false, true, true, true, false, false]) 5 [] rfl (Y.conv8 ki3 ki5 rfl) rfl rfl rfl (by kernel_rfl) (by kernel_rfl) (by kernel_rfl) rfl rfl ?_
        refine TA.one 6 (by kernel_rfl) ?_
        refine TX.ef (listed' := #[true, true, true, true, true, true, true, false, false, true, true, true, false, false]) [] rfl (Ef.buildSlice (α := UInt8) (Vs := [.int .u8 (((toU8 R23.1).toNat : Nat) : Int)]) [toU8 R23.1] ke22 kz5 rfl rfl rfl rfl rfl) rfl rfl rfl rfl (fun _ => rfl) (fun B26 => ?_)
        refine TA.one 7 (by kernel_rfl) ?_
        refine TX.y (listed' := #[true, true, true, true, true, true, true, true, false, true, true, true, false, false]) [] rfl (Y.toStr ke22 ki5 ks9 (Can.own 0 rfl) rfl) rfl rfl rfl rfl rfl ?_
        refine TA.bind fun E27 H28 => ?_
        refine TA.y (listed' := #[true, true, true, true, true, true, true, true, true, true, true, true, false, false]) 8 [] rfl (Y.cat H28 rfl rfl) rfl rfl rfl (by kernel_rfl) (by kernel_rfl) (by kernel_rfl) rfl rfl ?_
        refine TA.bind fun E29 H30 => ?_
        refine TA.y (listed' := #[true, true, true, true, true, true, true, true, true, true, true, true, true, false]) 12 [] rfl (Y.cat H30 rfl rfl) rfl rfl rfl (by kernel_rfl) (by kernel_rfl) (by kernel_rfl) rfl rfl ?_
        refine TA.y (listed' := #[true, true, true, true, true, true, true, true, true, true, true, true, true, true]) 13 [] rfl (Y.assign rfl) rfl rfl rfl (by kernel_rfl) (by kernel_rfl) (by kernel_rfl) rfl rfl ?_
        refine TA.nil (by kernel_rfl) ?_
        refine TE.next ?_
        refine TW.ret ?_
        refine TE.block_ret ?_
        refine TE.then_ret ?_
        exact TE.leaf fun _ _ hf_ hs_ => ret_any (rs := [.tmp 4]) (vs := [strV E29]) (.inl rfl) rfl ⟨rfl, trivial⟩ hf_ hs_ ⟨(), rfl, hs_.pulls [1] rfl⟩
      · refine TW.seq ?_
        refine TW.region ?_
        refine TO.y (Y.eql rfl rfl) rfl rfl rfl ?_
        refine TO.y (Y.assign rfl) rfl rfl rfl ?_
        refine TO.nil ?_
        refine TE.next ?_
        refine TW.cond rfl (fun H31 => ?_) (fun H31 => ?_)
        · refine TW.seq ?_
          refine TW.region ?_
          refine TO.y (Y.move rfl) rfl rfl rfl ?_
          refine TO.y (Y.move rfl) rfl rfl rfl ?_
          refine TO.bind fun E32 H33 => ?_
          refine TO.y (Y.ssub_to H33 ks9 rfl rfl) rfl rfl rfl ?_
          refine TO.y (Y.assign rfl) rfl rfl rfl ?_
          refine TO.nil ?_
          refine TE.next ?_
          refine TW.ret ?_
          refine TE.block_ret ?_
          refine TE.then_ret ?_
          exact TE.leaf fun _ _ hf_ hs_ => ret_any (rs := [.tmp 4]) (vs := [strV E32]) (.inl rfl) rfl ⟨rfl, trivial⟩ hf_ hs_ ⟨(), rfl, hs_.pulls [0] rfl⟩
        · refine TW.skip ?_
          refine TE.block_normal ?_
          refine TE.next ?_
          refine TW.seq ?_
          refine TW.draw (isH := []) hMix ?_
          refine TA.y (listed' := #[true, false, false, false, false, false, false, false, false, false, false, false, false, false, false, false, false, false, false, false, false]) 0 [] rfl (Y.move rfl) rfl rfl rfl (by kernel_rfl) (by kernel_rfl) (by kernel_rfl) rfl rfl ?_
          refine TA.y (listed' := #[true, true, false, false, false, false, false, false, false, false, false, false, false, false, false, false, false, false, false, false, false]) 1 [] rfl (Y.move rfl) rfl rfl rfl (by kernel_rfl) (by kernel_rfl) (by kernel_rfl) rfl rfl ?_
          refine TA.bind fun E34 H35 => ?_
          refine TA.y (listed' := #[true, true, true, false, false, false, false, false, false, false, false, false, false, false, false, false, false, false, false, false, false]) 2 [] rfl (Y.ssub_to H35 ks9 rfl rfl) rfl rfl rfl (by kernel_rfl) (by kernel_rfl) (by kernel_rfl) rfl rfl ?_
          refine TA.y (listed' := #[true, true, true, true, false, false, false, false, false, false, false, false, false, false, false, false, false, false, false, false, false]) 3 [] rfl (Y.move rfl) rfl rfl rfl (by kernel_rfl) (by kernel_rfl) (by kernel_rfl) rfl rfl ?_
          refine TA.y (listed' := #[true, true, true, true, true, false, false, false, false, false, false, false, false, false, false, false, false, false, false, false, false]) 4 [] rfl (Y.move rfl) rfl rfl rfl (by kernel_rfl) (by kernel_rfl) (by kernel_rfl) rfl rfl ?_
          refine TA.bind fun E36 H37 => ?_
          refine TA.y (listed' := #[true, true, true, true, true, true, false, false, false, false, false, false, false, false, false, false, false, false, false, false, false]) 5 [] rfl (Y.sidx H37 ks9 rfl rfl) rfl rfl rfl (by kernel_rfl) (by kernel_rfl) (by kernel_rfl) rfl rfl ?_
          refine TA.y (listed' := #[true, true, true, true, true, true, true, false, false, false, false, false, false, false, false, false, false, false, false, false, false]) 6 [] rfl (Y.conv ki5 ki3 rfl) rfl rfl rfl (by kernel_rfl) (by kernel_rfl) (by kernel_rfl) rfl rfl ?_
          refine TA.y (listed' := #[true, true, true, true, true, true, true, true, false, false, false, false, false, false, false, false, false, false, false, false, false]) 7 [] rfl (Y.move rfl) rfl rfl rfl (by kernel_rfl) (by kernel_rfl) (by kernel_rfl) rfl rfl ?_
          refine TA.y (listed' := #[true, true, true, true, true, true, true, true, false, false, false, false, false, false, false, true, false, false, false, false, false]) 15 [] rfl (Y.move rfl) rfl rfl rfl (by kernel_rfl) (by kernel_rfl) (by kernel_rfl) rfl rfl ?_
          refine TA.y (listed' := #[true, true, true, true, true, true, true, true, false, false, false, false, false, false, false, true, true, false, false, false, false]) 16 [] rfl (Y.move rfl) rfl rfl rfl (by kernel_rfl) (by kernel_rfl) (by kernel_rfl) rfl rfl ?_
          refine TA.y (listed' := #[true, true, true, true, true, true, true, true, false, false, false, false, false, false, false, true, true, true, false, false, false]) 17 [] rfl (Y.add rfl rfl) rfl rfl rfl (by kernel_rfl) (by kernel_rfl) (by kernel_rfl) rfl rfl ?_
          refine TA.bind fun E38 H39 => ?_
          refine TA.y (listed' := #[true, true, true, true, true, true, true, true, false, false, false, false, false, false, false, true, true, true, true, false, false]) 18 [] rfl (Y.ssub_from H39 ks9 rfl rfl) rfl rfl rfl (by kernel_rfl) (by kernel_rfl) (by kernel_rfl) rfl rfl ?_
          refine TA.bind fun R40 H41 => ?_
          refine TA.one 8 (by kernel_rfl) ?_
          refine TX.ef (listed' := #[true, true, true, true, true, true, true, true, true, false, false, false, false, false, false, true, true, true, true, false, false]) [] rfl (Ef.call (rest := []) [0] (spec_l1Below_con ({ b := c.b, i := R8.2.i, h := R8.2.h : L1Cur }) (255 : Int) V_c0 B_c R40 H41) kc33 rfl rfl ⟨(Base.can HB_V_c0), trivial⟩) rfl rfl rfl rfl (fun _ => rfl) (fun _ => ?_)
          refine TA.y (listed' := #[true, true, true, true, true, true, true, true, true, true, false, false, false, false, false, true, true, true, true, false, false]) 9 [] rfl (Y.add rfl rfl) rfl rfl rfl (by kernel_rfl) (by kernel_rfl) (by kernel_rfl) rfl rfl ?_
          refine TA.y (listed' := #[true, true, true, true, true, true, true, true, true, true, true, false, false, false, false, true, true, true, true, false, false]) 10 [] rfl (Y.xor rfl rfl) rfl rfl rfl (by kernel_rfl) (by kernel_rfl) (by kernel_rfl) rfl rfl ?_
          refine TA.y (listed' := #[true, true, true, true, true, true, true, true, true, true, true, true, false, false, false, true, true, true, true, false, false]) 11 [] rfl (Y.conv8 ki3 ki5 rfl) rfl rfl rfl (by kernel_rfl) (by kernel_rfl) (by kernel_rfl) rfl rfl ?_
          refine TA.one 12 (by kernel_rfl) ?_
          refine TX.ef (listed' := #[true, true, true, true, true, true, true, true, true, true, true, true, true, false, false, true, true, true, true, false, false]) [] rfl (Ef.buildSlice (α := UInt8) (Vs := [.int .u8 (((toU8 (ixor .i64 (IntKind.i64.wrap ((E36.toNat : Nat) : Int)) (IntKind.i64.wrap ((1 : Int) + R40.1)))).toNat : Nat) : Int)]) [toU8 (ixor .i64 (IntKind.i64.wrap ((E36.toNat : Nat) : Int)) (IntKind.i64.wrap ((1 : Int) + R40.1)))] ke22 kz5 rfl rfl rfl rfl rfl) rfl rfl rfl rfl (fun _ => rfl) (fun B43 => ?_)
          refine TA.one 13 (by kernel_rfl) ?_
          refine TX.y (listed' := #[true, true, true, true, true, true, true, true, true, true, true, true, true, true, false, true, true, true, true, false, false]) [] rfl (Y.toStr ke22 ki5 ks9 (Can.own 0 rfl) rfl) rfl rfl rfl rfl rfl ?_
          refine TA.bind fun E44 H45 => ?_
          refine TA.y (listed' := #[true, true, true, true, true, true, true, true, true, true, true, true, true, true, true, true, true, true, true, false, false]) 14 [] rfl (Y.cat H45 rfl rfl) rfl rfl rfl (by kernel_rfl) (by kernel_rfl) (by kernel_rfl) rfl rfl ?_
          refine TA.bind fun E46 H47 => ?_
          refine TA.y (listed' := #[true, true, true, true, true, true, true, true, true, true, true, true, true, true, true, true, true, true, true, true, false]) 19 [] rfl (Y.cat H47 rfl rfl) rfl rfl rfl (by kernel_rfl) (by kernel_rfl) (by kernel_rfl) rfl rfl ?_
          refine TA.y (listed' := #[true, true, true, true, true, true, true, true, true, true, true, true, true, true, true, true, true, true, true, true, true]) 20 [] rfl (Y.assign rfl) rfl rfl rfl (by kernel_rfl) (by kernel_rfl) (by kernel_rfl) rfl rfl ?_
          refine TA.nil (by kernel_rfl) ?_
          refine TE.next ?_
          refine TW.ret ?_
          exact TE.leaf fun _ _ hf_ hs_ => ret_any (rs := [.tmp 4]) (vs := [strV E46]) (.inl rfl) rfl ⟨rfl, trivial⟩ hf_ hs_ ⟨(), rfl, hs_.pulls [1] rfl⟩

/-- loop.example/g00950/spec.DrawReadToken -/
noncomputable def spec_DrawReadToken (code : List UInt8) : Option (List UInt8 × List UInt8) :=
  (spec_l1New code).bind fun R1 =>
  (spec_l3Key ({ b := code, i := R1.i, h := R1.h : L1Cur })).bind fun R4 =>
  (spec_l1Below ({ b := code, i := R4.2.i, h := R4.2.h : L1Cur }) (5 : Int)).bind fun R7 =>
  (spec_l1Below ({ b := code, i := R7.2.i, h := R7.2.h : L1Cur }) (300 : Int)).bind fun R10 =>
  (spec_MintToken R4.1 (IntKind.i64.wrap ((1 : Int) + R7.1)) R10.1).bind fun R13 =>
  (spec_l1Below ({ b := code, i := R10.2.i, h := R10.2.h : L1Cur }) (4 : Int)).bind fun R16 =>
  if (decide (R16.1 = (0 : Int))) = true then ((spec_l1Spoil ({ b := code, i := R16.2.i, h := R16.2.h : L1Cur }) R13).bind fun R20 =>
  some (R4.1, R20.1))
  else (if (decide (R16.1 = (1 : Int))) = true then ((spec_l3Key ({ b := code, i := R16.2.i, h := R16.2.h : L1Cur })).bind fun R24 =>
  some (R24.1, R13))
  else (some (R4.1, R13)))

theorem spec_DrawReadToken_con (code : List UInt8) (V_code0 : Value) (r : List UInt8 × List UInt8) (hm : spec_DrawReadToken code = some r) :
    Con Try.prog 17 [V_code0] [] [(V_code0, lc code)] (fun _ : Unit => .tuple #[strV r.1, strV r.2]) (fun _ => []) := by
  refine Con.intro (args := [V_code0]) (n := 33) (val := fun r (_ : Unit) => .tuple #[strV r.1, strV r.2]) (post := fun _ _ => []) (m := spec_DrawReadToken code) Try.func17 rfl rfl rfl hm ?_
  intro w S hrd
  have HB_V_code0 := hrd _ (.head _)
  clear hrd
  unfold spec_DrawReadToken
  refine TW.seq ?_
  refine TW.region ?_
  refine TO.y (Y.assign rfl) rfl rfl rfl ?_
  refine TO.y (Y.assign rfl) rfl rfl rfl ?_
  refine TO.nil ?_
  refine TE.next ?_
  refine TW.seq ?_
  refine TW.region ?_
  refine TO.y (Y.move rfl) rfl rfl rfl ?_
  refine TO.bind fun R1 H2 => ?_
  refine TO.ef (Ef.call (rest := []) [] (spec_l1New_con code V_code0 R1 H2) kc24 rfl rfl ⟨(Base.can HB_V_code0), trivial⟩) rfl rfl rfl (fun Y3 => ?_)
  refine TO.y (Y.assign rfl) rfl rfl rfl ?_
  refine TO.nil ?_
  refine TE.next ?_
  refine TW.seq ?_
  refine TW.region ?_
  refine TO.y (Y.move rfl) rfl rfl rfl ?_
  refine TO.bind fun R4 H5 => ?_
  refine TO.ef (Ef.call (rest := []) [0] (spec_l3Key_con ({ b := code, i := R1.i, h := R1.h : L1Cur }) V_code0 Y3 R4 H5) kc35 rfl rfl ⟨(Base.can HB_V_code0), trivial⟩) rfl rfl rfl (fun _ => ?_)
  refine TO.y (Y.assign rfl) rfl rfl rfl ?_
  refine TO.nil ?_
  refine TE.next ?_
  refine TW.seq ?_
  refine TW.region ?_
  refine TO.y (Y.move rfl) rfl rfl rfl ?_
  refine TO.y (Y.move rfl) rfl rfl rfl ?_
  refine TO.bind fun R7 H8 => ?_
  refine TO.ef (Ef.call (rest := []) [0] (spec_l1Below_con ({ b := code, i := R4.2.i, h := R4.2.h : L1Cur }) (5 : Int) V_code0 Y3 R7 H8) kc33 rfl rfl ⟨(Base.can HB_V_code0), trivial⟩) rfl rfl rfl (fun _ => ?_)
  refine TO.y (Y.add rfl rfl) rfl rfl rfl ?_
  refine TO.y (Y.move rfl) rfl rfl rfl ?_
  refine TO.bind fun R10 H11 => ?_
  refine TO.ef (Ef.call (rest := []) [0] (spec_l1Below_con ({ b := code, i := R7.2.i, h := R7.2.h : L1Cur }) (300 : Int) V_code0 Y3 R10 H11) kc33 rfl rfl ⟨(Base.can HB_V_code0), trivial⟩) rfl rfl rfl (fun _ => ?_)
  refine TO.bind fun R13 H14 => ?_
  refine TO.ef (Ef.call (rest := [.box Y3 69 [V_code0, .int .i64 R10.2.i, .int .i64 R10.2.h]]) [0] (spec_MintToken_con R4.1 (IntKind.i64.wrap ((1 : Int) + R7.1)) R10.1  R13 H14) kc22 rfl rfl trivial) rfl rfl rfl (fun _ => ?_)
  refine TO.y (Y.assign rfl) rfl rfl rfl ?_
  refine TO.nil ?_
  refine TE.next ?_
  refine TW.seq ?_
  refine TW.seq ?_
  refine TW.region ?_
  refine TO.y (Y.move rfl) rfl rfl rfl ?_
  refine TO.bind fun R16 H17 => ?_
  refine TO.ef (Ef.call (rest := []) [0] (spec_l1Below_con ({ b := code, i := R10.2.i, h := R10.2.h : L1Cur }) (4 : Int) V_code0 Y3 R16 H17) kc33 rfl rfl ⟨(Base.can HB_V_code0), trivial⟩) rfl rfl rfl (fun _ => ?_)
  refine TO.nil ?_
  refine TE.next ?_
  refine TW.block ?_
  refine TW.seq ?_
  refine TW.region ?_
  refine TO.y (Y.eql rfl rfl) rfl rfl rfl ?_
  refine TO.y (Y.assign rfl) rfl rfl rfl ?_
  refine TO.nil ?_
  refine TE.next ?_
  refine TW.cond rfl (fun H19 => ?_) (fun H19 => ?_)
  · refine TW.seq ?_
    refine TW.region ?_
    refine TO.y (Y.move rfl) rfl rfl rfl ?_
    refine TO.y (Y.move rfl) rfl rfl rfl ?_
    refine TO.y (Y.move rfl) rfl rfl rfl ?_
    refine TO.bind fun R20 H21 => ?_
    refine TO.ef (Ef.call (rest := []) [0] (spec_l1Spoil_con ({ b := code, i := R16.2.i, h := R16.2.h : L1Cur }) R13 V_code0 Y3 R20 H21) kc36 rfl rfl ⟨(Base.can HB_V_code0), trivial⟩) rfl rfl rfl (fun _ => ?_)
    refine TO.y (Y.assign rfl) rfl rfl rfl ?_
    refine TO.y (Y.assign rfl) rfl rfl rfl ?_
    refine TO.nil ?_
    refine TE.next ?_
    refine TW.ret ?_
    refine TE.block_ret ?_
    refine TE.then_ret ?_
    exact TE.leaf fun _ _ hf_ hs_ => ret_any (rs := [.tmp 2, .tmp 3]) (vs := [strV R4.1, strV R20.1]) (.inl rfl) rfl ⟨rfl, ⟨rfl, trivial⟩⟩ hf_ hs_ ⟨(), rfl, hs_.pulls [] rfl⟩
  · refine TW.seq ?_
    refine TW.region ?_
    refine TO.y (Y.eql rfl rfl) rfl rfl rfl ?_
    refine TO.y (Y.assign rfl) rfl rfl rfl ?_
    refine TO.nil ?_
    refine TE.next ?_
    refine TW.cond rfl (fun H23 => ?_) (fun H23 => ?_)
    · refine TW.seq ?_
      refine TW.region ?_
      refine TO.y (Y.move rfl) rfl rfl rfl ?_
      refine TO.bind fun R24 H25 => ?_
      refine TO.ef (Ef.call (rest := []) [0] (spec_l3Key_con ({ b := code, i := R16.2.i, h := R16.2.h : L1Cur }) V_code0 Y3 R24 H25) kc35 rfl rfl ⟨(Base.can HB_V_code0), trivial⟩) rfl rfl rfl (fun _ => ?_)
      refine TO.y (Y.move rfl) rfl rfl rfl ?_
      refine TO.y (Y.assign rfl) rfl rfl rfl ?_
      refine TO.y (Y.assign rfl) rfl rfl rfl ?_
      refine TO.nil ?_
      refine TE.next ?_
      refine TW.ret ?_
      refine TE.block_ret ?_
      refine TE.then_ret ?_
      exact TE.leaf fun _ _ hf_ hs_ => ret_any (rs := [.tmp 2, .tmp 3]) (vs := [strV R24.1, strV R13]) (.inl rfl) rfl ⟨rfl, ⟨rfl, trivial⟩⟩ hf_ hs_ ⟨(), rfl, hs_.pulls [] rfl⟩
    · refine TW.skip ?_
      refine TE.block_normal ?_
      refine TE.next ?_
      refine TW.seq ?_
      refine TW.region ?_
      refine TO.y (Y.move rfl) rfl rfl rfl ?_
      refine TO.y (Y.move rfl) rfl rfl rfl ?_
      refine TO.y (Y.assign rfl) rfl rfl rfl ?_
      refine TO.y (Y.assign rfl) rfl rfl rfl ?_
      refine TO.nil ?_
      refine TE.next ?_
      refine TW.ret ?_
      exact TE.leaf fun _ _ hf_ hs_ => ret_any (rs := [.tmp 2, .tmp 3]) (vs := [strV R4.1, strV R13]) (.inl rfl) rfl ⟨rfl, ⟨rfl, trivial⟩⟩ hf_ hs_ ⟨(), rfl, hs_.pulls [] rfl⟩

end Go.Proofs.Ytammomfkamhhdaa
