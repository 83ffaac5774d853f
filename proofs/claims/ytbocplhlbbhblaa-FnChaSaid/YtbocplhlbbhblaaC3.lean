/-
  The functions that a law reaches, each as a pure function, with the proof that the program computes it, and the step from a pure law to the given statement. Conditions: none.
-/
import Derived.Test.YtbocplhlbbhblaaC2
set_option linter.unusedVariables false
set_option maxRecDepth 100000
set_option maxHeartbeats 4000000
namespace Go.Proofs.Ytbocplhlbbhblaa
open Go Sl

/-- loop.example/g00950/spec.l3Quarter -/
noncomputable def spec_l3Quarter (s : List Int) (a : Int) (b : Int) (c : Int) (d : Int) : Option (List Int) :=
  (idx s a).bind fun E1 =>
  (idx s b).bind fun E3 =>
  (spec_l3Word (IntKind.i64.wrap (E1 + E3))).bind fun R5 =>
  (idx (s.set a.toNat R5) d).bind fun E10 =>
  (idx (s.set a.toNat R5) a).bind fun E12 =>
  (spec_l3Left (ixor .i64 E10 E12) (16 : Int)).bind fun R14 =>
  (idx ((s.set a.toNat R5).set d.toNat R14) c).bind fun E19 =>
  (idx ((s.set a.toNat R5).set d.toNat R14) d).bind fun E21 =>
  (spec_l3Word (IntKind.i64.wrap (E19 + E21))).bind fun R23 =>
  (idx (((s.set a.toNat R5).set d.toNat R14).set c.toNat R23) b).bind fun E28 =>
  (idx (((s.set a.toNat R5).set d.toNat R14).set c.toNat R23) c).bind fun E30 =>
  (spec_l3Left (ixor .i64 E28 E30) (12 : Int)).bind fun R32 =>
  (idx ((((s.set a.toNat R5).set d.toNat R14).set c.toNat R23).set b.toNat R32) a).bind fun E37 =>
  (idx ((((s.set a.toNat R5).set d.toNat R14).set c.toNat R23).set b.toNat R32) b).bind fun E39 =>
  (spec_l3Word (IntKind.i64.wrap (E37 + E39))).bind fun R41 =>
  (idx (((((s.set a.toNat R5).set d.toNat R14).set c.toNat R23).set b.toNat R32).set a.toNat R41) d).bind fun E46 =>
  (idx (((((s.set a.toNat R5).set d.toNat R14).set c.toNat R23).set b.toNat R32).set a.toNat R41) a).bind fun E48 =>
  (spec_l3Left (ixor .i64 E46 E48) (8 : Int)).bind fun R50 =>
  (idx ((((((s.set a.toNat R5).set d.toNat R14).set c.toNat R23).set b.toNat R32).set a.toNat R41).set d.toNat R50) c).bind fun E55 =>
  (idx ((((((s.set a.toNat R5).set d.toNat R14).set c.toNat R23).set b.toNat R32).set a.toNat R41).set d.toNat R50) d).bind fun E57 =>
  (spec_l3Word (IntKind.i64.wrap (E55 + E57))).bind fun R59 =>
  (idx (((((((s.set a.toNat R5).set d.toNat R14).set c.toNat R23).set b.toNat R32).set a.toNat R41).set d.toNat R50).set c.toNat R59) b).bind fun E64 =>
  (idx (((((((s.set a.toNat R5).set d.toNat R14).set c.toNat R23).set b.toNat R32).set a.toNat R41).set d.toNat R50).set c.toNat R59) c).bind fun E66 =>
  (spec_l3Left (ixor .i64 E64 E66) (7 : Int)).bind fun R68 =>
  some ((((((((s.set a.toNat R5).set d.toNat R14).set c.toNat R23).set b.toNat R32).set a.toNat R41).set d.toNat R50).set c.toNat R59).set b.toNat R68)

theorem spec_l3Quarter_con (s : List Int) (a : Int) (b : Int) (c : Int) (d : Int) (V_s0 : Value) (r : List Int) (hm : spec_l3Quarter s a b c d = some r) :
    Con Try.prog 46 [V_s0, .int .i64 a, .int .i64 b, .int .i64 c, .int .i64 d] [.own V_s0 (lc s)] [] (fun X : Value => X) (fun X => [.own X (lc r)]) := by
  refine Con.intro (args := [V_s0, .int .i64 a, .int .i64 b, .int .i64 c, .int .i64 d]) (n := 116) (val := fun _ (X : Value) => X) (post := fun r X => [.own X (lc r)]) (m := spec_l3Quarter s a b c d) Try.func46 rfl rfl rfl hm ?_
  intro w S _
  unfold spec_l3Quarter
  refine TW.seq ?_
  refine TW.region ?_
  refine TO.y (Y.assign rfl) rfl rfl rfl ?_
  refine TO.nil ?_
  refine TE.next ?_
  refine TW.seq ?_
  refine TW.bind fun E1 H2 => ?_
  refine TW.bind fun E3 H4 => ?_
  refine TW.bind fun R5 H6 => ?_
  refine TW.joinU (X := Unit) (fun _ _ => [(0, V_s0), (1, .int .i64 a), (2, .int .i64 b), (3, .int .i64 c), (4, .int .i64 d)]) (fun _ _ => [.own V_s0 (lc (s.set a.toNat R5))]) ?_ (fun _ X9 => ?_)
  · refine TW.draw (isH := []) hMix ?_
    refine TA.y (listed' := #[true, false, false, false, false, false, false, false, false, false, false, false, false, false]) 0 [] rfl (Y.move rfl) rfl rfl rfl (by kernel_rfl) (by kernel_rfl) (by kernel_rfl) rfl rfl ?_
    refine TA.y (listed' := #[true, true, false, false, false, false, false, false, false, false, false, false, false, false]) 1 [] rfl (Y.move rfl) rfl rfl rfl (by kernel_rfl) (by kernel_rfl) (by kernel_rfl) rfl rfl ?_
    refine TA.y (listed' := #[true, true, true, false, false, false, false, false, false, false, false, false, false, false]) 2 [] rfl (Y.move rfl) rfl rfl rfl (by kernel_rfl) (by kernel_rfl) (by kernel_rfl) rfl rfl ?_
    refine TA.y (listed' := #[true, true, true, true, false, false, false, false, false, false, false, false, false, false]) 3 [] rfl (Y.move rfl) rfl rfl rfl (by kernel_rfl) (by kernel_rfl) (by kernel_rfl) rfl rfl ?_
    refine TA.y (listed' := #[true, true, true, true, false, false, true, false, false, false, false, false, false, false]) 6 [] rfl (Y.move rfl) rfl rfl rfl (by kernel_rfl) (by kernel_rfl) (by kernel_rfl) rfl rfl ?_
    refine TA.y (listed' := #[true, true, true, true, false, false, true, true, false, false, false, false, false, false]) 7 [] rfl (Y.move rfl) rfl rfl rfl (by kernel_rfl) (by kernel_rfl) (by kernel_rfl) rfl rfl ?_
    refine TA.two 4 8 (by kernel_rfl) ?_ ?_
    · refine TX.y (listed' := #[true, true, true, true, true, false, true, true, false, false, false, false, false, false]) [] rfl (Y.index ke44 (Can.own 0 rfl) H2 rfl rfl) rfl rfl rfl rfl rfl ?_
      refine TA.two 5 8 (by kernel_rfl) ?_ ?_
      · refine TX.y (listed' := #[true, true, true, true, true, true, true, true, false, false, false, false, false, false]) [] rfl (Y.load_el (us := [.int .i64 E1]) (u := .int .i64 E1) kk3 rfl (Can.own 0 rfl) (idx_get H2).2.2 rfl rfl rfl rfl rfl) rfl rfl rfl rfl rfl ?_
        refine TA.one 8 (by kernel_rfl) ?_
        refine TX.y (listed' := #[true, true, true, true, true, true, true, true, true, false, false, false, false, false]) [] rfl (Y.index ke44 (Can.own 0 rfl) H4 rfl rfl) rfl rfl rfl rfl rfl ?_
        refine TA.one 9 (by kernel_rfl) ?_
        refine TX.y (listed' := #[true, true, true, true, true, true, true, true, true, true, false, false, false, false]) [] rfl (Y.load_el (us := [.int .i64 E3]) (u := .int .i64 E3) kk3 rfl (Can.own 0 rfl) (idx_get H4).2.2 rfl rfl rfl rfl rfl) rfl rfl rfl rfl rfl ?_
        refine TA.y (listed' := #[true, true, true, true, true, true, true, true, true, true, true, false, false, false]) 10 [] rfl (Y.add rfl rfl) rfl rfl rfl (by kernel_rfl) (by kernel_rfl) (by kernel_rfl) rfl rfl ?_
        refine TA.one 11 (by kernel_rfl) ?_
        refine TX.ef (listed' := #[true, true, true, true, true, true, true, true, true, true, true, true, false, false]) [] rfl (Ef.call (rest := [.own V_s0 (lc s)]) [0] (spec_l3Word_con (IntKind.i64.wrap (E1 + E3))  R5 H6) kc47 rfl rfl trivial) rfl rfl rfl rfl (fun _ => rfl) (fun _ => ?_)
        refine TA.one 12 (by kernel_rfl) ?_
        refine TX.y (listed' := #[true, true, true, true, true, true, true, true, true, true, true, true, true, false]) [] rfl (Y.index ke44 (Can.own 0 rfl) H2 rfl rfl) rfl rfl rfl rfl rfl ?_
        refine TA.one 13 (by kernel_rfl) ?_
        refine TX.ef0 (listed' := #[true, true, true, true, true, true, true, true, true, true, true, true, true, true]) [] rfl (Ef.store_el (us := [.int .i64 R5]) (is' := [.own V_s0 (lc (s.set a.toNat R5))]) R5 0 kk3 rfl rfl (idx_get H2).2.2 rfl rfl (Cel.plain rfl rfl) rfl rfl rfl rfl) rfl rfl rfl (fun _ => rfl) (fun _ => ?_)
        refine TA.nil (by kernel_rfl) ?_
        exact TE.jb_go () [0] ⟨rfl, rfl, rfl, rfl, rfl, trivial⟩ rfl
      · refine TX.y (listed' := #[true, true, true, true, true, false, true, true, true, false, false, false, false, false]) [] rfl (Y.index ke44 (Can.own 0 rfl) H4 rfl rfl) rfl rfl rfl rfl rfl ?_
        refine TA.two 5 9 (by kernel_rfl) ?_ ?_
        · refine TX.y (listed' := #[true, true, true, true, true, true, true, true, true, false, false, false, false, false]) [] rfl (Y.load_el (us := [.int .i64 E1]) (u := .int .i64 E1) kk3 rfl (Can.own 0 rfl) (idx_get H2).2.2 rfl rfl rfl rfl rfl) rfl rfl rfl rfl rfl ?_
          refine TA.one 9 (by kernel_rfl) ?_
          refine TX.y (listed' := #[true, true, true, true, true, true, true, true, true, true, false, false, false, false]) [] rfl (Y.load_el (us := [.int .i64 E3]) (u := .int .i64 E3) kk3 rfl (Can.own 0 rfl) (idx_get H4).2.2 rfl rfl rfl rfl rfl) rfl rfl rfl rfl rfl ?_
          refine TA.y (listed' := #[true, true, true, true, true, true, true, true, true, true, true, false, false, false]) 10 [] rfl (Y.add rfl rfl) rfl rfl rfl (by kernel_rfl) (by kernel_rfl) (by kernel_rfl) rfl rfl ?_
          refine TA.one 11 (by kernel_rfl) ?_
          refine TX.ef (listed' := #[true, true, true, true, true, true, true, true, true, true, true, true, false, false]) [] rfl (Ef.call (rest := [.own V_s0 (lc s)]) [0] (spec_l3Word_con (IntKind.i64.wrap (E1 + E3))  R5 H6) kc47 rfl rfl trivial) rfl rfl rfl rfl (fun _ => rfl) (fun _ => ?_)
          refine TA.one 12 (by kernel_rfl) ?_
          refine TX.y (listed' := #[true, true, true, true, true, true, true, true, true, true, true, true, true, false]) [] rfl (Y.index ke44 (Can.own 0 rfl) H2 rfl rfl) rfl rfl rfl rfl rfl ?_
          refine TA.one 13 (by kernel_rfl) ?_
          refine TX.ef0 (listed' := #[true, true, true, true, true, true, true, true, true, true, true, true, true, true]) [] rfl (Ef.store_el (us := [.int .i64 R5]) (is' := [.own V_s0 (lc (s.set a.toNat R5))]) R5 0 kk3 rfl rfl (idx_get H2).2.2 rfl rfl (Cel.plain rfl rfl) rfl rfl rfl rfl) rfl rfl rfl (fun _ => rfl) (fun _ => ?_)
          refine TA.nil (by kernel_rfl) ?_
          exact TE.jb_go () [0] ⟨rfl, rfl, rfl, rfl, rfl, trivial⟩ rfl
        · refine TX.y (listed' := #[true, true, true, true, true, false, true, true, true, true, false, false, false, false]) [] rfl (Y.load_el (us := [.int .i64 E3]) (u := .int .i64 E3) kk3 rfl (Can.own 0 rfl) (idx_get H4).2.2 rfl rfl rfl rfl rfl) rfl rfl rfl rfl rfl ?_
          refine TA.one 5 (by kernel_rfl) ?_
          refine TX.y (listed' := #[true, true, true, true, true, true, true, true, true, true, false, false, false, false]) [] rfl (Y.load_el (us := [.int .i64 E1]) (u := .int .i64 E1) kk3 rfl (Can.own 0 rfl) (idx_get H2).2.2 rfl rfl rfl rfl rfl) rfl rfl rfl rfl rfl ?_
          refine TA.y (listed' := #[true, true, true, true, true, true, true, true, true, true, true, false, false, false]) 10 [] rfl (Y.add rfl rfl) rfl rfl rfl (by kernel_rfl) (by kernel_rfl) (by kernel_rfl) rfl rfl ?_
          refine TA.one 11 (by kernel_rfl) ?_
          refine TX.ef (listed' := #[true, true, true, true, true, true, true, true, true, true, true, true, false, false]) [] rfl (Ef.call (rest := [.own V_s0 (lc s)]) [0] (spec_l3Word_con (IntKind.i64.wrap (E1 + E3))  R5 H6) kc47 rfl rfl trivial) rfl rfl rfl rfl (fun _ => rfl) (fun _ => ?_)
          refine TA.one 12 (by kernel_rfl) ?_
          refine TX.y (listed' := #[true, true, true, true, true, true, true, true, true, true, true, true, true, false]) [] rfl (Y.index ke44 (Can.own 0 rfl) H2 rfl rfl) rfl rfl rfl rfl rfl ?_
          refine TA.one 13 (by kernel_rfl) ?_
          refine TX.ef0 (listed' := #[true, true, true, true, true, true, true, true, true, true, true, true, true, true]) [] rfl (Ef.store_el (us := [.int .i64 R5]) (is' := [.own V_s0 (lc (s.set a.toNat R5))]) R5 0 kk3 rfl rfl (idx_get H2).2.2 rfl rfl (Cel.plain rfl rfl) rfl rfl rfl rfl) rfl rfl rfl (fun _ => rfl) (fun _ => ?_)
          refine TA.nil (by kernel_rfl) ?_
          exact TE.jb_go () [0] ⟨rfl, rfl, rfl, rfl, rfl, trivial⟩ rfl
    · refine TX.y (listed' := #[true, true, true, true, false, false, true, true, true, false, false, false, false, false]) [] rfl (Y.index ke44 (Can.own 0 rfl) H4 rfl rfl) rfl rfl rfl rfl rfl ?_
      refine TA.two 4 9 (by kernel_rfl) ?_ ?_
      · refine TX.y (listed' := #[true, true, true, true, true, false, true, true, true, false, false, false, false, false]) [] rfl (Y.index ke44 (Can.own 0 rfl) H2 rfl rfl) rfl rfl rfl rfl rfl ?_
        refine TA.two 5 9 (by kernel_rfl) ?_ ?_
        · refine TX.y (listed' := #[true, true, true, true, true, true, true, true, true, false, false, false, false, false]) [] rfl (Y.load_el (us := [.int .i64 E1]) (u := .int .i64 E1) kk3 rfl (Can.own 0 rfl) (idx_get H2).2.2 rfl rfl rfl rfl rfl) rfl rfl rfl rfl rfl ?_
          refine TA.one 9 (by kernel_rfl) ?_
          refine TX.y (listed' := #[true, true, true, true, true, true, true, true, true, true, false, false, false, false]) [] rfl (Y.load_el (us := [.int .i64 E3]) (u := .int .i64 E3) kk3 rfl (Can.own 0 rfl) (idx_get H4).2.2 rfl rfl rfl rfl rfl) rfl rfl rfl rfl rfl ?_
          refine TA.y (listed' := #[true, true, true, true, true, true, true, true, true, true, true, false, false, false]) 10 [] rfl (Y.add rfl rfl) rfl rfl rfl (by kernel_rfl) (by kernel_rfl) (by kernel_rfl) rfl rfl ?_
          refine TA.one 11 (by kernel_rfl) ?_
          refine TX.ef (listed' := #[true, true, true, true, true, true, true, true, true, true, true, true, false, false]) [] rfl (Ef.call (rest := [.own V_s0 (lc s)]) [0] (spec_l3Word_con (IntKind.i64.wrap (E1 + E3))  R5 H6) kc47 rfl rfl trivial) rfl rfl rfl rfl (fun _ => rfl) (fun _ => ?_)
          refine TA.one 12 (by kernel_rfl) ?_
          refine TX.y (listed' := #[true, true, true, true, true, true, true, true, true, true, true, true, true, false]) [] rfl (Y.index ke44 (Can.own 0 rfl) H2 rfl rfl) rfl rfl rfl rfl rfl ?_
          refine TA.one 13 (by kernel_rfl) ?_
          refine TX.ef0 (listed' := #[true, true, true, true, true, true, true, true, true, true, true, true, true, true]) [] rfl (Ef.store_el (us := [.int .i64 R5]) (is' := [.own V_s0 (lc (s.set a.toNat R5))]) R5 0 kk3 rfl rfl (idx_get H2).2.2 rfl rfl (Cel.plain rfl rfl) rfl rfl rfl rfl) rfl rfl rfl (fun _ => rfl) (fun _ => ?_)
          refine TA.nil (by kernel_rfl) ?_
          exact TE.jb_go () [0] ⟨rfl, rfl, rfl, rfl, rfl, trivial⟩ rfl
        · refine TX.y (listed' := #[true, true, true, true, true, false, true, true, true, true, false, false, false, false]) [] rfl (Y.load_el (us := [.int .i64 E3]) (u := .int .i64 E3) kk3 rfl (Can.own 0 rfl) (idx_get H4).2.2 rfl rfl rfl rfl rfl) rfl rfl rfl rfl rfl ?_
          refine TA.one 5 (by kernel_rfl) ?_
          refine TX.y (listed' := #[true, true, true, true, true, true, true, true, true, true, false, false, false, false]) [] rfl (Y.load_el (us := [.int .i64 E1]) (u := .int .i64 E1) kk3 rfl (Can.own 0 rfl) (idx_get H2).2.2 rfl rfl rfl rfl rfl) rfl rfl rfl rfl rfl ?_
          refine TA.y (listed' := #[true, true, true, true, true, true, true, true, true, true, true, false, false, false]) 10 [] rfl (Y.add rfl rfl) rfl rfl rfl (by kernel_rfl) (by kernel_rfl) (by kernel_rfl) rfl rfl ?_
          refine TA.one 11 (by kernel_rfl) ?_
          refine TX.ef (listed' := #[true, true, true, true, true, true, true, true, true, true, true, true, false, false]) [] rfl (Ef.call (rest := [.own V_s0 (lc s)]) [0] (spec_l3Word_con (IntKind.i64.wrap (E1 + E3))  R5 H6) kc47 rfl rfl trivial) rfl rfl rfl rfl (fun _ => rfl) (fun _ => ?_)
          refine TA.one 12 (by kernel_rfl) ?_
          refine TX.y (listed' := #[true, true, true, true, true, true, true, true, true, true, true, true, true, false]) [] rfl (Y.index ke44 (Can.own 0 rfl) H2 rfl rfl) rfl rfl rfl rfl rfl ?_
          refine TA.one 13 (by kernel_rfl) ?_
          refine TX.ef0 (listed' := #[true, true, true, true, true, true, true, true, true, true, true, true, true, true]) [] rfl (Ef.store_el (us := [.int .i64 R5]) (is' := [.own V_s0 (lc (s.set a.toNat R5))]) R5 0 kk3 rfl rfl (idx_get H2).2.2 rfl rfl (Cel.plain rfl rfl) rfl rfl rfl rfl) rfl rfl rfl (fun _ => rfl) (fun _ => ?_)
          refine TA.nil (by kernel_rfl) ?_
          exact TE.jb_go () [0] ⟨rfl, rfl, rfl, rfl, rfl, trivial⟩ rfl
      · refine TX.y (listed' := #[true, true, true, true, false, false, true, true, true, true, false, false, false, false]) [] rfl (Y.load_el (us := [.int .i64 E3]) (u := .int .i64 E3) kk3 rfl (Can.own 0 rfl) (idx_get H4).2.2 rfl rfl rfl rfl rfl) rfl rfl rfl rfl rfl ?_
        refine TA.one 4 (by kernel_rfl) ?_
        refine TX.y (listed' := #[true, true, true, true, true, false, true, true, true, true, false, false, false, false]) [] rfl (Y.index ke44 (Can.own 0 rfl) H2 rfl rfl) rfl rfl rfl rfl rfl ?_
        refine TA.one 5 (by kernel_rfl) ?_
        refine TX.y (listed' := #[true, true, true, true, true, true, true, true, true, true, false, false, false, false]) [] rfl (Y.load_el (us := [.int .i64 E1]) (u := .int .i64 E1) kk3 rfl (Can.own 0 rfl) (idx_get H2).2.2 rfl rfl rfl rfl rfl) rfl rfl rfl rfl rfl ?_
        refine TA.y (listed' := #[true, true, true, true, true, true, true, true, true, true, true, false, false, false]) 10 [] rfl (Y.add rfl rfl) rfl rfl rfl (by kernel_rfl) (by kernel_rfl) (by kernel_rfl) rfl rfl ?_
        refine TA.one 11 (by kernel_rfl) ?_
        refine TX.ef (listed' := #[true, true, true, true, true, true, true, true, true, true, true, true, false, false]) [] rfl (Ef.call (rest := [.own V_s0 (lc s)]) [0] (spec_l3Word_con (IntKind.i64.wrap (E1 + E3))  R5 H6) kc47 rfl rfl trivial) rfl rfl rfl rfl (fun _ => rfl) (fun _ => ?_)
        refine TA.one 12 (by kernel_rfl) ?_
        refine TX.y (listed' := #[true, true, true, true, true, true, true, true, true, true, true, true, true, false]) [] rfl (Y.index ke44 (Can.own 0 rfl) H2 rfl rfl) rfl rfl rfl rfl rfl ?_
        refine TA.one 13 (by kernel_rfl) ?_
        refine TX.ef0 (listed' := #[true, true, true, true, true, true, true, true, true, true, true, true, true, true]) [] rfl (Ef.store_el (us := [.int .i64 R5]) (is' := [.own V_s0 (lc (s.set a.toNat R5))]) R5 0 kk3 rfl rfl (idx_get H2).2.2 rfl rfl (Cel.plain rfl rfl) rfl rfl rfl rfl) rfl rfl rfl (fun _ => rfl) (fun _ => ?_)
        refine TA.nil (by kernel_rfl) ?_
        exact TE.jb_go () [0] ⟨rfl, rfl, rfl, rfl, rfl, trivial⟩ rfl
  · refine TE.next ?_
    refine TW.seq ?_
    refine TW.bind fun E10 H11 => ?_
    refine TW.bind fun E12 H13 => ?_
    refine TW.bind fun R14 H15 => ?_
    refine TW.joinU (X := Unit) (fun _ _ => [(0, V_s0), (1, .int .i64 a), (2, .int .i64 b), (3, .int .i64 c), (4, .int .i64 d)]) (fun _ _ => [.own V_s0 (lc ((s.set a.toNat R5).set d.toNat R14))]) ?_ (fun _ X18 => ?_)
    · refine TW.draw (isH := []) hMix ?_
      refine TA.y (listed' := #[true, false, false, false, false, false, false, false, false, false, false, false, false, false]) 0 [] rfl (Y.move rfl) rfl rfl rfl (by kernel_rfl) (by kernel_rfl) (by kernel_rfl) rfl rfl ?_
      refine TA.y (listed' := #[true, true, false, false, false, false, false, false, false, false, false, false, false, false]) 1 [] rfl (Y.move rfl) rfl rfl rfl (by kernel_rfl) (by kernel_rfl) (by kernel_rfl) rfl rfl ?_
      refine TA.y (listed' := #[true, true, true, false, false, false, false, false, false, false, false, false, false, false]) 2 [] rfl (Y.move rfl) rfl rfl rfl (by kernel_rfl) (by kernel_rfl) (by kernel_rfl) rfl rfl ?_
      refine TA.y (listed' := #[true, true, true, true, false, false, false, false, false, false, false, false, false, false]) 3 [] rfl (Y.move rfl) rfl rfl rfl (by kernel_rfl) (by kernel_rfl) (by kernel_rfl) rfl rfl ?_
      refine TA.y (listed' := #[true, true, true, true, false, false, true, false, false, false, false, false, false, false]) 6 [] rfl (Y.move rfl) rfl rfl rfl (by kernel_rfl) (by kernel_rfl) (by kernel_rfl) rfl rfl ?_
      refine TA.y (listed' := #[true, true, true, true, false, false, true, true, false, false, false, false, false, false]) 7 [] rfl (Y.move rfl) rfl rfl rfl (by kernel_rfl) (by kernel_rfl) (by kernel_rfl) rfl rfl ?_
      refine TA.two 4 8 (by kernel_rfl) ?_ ?_
      · refine TX.y (listed' := #[true, true, true, true, true, false, true, true, false, false, false, false, false, false]) [] rfl (Y.index ke44 (Can.own 0 rfl) H11 rfl rfl) rfl rfl rfl rfl rfl ?_
        refine TA.two 5 8 (by kernel_rfl) ?_ ?_
        · refine TX.y (listed' := #[true, true, true, true, true, true, true, true, false, false, false, false, false, false]) [] rfl (Y.load_el (us := [.int .i64 E10]) (u := .int .i64 E10) kk3 rfl (Can.own 0 rfl) (idx_get H11).2.2 rfl rfl rfl rfl rfl) rfl rfl rfl rfl rfl ?_
          refine TA.one 8 (by kernel_rfl) ?_
          refine TX.y (listed' := #[true, true, true, true, true, true, true, true, true, false, false, false, false, false]) [] rfl (Y.index ke44 (Can.own 0 rfl) H13 rfl rfl) rfl rfl rfl rfl rfl ?_
          refine TA.one 9 (by kernel_rfl) ?_
          refine TX.y (listed' := #[true, true, true, true, true, true, true, true, true, true, false, false, false, false]) [] rfl (Y.load_el (us := [.int .i64 E12]) (u := .int .i64 E12) kk3 rfl (Can.own 0 rfl) (idx_get H13).2.2 rfl rfl rfl rfl rfl) rfl rfl rfl rfl rfl ?_
          refine TA.y (listed' := #[true, true, true, true, true, true, true, true, true, true, true, false, false, false]) 10 [] rfl (Y.xor rfl rfl) rfl rfl rfl (by kernel_rfl) (by kernel_rfl) (by kernel_rfl) rfl rfl ?_
          refine TA.one 11 (by kernel_rfl) ?_
          refine TX.ef (listed' := #[true, true, true, true, true, true, true, true, true, true, true, true, false, false]) [] rfl (Ef.call (rest := [.own V_s0 (lc (s.set a.toNat R5))]) [0] (spec_l3Left_con (ixor .i64 E10 E12) (16 : Int)  R14 H15) kc48 rfl rfl trivial) rfl rfl rfl rfl (fun _ => rfl) (fun _ => ?_)
          refine TA.one 12 (by kernel_rfl) ?_
          refine TX.y (listed' := #[true, true, true, true, true, true, true, true, true, true, true, true, true, false]) [] rfl (Y.index ke44 (Can.own 0 rfl) H11 rfl rfl) rfl rfl rfl rfl rfl ?_
          refine TA.one 13 (by kernel_rfl) ?_
          refine TX.ef0 (listed' := #[true, true, true, true, true, true, true, true, true, true, true, true, true, true]) [] rfl (Ef.store_el (us := [.int .i64 R14]) (is' := [.own V_s0 (lc ((s.set a.toNat R5).set d.toNat R14))]) R14 0 kk3 rfl rfl (idx_get H11).2.2 rfl rfl (Cel.plain rfl rfl) rfl rfl rfl rfl) rfl rfl rfl (fun _ => rfl) (fun _ => ?_)
          refine TA.nil (by kernel_rfl) ?_
          exact TE.jb_go () [0] ⟨rfl, rfl, rfl, rfl, rfl, trivial⟩ rfl
        · refine TX.y (listed' := #[true, true, true, true, true, false, true, true, true, false, false, false, false, false]) [] rfl (Y.index ke44 (Can.own 0 rfl) H13 rfl rfl) rfl rfl rfl rfl rfl ?_
          refine TA.two 5 9 (by kernel_rfl) ?_ ?_
          · refine TX.y (listed' := #[true, true, true, true, true, true, true, true, true, false, false, false, false, false]) [] rfl (Y.load_el (us := [.int .i64 E10]) (u := .int .i64 E10) kk3 rfl (Can.own 0 rfl) (idx_get H11).2.2 rfl rfl rfl rfl rfl) rfl rfl rfl rfl rfl ?_
            refine TA.one 9 (by kernel_rfl) ?_
            refine TX.y (listed' := #[true, true, true, true, true, true, true, true, true, true, false, false, false, false]) [] rfl (Y.load_el (us := [.int .i64 E12]) (u := .int .i64 E12) kk3 rfl (Can.own 0 rfl) (idx_get H13).2.2 rfl rfl rfl rfl rfl) rfl rfl rfl rfl rfl ?_
            refine TA.y (listed' := #[true, true, true, true, true, true, true, true, true, true, true, false, false, false]) 10 [] rfl (Y.xor rfl rfl) rfl rfl rfl (by kernel_rfl) (by kernel_rfl) (by kernel_rfl) rfl rfl ?_
            refine TA.one 11 (by kernel_rfl) ?_
            refine TX.ef (listed' := #[true, true, true, true, true, true, true, true, true, true, true, true, false, false]) [] rfl (Ef.call (rest := [.own V_s0 (lc (s.set a.toNat R5))]) [0] (spec_l3Left_con (ixor .i64 E10 E12) (16 : Int)  R14 H15) kc48 rfl rfl trivial) rfl rfl rfl rfl (fun _ => rfl) (fun _ => ?_)
            refine TA.one 12 (by kernel_rfl) ?_
            refine TX.y (listed' := #[true, true, true, true, true, true, true, true, true, true, true, true, true, false]) [] rfl (Y.index ke44 (Can.own 0 rfl) H11 rfl rfl) rfl rfl rfl rfl rfl ?_
            refine TA.one 13 (by kernel_rfl) ?_
            refine TX.ef0 (listed' := #[true, true, true, true, true, true, true, true, true, true, true, true, true, true]) [] rfl (Ef.store_el (us := [.int .i64 R14]) (is' := [.own V_s0 (lc ((s.set a.toNat R5).set d.toNat R14))]) R14 0 kk3 rfl rfl (idx_get H11).2.2 rfl rfl (Cel.plain rfl rfl) rfl rfl rfl rfl) rfl rfl rfl (fun _ => rfl) (fun _ => ?_)
            refine TA.nil (by kernel_rfl) ?_
            exact TE.jb_go () [0] ⟨rfl, rfl, rfl, rfl, rfl, trivial⟩ rfl
          · refine TX.y (listed' := #[true, true, true, true, true, false, true, true, true, true, false, false, false, false]) [] rfl (Y.load_el (us := [.int .i64 E12]) (u := .int .i64 E12) kk3 rfl (Can.own 0 rfl) (idx_get H13).2.2 rfl rfl rfl rfl rfl) rfl rfl rfl rfl rfl ?_
            refine TA.one 5 (by kernel_rfl) ?_
            refine TX.y (listed' := #[true, true, true, true, true, true, true, true, true, true, false, false, false, false]) [] rfl (Y.load_el (us := [.int .i64 E10]) (u := .int .i64 E10) kk3 rfl (Can.own 0 rfl) (idx_get H11).2.2 rfl rfl rfl rfl rfl) rfl rfl rfl rfl rfl ?_
            refine TA.y (listed' := #[true, true, true, true, true, true, true, true, true, true, true, false, false, false]) 10 [] rfl (Y.xor rfl rfl) rfl rfl rfl (by kernel_rfl) (by kernel_rfl) (by kernel_rfl) rfl rfl ?_
            refine TA.one 11 (by kernel_rfl) ?_
            refine TX.ef (listed' := #[true, true, true, true, true, true, true, true, true, true, true, true, false, false]) [] rfl (Ef.call (rest := [.own V_s0 (lc (s.set a.toNat R5))]) [0] (spec_l3Left_con (ixor .i64 E10 E12) (16 : Int)  R14 H15) kc48 rfl rfl trivial) rfl rfl rfl rfl (fun _ => rfl) (fun _ => ?_)
            refine TA.one 12 (by kernel_rfl) ?_
            refine TX.y (listed' := #[true, true, true, true, true, true, true, true, true, true, true, true, true, false]) [] rfl (Y.index ke44 (Can.own 0 rfl) H11 rfl rfl) rfl rfl rfl rfl rfl ?_
            refine TA.one 13 (by kernel_rfl) ?_
            refine TX.ef0 (listed' := #[true, true, true, true, true, true, true, true, true, true, true, true, true, true]) [] rfl (Ef.store_el (us := [.int .i64 R14]) (is' := [.own V_s0 (lc ((s.set a.toNat R5).set d.toNat R14))]) R14 0 kk3 rfl rfl (idx_get H11).2.2 rfl rfl (Cel.plain rfl rfl) rfl rfl rfl rfl) rfl rfl rfl (fun _ => rfl) (fun _ => ?_)
            refine TA.nil (by kernel_rfl) ?_
            exact TE.jb_go () [0] ⟨rfl, rfl, rfl, rfl, rfl, trivial⟩ rfl
      · refine TX.y (listed' := #[true, true, true, true, false, false, true, true, true, false, false, false, false, false]) [] rfl (Y.index ke44 (Can.own 0 rfl) H13 rfl rfl) rfl rfl rfl rfl rfl ?_
        refine TA.two 4 9 (by kernel_rfl) ?_ ?_
        · refine TX.y (listed' := #[true, true, true, true, true, false, true, true, true, false, false, false, false, false]) [] rfl (Y.index ke44 (Can.own 0 rfl) H11 rfl rfl) rfl rfl rfl rfl rfl ?_
          refine TA.two 5 9 (by kernel_rfl) ?_ ?_
          · refine TX.y (listed' := #[true, true, true, true, true, true, true, true, true, false, false, false, false, false]) [] rfl (Y.load_el (us := [.int .i64 E10]) (u := .int .i64 E10) kk3 rfl (Can.own 0 rfl) (idx_get H11).2.2 rfl rfl rfl rfl rfl) rfl rfl rfl rfl rfl ?_
            refine TA.one 9 (by kernel_rfl) ?_
            refine TX.y (listed' := #[true, true, true, true, true, true, true, true, true, true, false, false, false, false]) [] rfl (Y.load_el (us := [.int .i64 E12]) (u := .int .i64 E12) kk3 rfl (Can.own 0 rfl) (idx_get H13).2.2 rfl rfl rfl rfl rfl) rfl rfl rfl rfl rfl ?_
            refine TA.y (listed' := #[true, true, true, true, true, true, true, true, true, true, true, false, false, false]) 10 [] rfl (Y.xor rfl rfl) rfl rfl rfl (by kernel_rfl) (by kernel_rfl) (by kernel_rfl) rfl rfl ?_
            refine TA.one 11 (by kernel_rfl) ?_
            refine TX.ef (listed' := #[true, true, true, true, true, true, true, true, true, true, true, true, false, false]) [] rfl (Ef.call (rest := [.own V_s0 (lc (s.set a.toNat R5))]) [0] (spec_l3Left_con (ixor .i64 E10 E12) (16 : Int)  R14 H15) kc48 rfl rfl trivial) rfl rfl rfl rfl (fun _ => rfl) (fun _ => ?_)
            refine TA.one 12 (by kernel_rfl) ?_
            refine TX.y (listed' := #[true, true, true, true, true, true, true, true, true, true, true, true, true, false]) [] rfl (Y.index ke44 (Can.own 0 rfl) H11 rfl rfl) rfl rfl rfl rfl rfl ?_
            refine TA.one 13 (by kernel_rfl) ?_
            refine TX.ef0 (listed' := #[true, true, true, true, true, true, true, true, true, true, true, true, true, true]) [] rfl (Ef.store_el (us := [.int .i64 R14]) (is' := [.own V_s0 (lc ((s.set a.toNat R5).set d.toNat R14))]) R14 0 kk3 rfl rfl (idx_get H11).2.2 rfl rfl (Cel.plain rfl rfl) rfl rfl rfl rfl) rfl rfl rfl (fun _ => rfl) (fun _ => ?_)
            refine TA.nil (by kernel_rfl) ?_
            exact TE.jb_go () [0] ⟨rfl, rfl, rfl, rfl, rfl, trivial⟩ rfl
          · refine TX.y (listed' := #[true, true, true, true, true, false, true, true, true, true, false, false, false, false]) [] rfl (Y.load_el (us := [.int .i64 E12]) (u := .int .i64 E12) kk3 rfl (Can.own 0 rfl) (idx_get H13).2.2 rfl rfl rfl rfl rfl) rfl rfl rfl rfl rfl ?_
            refine TA.one 5 (by kernel_rfl) ?_
            refine TX.y (listed' := #[true, true, true, true, true, true, true, true, true, true, false, false, false, false]) [] rfl (Y.load_el (us := [.int .i64 E10]) (u := .int .i64 E10) kk3 rfl (Can.own 0 rfl) (idx_get H11).2.2 rfl rfl rfl rfl rfl) rfl rfl rfl rfl rfl ?_
            refine TA.y (listed' := #[true, true, true, true, true, true, true, true, true, true, true, false, false, false]) 10 [] rfl (Y.xor rfl rfl) rfl rfl rfl (by kernel_rfl) (by kernel_rfl) (by kernel_rfl) rfl rfl ?_
            refine TA.one 11 (by kernel_rfl) ?_
            refine TX.ef (listed' := #[true, true, true, true, true, true, true, true, true, true, true, true, false, false]) [] rfl (Ef.call (rest := [.own V_s0 (lc (s.set a.toNat R5))]) [0] (spec_l3Left_con (ixor .i64 E10 E12) (16 : Int)  R14 H15) kc48 rfl rfl trivial) rfl rfl rfl rfl (fun _ => rfl) (fun _ => ?_)
            refine TA.one 12 (by kernel_rfl) ?_
            refine TX.y (listed' := #[true, true, true, true, true, true, true, true, true, true, true, true, true, false]) [] rfl (Y.index ke44 (Can.own 0 rfl) H11 rfl rfl) rfl rfl rfl rfl rfl ?_
            refine TA.one 13 (by kernel_rfl) ?_
            refine TX.ef0 (listed' := #[true, true, true, true, true, true, true, true, true, true, true, true, true, true]) [] rfl (Ef.store_el (us := [.int .i64 R14]) (is' := [.own V_s0 (lc ((s.set a.toNat R5).set d.toNat R14))]) R14 0 kk3 rfl rfl (idx_get H11).2.2 rfl rfl (Cel.plain rfl rfl) rfl rfl rfl rfl) rfl rfl rfl (fun _ => rfl) (fun _ => ?_)
            refine TA.nil (by kernel_rfl) ?_
            exact TE.jb_go () [0] ⟨rfl, rfl, rfl, rfl, rfl, trivial⟩ rfl
        · refine TX.y (listed' := #[true, true, true, true, false, false, true, true, true, true, false, false, false, false]) [] rfl (Y.load_el (us := [.int .i64 E12]) (u := .int .i64 E12) kk3 rfl (Can.own 0 rfl) (idx_get H13).2.2 rfl rfl rfl rfl rfl) rfl rfl rfl rfl rfl ?_
          refine TA.one 4 (by kernel_rfl) ?_
          refine TX.y (listed' := #[true, true, true, true, true, false, true, true, true, true, false, false, false, false]) [] rfl (Y.index ke44 (Can.own 0 rfl) H11 rfl rfl) rfl rfl rfl rfl rfl ?_
          refine TA.one 5 (by kernel_rfl) ?_
          refine TX.y (listed' := #[true, true, true, true, true, true, true, true, true, true, false, false, false, false]) [] rfl (Y.load_el (us := [.int .i64 E10]) (u := .int .i64 E10) kk3 rfl (Can.own 0 rfl) (idx_get H11).2.2 rfl rfl rfl rfl rfl) rfl rfl rfl rfl rfl ?_
          refine TA.y (listed' := #[true, true, true, true, true, true, true, true, true, true, true, false, false, false]) 10 [] rfl (Y.xor rfl rfl) rfl rfl rfl (by kernel_rfl) (by kernel_rfl) (by kernel_rfl) rfl rfl ?_
          refine TA.one 11 (by kernel_rfl) ?_
          refine TX.ef (listed' := #[true, true, true, true, true, true, true, true, true, true, true, true, false, false]) [] rfl (Ef.call (rest := [.own V_s0 (lc (s.set a.toNat R5))]) [0] (spec_l3Left_con (ixor .i64 E10 E12) (16 : Int)  R14 H15) kc48 rfl rfl trivial) rfl rfl rfl rfl (fun _ => rfl) (fun _ => ?_)
          refine TA.one 12 (by kernel_rfl) ?_
          refine TX.y (listed' := #[true, true, true, true, true, true, true, true, true, true, true, true, true, false]) [] rfl (Y.index ke44 (Can.own 0 rfl) H11 rfl rfl) rfl rfl rfl rfl rfl ?_
          refine TA.one 13 (by kernel_rfl) ?_
          refine TX.ef0 (listed' := #[true, true, true, true, true, true, true, true, true, true, true, true, true, true]) [] rfl (Ef.store_el (us := [.int .i64 R14]) (is' := [.own V_s0 (lc ((s.set a.toNat R5).set d.toNat R14))]) R14 0 kk3 rfl rfl (idx_get H11).2.2 rfl rfl (Cel.plain rfl rfl) rfl rfl rfl rfl) rfl rfl rfl (fun _ => rfl) (fun _ => ?_)
          refine TA.nil (by kernel_rfl) ?_
          exact TE.jb_go () [0] ⟨rfl, rfl, rfl, rfl, rfl, trivial⟩ rfl
    · refine TE.next ?_
      refine TW.seq ?_
      refine TW.bind fun E19 H20 => ?_
      refine TW.bind fun E21 H22 => ?_
      refine TW.bind fun R23 H24 => ?_
      refine TW.joinU (X := Unit) (fun _ _ => [(0, V_s0), (1, .int .i64 a), (2, .int .i64 b), (3, .int .i64 c), (4, .int .i64 d)]) (fun _ _ => [.own V_s0 (lc (((s.set a.toNat R5).set d.toNat R14).set c.toNat R23))]) ?_ (fun _ X27 => ?_)
      · refine TW.draw (isH := []) hMix ?_
        refine TA.y (listed' := #[true, false, false, false, false, false, false, false, false, false, false, false, false, false]) 0 [] rfl (Y.move rfl) rfl rfl rfl (by kernel_rfl) (by kernel_rfl) (by kernel_rfl) rfl rfl ?_
        refine TA.y (listed' := #[true, true, false, false, false, false, false, false, false, false, false, false, false, false]) 1 [] rfl (Y.move rfl) rfl rfl rfl (by kernel_rfl) (by kernel_rfl) (by kernel_rfl) rfl rfl ?_
        refine TA.y (listed' := #[true, true, true, false, false, false, false, false, false, false, false, false, false, false]) 2 [] rfl (Y.move rfl) rfl rfl rfl (by kernel_rfl) (by kernel_rfl) (by kernel_rfl) rfl rfl ?_
        refine TA.y (listed' := #[true, true, true, true, false, false, false, false, false, false, false, false, false, false]) 3 [] rfl (Y.move rfl) rfl rfl rfl (by kernel_rfl) (by kernel_rfl) (by kernel_rfl) rfl rfl ?_
        refine TA.y (listed' := #[true, true, true, true, false, false, true, false, false, false, false, false, false, false]) 6 [] rfl (Y.move rfl) rfl rfl rfl (by kernel_rfl) (by kernel_rfl) (by kernel_rfl) rfl rfl ?_
        refine TA.y (listed' := #[true, true, true, true, false, false, true, true, false, false, false, false, false, false]) 7 [] rfl (Y.move rfl) rfl rfl rfl (by kernel_rfl) (by kernel_rfl) (by kernel_rfl) rfl rfl ?_
        refine TA.two 4 8 (by kernel_rfl) ?_ ?_
        · refine TX.y (listed' := #[true, true, true, true, true, false, true, true, false, false, false, false, false, false]) [] rfl (Y.index ke44 (Can.own 0 rfl) H20 rfl rfl) rfl rfl rfl rfl rfl ?_
          refine TA.two 5 8 (by kernel_rfl) ?_ ?_
          · refine TX.y (listed' := #[true, true, true, true, true, true, true, true, false, false, false, false, false, false]) [] rfl (Y.load_el (us := [.int .i64 E19]) (u := .int .i64 E19) kk3 rfl (Can.own 0 rfl) (idx_get H20).2.2 rfl rfl rfl rfl rfl) rfl rfl rfl rfl rfl ?_
            refine TA.one 8 (by kernel_rfl) ?_
            refine TX.y (listed' := #[true, true, true, true, true, true, true, true, true, false, false, false, false, false]) [] rfl (Y.index ke44 (Can.own 0 rfl) H22 rfl rfl) rfl rfl rfl rfl rfl ?_
            refine TA.one 9 (by kernel_rfl) ?_
            refine TX.y (listed' := #[true, true, true, true, true, true, true, true, true, true, false, false, false, false]) [] rfl (Y.load_el (us := [.int .i64 E21]) (u := .int .i64 E21) kk3 rfl (Can.own 0 rfl) (idx_get H22).2.2 rfl rfl rfl rfl rfl) rfl rfl rfl rfl rfl ?_
            refine TA.y (listed' := #[true, true, true, true, true, true, true, true, true, true, true, false, false, false]) 10 [] rfl (Y.add rfl rfl) rfl rfl rfl (by kernel_rfl) (by kernel_rfl) (by kernel_rfl) rfl rfl ?_
            refine TA.one 11 (by kernel_rfl) ?_
            refine TX.ef (listed' := #[true, true, true, true, true, true, true, true, true, true, true, true, false, false]) [] rfl (Ef.call (rest := [.own V_s0 (lc ((s.set a.toNat R5).set d.toNat R14))]) [0] (spec_l3Word_con (IntKind.i64.wrap (E19 + E21))  R23 H24) kc47 rfl rfl trivial) rfl rfl rfl rfl (fun _ => rfl) (fun _ => ?_)
            refine TA.one 12 (by kernel_rfl) ?_
            refine TX.y (listed' := #[true, true, true, true, true, true, true, true, true, true, true, true, true, false]) [] rfl (Y.index ke44 (Can.own 0 rfl) H20 rfl rfl) rfl rfl rfl rfl rfl ?_
            refine TA.one 13 (by kernel_rfl) ?_
            refine TX.ef0 (listed' := #[true, true, true, true, true, true, true, true, true, true, true, true, true, true]) [] rfl (Ef.store_el (us := [.int .i64 R23]) (is' := [.own V_s0 (lc (((s.set a.toNat R5).set d.toNat R14).set c.toNat R23))]) R23 0 kk3 rfl rfl (idx_get H20).2.2 rfl rfl (Cel.plain rfl rfl) rfl rfl rfl rfl) rfl rfl rfl (fun _ => rfl) (fun _ => ?_)
            refine TA.nil (by kernel_rfl) ?_
            exact TE.jb_go () [0] ⟨rfl, rfl, rfl, rfl, rfl, trivial⟩ rfl
          · refine TX.y (listed' := #[true, true, true, true, true, false, true, true, true, false, false, false, false, false]) [] rfl (Y.index ke44 (Can.own 0 rfl) H22 rfl rfl) rfl rfl rfl rfl rfl ?_
            refine TA.two 5 9 (by kernel_rfl) ?_ ?_
            · refine TX.y (listed' := #[true, true, true, true, true, true, true, true, true, false, false, false, false, false]) [] rfl (Y.load_el (us := [.int .i64 E19]) (u := .int .i64 E19) kk3 rfl (Can.own 0 rfl) (idx_get H20).2.2 rfl rfl rfl rfl rfl) rfl rfl rfl rfl rfl ?_
              refine TA.one 9 (by kernel_rfl) ?_
              refine TX.y (listed' := #[true, true, true, true, true, true, true, true, true, true, false, false, false, false]) [] rfl (Y.load_el (us := [.int .i64 E21]) (u := .int .i64 E21) kk3 rfl (Can.own 0 rfl) (idx_get H22).2.2 rfl rfl rfl rfl rfl) rfl rfl rfl rfl rfl ?_
              refine TA.y (listed' := #[true, true, true, true, true, true, true, true, true, true, true, false, false, false]) 10 [] rfl (Y.add rfl rfl) rfl rfl rfl (by kernel_rfl) (by kernel_rfl) (by kernel_rfl) rfl rfl ?_
              refine TA.one 11 (by kernel_rfl) ?_
              refine TX.ef (listed' := #[true, true, true, true, true, true, true, true, true, true, true, true, false, false]) [] rfl (Ef.call (rest := [.own V_s0 (lc ((s.set a.toNat R5).set d.toNat R14))]) [0] (spec_l3Word_con (IntKind.i64.wrap (E19 + E21))  R23 H24) kc47 rfl rfl trivial) rfl rfl rfl rfl (fun _ => rfl) (fun _ => ?_)
              refine TA.one 12 (by kernel_rfl) ?_
              refine TX.y (listed' := #[true, true, true, true, true, true, true, true, true, true, true, true, true, false]) [] rfl (Y.index ke44 (Can.own 0 rfl) H20 rfl rfl) rfl rfl rfl rfl rfl ?_
              refine TA.one 13 (by kernel_rfl) ?_
              refine TX.ef0 (listed' := #[true, true, true, true, true, true, true, true, true, true, true, true, true, true]) [] rfl (Ef.store_el (us := [.int .i64 R23]) (is' := [.own V_s0 (lc (((s.set a.toNat R5).set d.toNat R14).set c.toNat R23))]) R23 0 kk3 rfl rfl (idx_get H20).2.2 rfl rfl (Cel.plain rfl rfl) rfl rfl rfl rfl) rfl rfl rfl (fun _ => rfl) (fun _ => ?_)
              refine TA.nil (by kernel_rfl) ?_
              exact TE.jb_go () [0] ⟨rfl, rfl, rfl, rfl, rfl, trivial⟩ rfl
            · refine TX.y (listed' := #[true, true, true, true, true, false, true, true, true, true, false, false, false, false]) [] rfl (Y.load_el (us := [.int .i64 E21]) (u := .int .i64 E21) kk3 rfl (Can.own 0 rfl) (idx_get H22).2.2 rfl rfl rfl rfl rfl) rfl rfl rfl rfl rfl ?_
              refine TA.one 5 (by kernel_rfl) ?_
              refine TX.y (listed' := #[true, true, true, true, true, true, true, true, true, true, false, false, false, false]) [] rfl (Y.load_el (us := [.int .i64 E19]) (u := .int .i64 E19) kk3 rfl (Can.own 0 rfl) (idx_get H20).2.2 rfl rfl rfl rfl rfl) rfl rfl rfl rfl rfl ?_
              refine TA.y (listed' := #[true, true, true, true, true, true, true, true, true, true, true, false, false, false]) 10 [] rfl (Y.add rfl rfl) rfl rfl rfl (by kernel_rfl) (by kernel_rfl) (by kernel_rfl) rfl rfl ?_
              refine TA.one 11 (by kernel_rfl) ?_
              refine TX.ef (listed' := #[true, true, true, true, true, true, true, true, true, true, true, true, false, false]) [] rfl (Ef.call (rest := [.own V_s0 (lc ((s.set a.toNat R5).set d.toNat R14))]) [0] (spec_l3Word_con (IntKind.i64.wrap (E19 + E21))  R23 H24) kc47 rfl rfl trivial) rfl rfl rfl rfl (fun _ => rfl) (fun _ => ?_)
              refine TA.one 12 (by kernel_rfl) ?_
              refine TX.y (listed' := #[true, true, true, true, true, true, true, true, true, true, true, true, true, false]) [] rfl (Y.index ke44 (Can.own 0 rfl) H20 rfl rfl) rfl rfl rfl rfl rfl ?_
              refine TA.one 13 (by kernel_rfl) ?_
              refine TX.ef0 (listed' := #[true, true, true, true, true, true, true, true, true, true, true, true, true, true]) [] rfl (Ef.store_el (us := [.int .i64 R23]) (is' := [.own V_s0 (lc (((s.set a.toNat R5).set d.toNat R14).set c.toNat R23))]) R23 0 kk3 rfl rfl (idx_get H20).2.2 rfl rfl (Cel.plain rfl rfl) rfl rfl rfl rfl) rfl rfl rfl (fun _ => rfl) (fun _ => ?_)
              refine TA.nil (by kernel_rfl) ?_
              exact TE.jb_go () [0] ⟨rfl, rfl, rfl, rfl, rfl, trivial⟩ rfl
        · refine TX.y (listed' := #[true, true, true, true, false, false, true, true, true, false, false, false, false, false]) [] rfl (Y.index ke44 (Can.own 0 rfl) H22 rfl rfl) rfl rfl rfl rfl rfl ?_
          refine TA.two 4 9 (by kernel_rfl) ?_ ?_
          · refine TX.y (listed' := #[true, true, true, true, true, false, true, true, true, false, false, false, false, false]) [] rfl (Y.index ke44 (Can.own 0 rfl) H20 rfl rfl) rfl rfl rfl rfl rfl ?_
            refine TA.two 5 9 (by kernel_rfl) ?_ ?_
            · refine TX.y (listed' := #[true, true, true, true, true, true, true, true, true, false, false, false, false, false]) [] rfl (Y.load_el (us := [.int .i64 E19]) (u := .int .i64 E19) kk3 rfl (Can.own 0 rfl) (idx_get H20).2.2 rfl rfl rfl rfl rfl) rfl rfl rfl rfl rfl ?_
              refine TA.one 9 (by kernel_rfl) ?_
              refine TX.y (listed' := #[true, true, true, true, true, true, true, true, true, true, false, false, false, false]) [] rfl (Y.load_el (us := [.int .i64 E21]) (u := .int .i64 E21) kk3 rfl (Can.own 0 rfl) (idx_get H22).2.2 rfl rfl rfl rfl rfl) rfl rfl rfl rfl rfl ?_
              refine TA.y (listed' := #[true, true, true, true, true, true, true, true, true, true, true, false, false, false]) 10 [] rfl (Y.add rfl rfl) rfl rfl rfl (by kernel_rfl) (by kernel_rfl) (by kernel_rfl) rfl rfl ?_
              refine TA.one 11 (by kernel_rfl) ?_
              refine TX.ef (listed' := #[true, true, true, true, true, true, true, true, true, true, true, true, false, false]) [] rfl (Ef.call (rest := [.own V_s0 (lc ((s.set a.toNat R5).set d.toNat R14))]) [0] (spec_l3Word_con (IntKind.i64.wrap (E19 + E21))  R23 H24) kc47 rfl rfl trivial) rfl rfl rfl rfl (fun _ => rfl) (fun _ => ?_)
              refine TA.one 12 (by kernel_rfl) ?_
              refine TX.y (listed' := #[true, true, true, true, true, true, true, true, true, true, true, true, true, false]) [] rfl (Y.index ke44 (Can.own 0 rfl) H20 rfl rfl) rfl rfl rfl rfl rfl ?_
              refine TA.one 13 (by kernel_rfl) ?_
              refine TX.ef0 (listed' := #[true, true, true, true, true, true, true, true, true, true, true, true, true, true]) [] rfl (Ef.store_el (us := [.int .i64 R23]) (is' := [.own V_s0 (lc (((s.set a.toNat R5).set d.toNat R14).set c.toNat R23))]) R23 0 kk3 rfl rfl (idx_get H20).2.2 rfl rfl (Cel.plain rfl rfl) rfl rfl rfl rfl) rfl rfl rfl (fun _ => rfl) (fun _ => ?_)
              refine TA.nil (by kernel_rfl) ?_
              exact TE.jb_go () [0] ⟨rfl, rfl, rfl, rfl, rfl, trivial⟩ rfl
            · refine TX.y (listed' := #[true, true, true, true, true, false, true, true, true, true, false, false, false, false]) [] rfl (Y.load_el (us := [.int .i64 E21]) (u := .int .i64 E21) kk3 rfl (Can.own 0 rfl) (idx_get H22).2.2 rfl rfl rfl rfl rfl) rfl rfl rfl rfl rfl ?_
              refine TA.one 5 (by kernel_rfl) ?_
              refine TX.y (listed' := #[true, true, true, true, true, true, true, true, true, true, false, false, false, false]) [] rfl (Y.load_el (us := [.int .i64 E19]) (u := .int .i64 E19) kk3 rfl (Can.own 0 rfl) (idx_get H20).2.2 rfl rfl rfl rfl rfl) rfl rfl rfl rfl rfl ?_
              refine TA.y (listed' := #[true, true, true, true, true, true, true, true, true, true, true, false, false, false]) 10 [] rfl (Y.add rfl rfl) rfl rfl rfl (by kernel_rfl) (by kernel_rfl) (by kernel_rfl) rfl rfl ?_
              refine TA.one 11 (by kernel_rfl) ?_
              refine TX.ef (listed' := #[true, true, true, true, true, true, true, true, true, true, true, true, false, false]) [] rfl (Ef.call (rest := [.own V_s0 (lc ((s.set a.toNat R5).set d.toNat R14))]) [0] (spec_l3Word_con (IntKind.i64.wrap (E19 + E21))  R23 H24) kc47 rfl rfl trivial) rfl rfl rfl rfl (fun _ => rfl) (fun _ => ?_)
              refine TA.one 12 (by kernel_rfl) ?_
              refine TX.y (listed' := #[true, true, true, true, true, true, true, true, true, true, true, true, true, false]) [] rfl (Y.index ke44 (Can.own 0 rfl) H20 rfl rfl) rfl rfl rfl rfl rfl ?_
              refine TA.one 13 (by kernel_rfl) ?_
              refine TX.ef0 (listed' := #[true, true, true, true, true, true, true, true, true, true, true, true, true, true]) [] rfl (Ef.store_el (us := [.int .i64 R23]) (is' := [.own V_s0 (lc (((s.set a.toNat R5).set d.toNat R14).set c.toNat R23))]) R23 0 kk3 rfl rfl (idx_get H20).2.2 rfl rfl (Cel.plain rfl rfl) rfl rfl rfl rfl) rfl rfl rfl (fun _ => rfl) (fun _ => ?_)
              refine TA.nil (by kernel_rfl) ?_
              exact TE.jb_go () [0] ⟨rfl, rfl, rfl, rfl, rfl, trivial⟩ rfl
          · refine TX.y (listed' := #[true, true, true, true, false, false, true, true, true, true, false, false, false, false]) [] rfl (Y.load_el (us := [.int .i64 E21]) (u := .int .i64 E21) kk3 rfl (Can.own 0 rfl) (idx_get H22).2.2 rfl rfl rfl rfl rfl) rfl rfl rfl rfl rfl ?_
            refine TA.one 4 (by kernel_rfl) ?_
            refine TX.y (listed' := #[true, true, true, true, true, false, true, true, true, true, false, false, false, false]) [] rfl (Y.index ke44 (Can.own 0 rfl) H20 rfl rfl) rfl rfl rfl rfl rfl ?_
            refine TA.one 5 (by kernel_rfl) ?_
            refine TX.y (listed' := #[true, true, true, true, true, true, true, true, true, true, false, false, false, false]) [] rfl (Y.load_el (us := [.int .i64 E19]) (u := .int .i64 E19) kk3 rfl (Can.own 0 rfl) (idx_get H20).2.2 rfl rfl rfl rfl rfl) rfl rfl rfl rfl rfl ?_
            refine TA.y (listed' := #[true, true, true, true, true, true, true, true, true, true, true, false, false, false]) 10 [] rfl (Y.add rfl rfl) rfl rfl rfl (by kernel_rfl) (by kernel_rfl) (by kernel_rfl) rfl rfl ?_
            refine TA.one 11 (by kernel_rfl) ?_
            refine TX.ef (listed' := #[true, true, true, true, true, true, true, true, true, true, true, true, false, false]) [] rfl (Ef.call (rest := [.own V_s0 (lc ((s.set a.toNat R5).set d.toNat R14))]) [0] (spec_l3Word_con (IntKind.i64.wrap (E19 + E21))  R23 H24) kc47 rfl rfl trivial) rfl rfl rfl rfl (fun _ => rfl) (fun _ => ?_)
            refine TA.one 12 (by kernel_rfl) ?_
            refine TX.y (listed' := #[true, true, true, true, true, true, true, true, true, true, true, true, true, false]) [] rfl (Y.index ke44 (Can.own 0 rfl) H20 rfl rfl) rfl rfl rfl rfl rfl ?_
            refine TA.one 13 (by kernel_rfl) ?_
            refine TX.ef0 (listed' := #[true, true, true, true, true, true, true, true, true, true, true, true, true, true]) [] rfl (Ef.store_el (us := [.int .i64 R23]) (is' := [.own V_s0 (lc (((s.set a.toNat R5).set d.toNat R14).set c.toNat R23))]) R23 0 kk3 rfl rfl (idx_get H20).2.2 rfl rfl (Cel.plain rfl rfl) rfl rfl rfl rfl) rfl rfl rfl (fun _ => rfl) (fun _ => ?_)
            refine TA.nil (by kernel_rfl) ?_
            exact TE.jb_go () [0] ⟨rfl, rfl, rfl, rfl, rfl, trivial⟩ rfl
      · refine TE.next ?_
        refine TW.seq ?_
        refine TW.bind fun E28 H29 => ?_
        refine TW.bind fun E30 H31 => ?_
        refine TW.bind fun R32 H33 => ?_
        refine TW.joinU (X := Unit) (fun _ _ => [(0, V_s0), (1, .int .i64 a), (2, .int .i64 b), (3, .int .i64 c), (4, .int .i64 d)]) (fun _ _ => [.own V_s0 (lc ((((s.set a.toNat R5).set d.toNat R14).set c.toNat R23).set b.toNat R32))]) ?_ (fun _ X36 => ?_)
        · refine TW.draw (isH := []) hMix ?_
          refine TA.y (listed' := #[true, false, false, false, false, false, false, false, false, false, false, false, false, false]) 0 [] rfl (Y.move rfl) rfl rfl rfl (by kernel_rfl) (by kernel_rfl) (by kernel_rfl) rfl rfl ?_
          refine TA.y (listed' := #[true, true, false, false, false, false, false, false, false, false, false, false, false, false]) 1 [] rfl (Y.move rfl) rfl rfl rfl (by kernel_rfl) (by kernel_rfl) (by kernel_rfl) rfl rfl ?_
          refine TA.y (listed' := #[true, true, true, false, false, false, false, false, false, false, false, false, false, false]) 2 [] rfl (Y.move rfl) rfl rfl rfl (by kernel_rfl) (by kernel_rfl) (by kernel_rfl) rfl rfl ?_
          refine TA.y (listed' := #[true, true, true, true, false, false, false, false, false, false, false, false, false, false]) 3 [] rfl (Y.move rfl) rfl rfl rfl (by kernel_rfl) (by kernel_rfl) (by kernel_rfl) rfl rfl ?_
          refine TA.y (listed' := #[true, true, true, true, false, false, true, false, false, false, false, false, false, false]) 6 [] rfl (Y.move rfl) rfl rfl rfl (by kernel_rfl) (by kernel_rfl) (by kernel_rfl) rfl rfl ?_
          refine TA.y (listed' := #[true, true, true, true, false, false, true, true, false, false, false, false, false, false]) 7 [] rfl (Y.move rfl) rfl rfl rfl (by kernel_rfl) (by kernel_rfl) (by kernel_rfl) rfl rfl ?_
          refine TA.two 4 8 (by kernel_rfl) ?_ ?_
          · refine TX.y (listed' := #[true, true, true, true, true, false, true, true, false, false, false, false, false, false]) [] rfl (Y.index ke44 (Can.own 0 rfl) H29 rfl rfl) rfl rfl rfl rfl rfl ?_
            refine TA.two 5 8 (by kernel_rfl) ?_ ?_
            · refine TX.y (listed' := #[true, true, true, true, true, true, true, true, false, false, false, false, false, false]) [] rfl (Y.load_el (us := [.int .i64 E28]) (u := .int .i64 E28) kk3 rfl (Can.own 0 rfl) (idx_get H29).2.2 rfl rfl rfl rfl rfl) rfl rfl rfl rfl rfl ?_
              refine TA.one 8 (by kernel_rfl) ?_
              refine TX.y (listed' := #[true, true, true, true, true, true, true, true, true, false, false, false, false, false]) [] rfl (Y.index ke44 (Can.own 0 rfl) H31 rfl rfl) rfl rfl rfl rfl rfl ?_
              refine TA.one 9 (by kernel_rfl) ?_
              refine TX.y (listed' := #[true, true, true, true, true, true, true, true, true, true, false, false, false, false]) [] rfl (Y.load_el (us := [.int .i64 E30]) (u := .int .i64 E30) kk3 rfl (Can.own 0 rfl) (idx_get H31).2.2 rfl rfl rfl rfl rfl) rfl rfl rfl rfl rfl ?_
              refine TA.y (listed' := #[true, true, true, true, true, true, true, true, true, true, true, false, false, false]) 10 [] rfl (Y.xor rfl rfl) rfl rfl rfl (by kernel_rfl) (by kernel_rfl) (by kernel_rfl) rfl rfl ?_
              refine TA.one 11 (by kernel_rfl) ?_
              refine TX.ef (listed' := #[true, true, true, true, true, true, true, true, true, true, true, true, false, false]) [] rfl (Ef.call (rest := [.own V_s0 (lc (((s.set a.toNat R5).set d.toNat R14).set c.toNat R23))]) [0] (spec_l3Left_con (ixor .i64 E28 E30) (12 : Int)  R32 H33) kc48 rfl rfl trivial) rfl rfl rfl rfl (fun _ => rfl) (fun _ => ?_)
              refine TA.one 12 (by kernel_rfl) ?_
              refine TX.y (listed' := #[true, true, true, true, true, true, true, true, true, true, true, true, true, false]) [] rfl (Y.index ke44 (Can.own 0 rfl) H29 rfl rfl) rfl rfl rfl rfl rfl ?_
              refine TA.one 13 (by kernel_rfl) ?_
              refine TX.ef0 (listed' := #[true, true, true, true, true, true, true, true, true, true, true, true, true, true]) [] rfl (Ef.store_el (us := [.int .i64 R32]) (is' := [.own V_s0 (lc ((((s.set a.toNat R5).set d.toNat R14).set c.toNat R23).set b.toNat R32))]) R32 0 kk3 rfl rfl (idx_get H29).2.2 rfl rfl (Cel.plain rfl rfl) rfl rfl rfl rfl) rfl rfl rfl (fun _ => rfl) (fun _ => ?_)
              refine TA.nil (by kernel_rfl) ?_
              exact TE.jb_go () [0] ⟨rfl, rfl, rfl, rfl, rfl, trivial⟩ rfl
            · refine TX.y (listed' := #[true, true, true, true, true, false, true, true, true, false, false, false, false, false]) [] rfl (Y.index ke44 (Can.own 0 rfl) H31 rfl rfl) rfl rfl rfl rfl rfl ?_
              refine TA.two 5 9 (by kernel_rfl) ?_ ?_
              · refine TX.y (listed' := #[true, true, true, true, true, true, true, true, true, false, false, false, false, false]) [] rfl (Y.load_el (us := [.int .i64 E28]) (u := .int .i64 E28) kk3 rfl (Can.own 0 rfl) (idx_get H29).2.2 rfl rfl rfl rfl rfl) rfl rfl rfl rfl rfl ?_
                refine TA.one 9 (by kernel_rfl) ?_
                refine TX.y (listed' := #[true, true, true, true, true, true, true, true, true, true, false, false, false, false]) [] rfl (Y.load_el (us := [.int .i64 E30]) (u := .int .i64 E30) kk3 rfl (Can.own 0 rfl) (idx_get H31).2.2 rfl rfl rfl rfl rfl) rfl rfl rfl rfl rfl ?_
                refine TA.y (listed' := #[true, true, true, true, true, true, true, true, true, true, true, false, false, false]) 10 [] rfl (Y.xor rfl rfl) rfl rfl rfl (by kernel_rfl) (by kernel_rfl) (by kernel_rfl) rfl rfl ?_
                refine TA.one 11 (by kernel_rfl) ?_
                refine TX.ef (listed' := #[true, true, true, true, true, true, true, true, true, true, true, true, false, false]) [] rfl (Ef.call (rest := [.own V_s0 (lc (((s.set a.toNat R5).set d.toNat R14).set c.toNat R23))]) [0] (spec_l3Left_con (ixor .i64 E28 E30) (12 : Int)  R32 H33) kc48 rfl rfl trivial) rfl rfl rfl rfl (fun _ => rfl) (fun _ => ?_)
                refine TA.one 12 (by kernel_rfl) ?_
                refine TX.y (listed' := #[true, true, true, true, true, true, true, true, true, true, true, true, true, false]) [] rfl (Y.index ke44 (Can.own 0 rfl) H29 rfl rfl) rfl rfl rfl rfl rfl ?_
                refine TA.one 13 (by kernel_rfl) ?_
                refine TX.ef0 (listed' := #[true, true, true, true, true, true, true, true, true, true, true, true, true, true]) [] rfl (Ef.store_el (us := [.int .i64 R32]) (is' := [.own V_s0 (lc ((((s.set a.toNat R5).set d.toNat R14).set c.toNat R23).set b.toNat R32))]) R32 0 kk3 rfl rfl (idx_get H29).2.2 rfl rfl (Cel.plain rfl rfl) rfl rfl rfl rfl) rfl rfl rfl (fun _ => rfl) (fun _ => ?_)
                refine TA.nil (by kernel_rfl) ?_
                exact TE.jb_go () [0] ⟨rfl, rfl, rfl, rfl, rfl, trivial⟩ rfl
              · refine TX.y (listed' := #[true, true, true, true, true, false, true, true, true, true, false, false, false, false]) [] rfl (Y.load_el (us := [.int .i64 E30]) (u := .int .i64 E30) kk3 rfl (Can.own 0 rfl) (idx_get H31).2.2 rfl rfl rfl rfl rfl) rfl rfl rfl rfl rfl ?_
                refine TA.one 5 (by kernel_rfl) ?_
                refine TX.y (listed' := #[true, true, true, true, true, true, true, true, true, true, false, false, false, false]) [] rfl (Y.load_el (us := [.int .i64 E28]) (u := .int .i64 E28) kk3 rfl (Can.own 0 rfl) (idx_get H29).2.2 rfl rfl rfl rfl rfl) rfl rfl rfl rfl rfl ?_
                refine TA.y (listed' := #[true, true, true, true, true, true, true, true, true, true, true, false, false, false]) 10 [] rfl (Y.xor rfl rfl) rfl rfl rfl (by kernel_rfl) (by kernel_rfl) (by kernel_rfl) rfl rfl ?_
                refine TA.one 11 (by kernel_rfl) ?_
                refine TX.ef (listed' := #[true, true, true, true, true, true, true, true, true, true, true, true, false, false]) [] rfl (Ef.call (rest := [.own V_s0 (lc (((s.set a.toNat R5).set d.toNat R14).set c.toNat R23))]) [0] (spec_l3Left_con (ixor .i64 E28 E30) (12 : Int)  R32 H33) kc48 rfl rfl trivial) rfl rfl rfl rfl (fun _ => rfl) (fun _ => ?_)
                refine TA.one 12 (by kernel_rfl) ?_
                refine TX.y (listed' := #[true, true, true, true, true, true, true, true, true, true, true, true, true, false]) [] rfl (Y.index ke44 (Can.own 0 rfl) H29 rfl rfl) rfl rfl rfl rfl rfl ?_
                refine TA.one 13 (by kernel_rfl) ?_
                refine TX.ef0 (listed' := #[true, true, true, true, true, true, true, true, true, true, true, true, true, true]) [] rfl (Ef.store_el (us := [.int .i64 R32]) (is' := [.own V_s0 (lc ((((s.set a.toNat R5).set d.toNat R14).set c.toNat R23).set b.toNat R32))]) R32 0 kk3 rfl rfl (idx_get H29).2.2 rfl rfl (Cel.plain rfl rfl) rfl rfl rfl rfl) rfl rfl rfl (fun _ => rfl) (fun _ => ?_)
                refine TA.nil (by kernel_rfl) ?_
                exact TE.jb_go () [0] ⟨rfl, rfl, rfl, rfl, rfl, trivial⟩ rfl
          · refine TX.y (listed' := #[true, true, true, true, false, false, true, true, true, false, false, false, false, false]) [] rfl (Y.index ke44 (Can.own 0 rfl) H31 rfl rfl) rfl rfl rfl rfl rfl ?_
            refine TA.two 4 9 (by kernel_rfl) ?_ ?_
            · refine TX.y (listed' := #[true, true, true, true, true, false, true, true, true, false, false, false, false, false]) [] rfl (Y.index ke44 (Can.own 0 rfl) H29 rfl rfl) rfl rfl rfl rfl rfl ?_
              refine TA.two 5 9 (by kernel_rfl) ?_ ?_
              · refine TX.y (listed' := #[true, true, true, true, true, true, true, true, true, false, false, false, false, false]) [] rfl (Y.load_el (us := [.int .i64 E28]) (u := .int .i64 E28) kk3 rfl (Can.own 0 rfl) (idx_get H29).2.2 rfl rfl rfl rfl rfl) rfl rfl rfl rfl rfl ?_
                refine TA.one 9 (by kernel_rfl) ?_
                refine TX.y (listed' := #[true, true, true, true, true, true, true, true, true, true, false, false, false, false]) [] rfl (Y.load_el (us := [.int .i64 E30]) (u := .int .i64 E30) kk3 rfl (Can.own 0 rfl) (idx_get H31).2.2 rfl rfl rfl rfl rfl) rfl rfl rfl rfl rfl ?_
                refine TA.y (listed' := #[true, true, true, true, true, true, true, true, true, true, true, false, false, false]) 10 [] rfl (Y.xor rfl rfl) rfl rfl rfl (by kernel_rfl) (by kernel_rfl) (by kernel_rfl) rfl rfl ?_
                refine TA.one 11 (by kernel_rfl) ?_
                refine TX.ef (listed' := #[true, true, true, true, true, true, true, true, true, true, true, true, false, false]) [] rfl (Ef.call (rest := [.own V_s0 (lc (((s.set a.toNat R5).set d.toNat R14).set c.toNat R23))]) [0] (spec_l3Left_con (ixor .i64 E28 E30) (12 : Int)  R32 H33) kc48 rfl rfl trivial) rfl rfl rfl rfl (fun _ => rfl) (fun _ => ?_)
                refine TA.one 12 (by kernel_rfl) ?_
                refine TX.y (listed' := #[true, true, true, true, true, true, true, true, true, true, true, true, true, false]) [] rfl (Y.index ke44 (Can.own 0 rfl) H29 rfl rfl) rfl rfl rfl rfl rfl ?_
                refine TA.one 13 (by kernel_rfl) ?_
                refine TX.ef0 (listed' := #[true, true, true, true, true, true, true, true, true, true, true, true, true, true]) [] rfl (Ef.store_el (us := [.int .i64 R32]) (is' := [.own V_s0 (lc ((((s.set a.toNat R5).set d.toNat R14).set c.toNat R23).set b.toNat R32))]) R32 0 kk3 rfl rfl (idx_get H29).2.2 rfl rfl (Cel.plain rfl rfl) rfl rfl rfl rfl) rfl rfl rfl (fun _ => rfl) (fun _ => ?_)
                refine TA.nil (by kernel_rfl) ?_
                exact TE.jb_go () [0] ⟨rfl, rfl, rfl, rfl, rfl, trivial⟩ rfl
              · refine TX.y (listed' := #[true, true, true, true, true, false, true, true, true, true, false, false, false, false]) [] rfl (Y.load_el (us := [.int .i64 E30]) (u := .int .i64 E30) kk3 rfl (Can.own 0 rfl) (idx_get H31).2.2 rfl rfl rfl rfl rfl) rfl rfl rfl rfl rfl ?_
                refine TA.one 5 (by kernel_rfl) ?_
                refine TX.y (listed' := #[true, true, true, true, true, true, true, true, true, true, false, false, false, false]) [] rfl (Y.load_el (us := [.int .i64 E28]) (u := .int .i64 E28) kk3 rfl (Can.own 0 rfl) (idx_get H29).2.2 rfl rfl rfl rfl rfl) rfl rfl rfl rfl rfl ?_
                refine TA.y (listed' := #[true, true, true, true, true, true, true, true, true, true, true, false, false, false]) 10 [] rfl (Y.xor rfl rfl) rfl rfl rfl (by kernel_rfl) (by kernel_rfl) (by kernel_rfl) rfl rfl ?_
                refine TA.one 11 (by kernel_rfl) ?_
                refine TX.ef (listed' := #[true, true, true, true, true, true, true, true, true, true, true, true, false, false]) [] rfl (Ef.call (rest := [.own V_s0 (lc (((s.set a.toNat R5).set d.toNat R14).set c.toNat R23))]) [0] (spec_l3Left_con (ixor .i64 E28 E30) (12 : Int)  R32 H33) kc48 rfl rfl trivial) rfl rfl rfl rfl (fun _ => rfl) (fun _ => ?_)
                refine TA.one 12 (by kernel_rfl) ?_
                refine TX.y (listed' := #[true, true, true, true, true, true, true, true, true, true, true, true, true, false]) [] rfl (Y.index ke44 (Can.own 0 rfl) H29 rfl rfl) rfl rfl rfl rfl rfl ?_
                refine TA.one 13 (by kernel_rfl) ?_
                refine TX.ef0 (listed' := #[true, true, true, true, true, true, true, true, true, true, true, true, true, true]) [] rfl (Ef.store_el (us := [.int .i64 R32]) (is' := [.own V_s0 (lc ((((s.set a.toNat R5).set d.toNat R14).set c.toNat R23).set b.toNat R32))]) R32 0 kk3 rfl rfl (idx_get H29).2.2 rfl rfl (Cel.plain rfl rfl) rfl rfl rfl rfl) rfl rfl rfl (fun _ => rfl) (fun _ => ?_)
                refine TA.nil (by kernel_rfl) ?_
                exact TE.jb_go () [0] ⟨rfl, rfl, rfl, rfl, rfl, trivial⟩ rfl
            · refine TX.y (listed' := #[true, true, true, true, false, false, true, true, true, true, false, false, false, false]) [] rfl (Y.load_el (us := [.int .i64 E30]) (u := .int .i64 E30) kk3 rfl (Can.own 0 rfl) (idx_get H31).2.2 rfl rfl rfl rfl rfl) rfl rfl rfl rfl rfl ?_
              refine TA.one 4 (by kernel_rfl) ?_
              refine TX.y (listed' := #[true, true, true, true, true, false, true, true, true, true, false, false, false, false]) [] rfl (Y.index ke44 (Can.own 0 rfl) H29 rfl rfl) rfl rfl rfl rfl rfl ?_
              refine TA.one 5 (by kernel_rfl) ?_
              refine TX.y (listed' := #[true, true, true, true, true, true, true, true, true, true, false, false, false, false]) [] rfl (Y.load_el (us := [.int .i64 E28]) (u := .int .i64 E28) kk3 rfl (Can.own 0 rfl) (idx_get H29).2.2 rfl rfl rfl rfl rfl) rfl rfl rfl rfl rfl ?_
              refine TA.y (listed' := #[true, true, true, true, true, true, true, true, true, true, true, false, false, false]) 10 [] rfl (Y.xor rfl rfl) rfl rfl rfl (by kernel_rfl) (by kernel_rfl) (by kernel_rfl) rfl rfl ?_
              refine TA.one 11 (by kernel_rfl) ?_
              refine TX.ef (listed' := #[true, true, true, true, true, true, true, true, true, true, true, true, false, false]) [] rfl (Ef.call (rest := [.own V_s0 (lc (((s.set a.toNat R5).set d.toNat R14).set c.toNat R23))]) [0] (spec_l3Left_con (ixor .i64 E28 E30) (12 : Int)  R32 H33) kc48 rfl rfl trivial) rfl rfl rfl rfl (fun _ => rfl) (fun _ => ?_)
              refine TA.one 12 (by kernel_rfl) ?_
              refine TX.y (listed' := #[true, true, true, true, true, true, true, true, true, true, true, true, true, false]) [] rfl (Y.index ke44 (Can.own 0 rfl) H29 rfl rfl) rfl rfl rfl rfl rfl ?_
              refine TA.one 13 (by kernel_rfl) ?_
              refine TX.ef0 (listed' := #[true, true, true, true, true, true, true, true, true, true, true, true, true, true]) [] rfl (Ef.store_el (us := [.int .i64 R32]) (is' := [.own V_s0 (lc ((((s.set a.toNat R5).set d.toNat R14).set c.toNat R23).set b.toNat R32))]) R32 0 kk3 rfl rfl (idx_get H29).2.2 rfl rfl (Cel.plain rfl rfl) rfl rfl rfl rfl) rfl rfl rfl (fun _ => rfl) (fun _ => ?_)
              refine TA.nil (by kernel_rfl) ?_
              exact TE.jb_go () [0] ⟨rfl, rfl, rfl, rfl, rfl, trivial⟩ rfl
        · refine TE.next ?_
          refine TW.seq ?_
          refine TW.bind fun E37 H38 => ?_
          refine TW.bind fun E39 H40 => ?_
          refine TW.bind fun R41 H42 => ?_
          refine TW.joinU (X := Unit) (fun _ _ => [(0, V_s0), (1, .int .i64 a), (2, .int .i64 b), (3, .int .i64 c), (4, .int .i64 d)]) (fun _ _ => [.own V_s0 (lc (((((s.set a.toNat R5).set d.toNat R14).set c.toNat R23).set b.toNat R32).set a.toNat R41))]) ?_ (fun _ X45 => ?_)
          · refine TW.draw (isH := []) hMix ?_
            refine TA.y (listed' := #[true, false, false, false, false, false, false, false, false, false, false, false, false, false]) 0 [] rfl (Y.move rfl) rfl rfl rfl (by kernel_rfl) (by kernel_rfl) (by kernel_rfl) rfl rfl ?_
            refine TA.y (listed' := #[true, true, false, false, false, false, false, false, false, false, false, false, false, false]) 1 [] rfl (Y.move rfl) rfl rfl rfl (by kernel_rfl) (by kernel_rfl) (by kernel_rfl) rfl rfl ?_
            refine TA.y (listed' := #[true, true, true, false, false, false, false, false, false, false, false, false, false, false]) 2 [] rfl (Y.move rfl) rfl rfl rfl (by kernel_rfl) (by kernel_rfl) (by kernel_rfl) rfl rfl ?_
            refine TA.y (listed' := #[true, true, true, true, false, false, false, false, false, false, false, false, false, false]) 3 [] rfl (Y.move rfl) rfl rfl rfl (by kernel_rfl) (by kernel_rfl) (by kernel_rfl) rfl rfl ?_
            refine TA.y (listed' := #[true, true, true, true, false, false, true, false, false, false, false, false, false, false]) 6 [] rfl (Y.move rfl) rfl rfl rfl (by kernel_rfl) (by kernel_rfl) (by kernel_rfl) rfl rfl ?_
            refine TA.y (listed' := #[true, true, true, true, false, false, true, true, false, false, false, false, false, false]) 7 [] rfl (Y.move rfl) rfl rfl rfl (by kernel_rfl) (by kernel_rfl) (by kernel_rfl) rfl rfl ?_
            refine TA.two 4 8 (by kernel_rfl) ?_ ?_
            · refine TX.y (listed' := #[true, true, true, true, true, false, true, true, false, false, false, false, false, false]) [] rfl (Y.index ke44 (Can.own 0 rfl) H38 rfl rfl) rfl rfl rfl rfl rfl ?_
              refine TA.two 5 8 (by kernel_rfl) ?_ ?_
              · refine TX.y (listed' := #[true, true, true, true, true, true, true, true, false, false, false, false, false, false]) [] rfl (Y.load_el (us := [.int .i64 E37]) (u := .int .i64 E37) kk3 rfl (Can.own 0 rfl) (idx_get H38).2.2 rfl rfl rfl rfl rfl) rfl rfl rfl rfl rfl ?_
                refine TA.one 8 (by kernel_rfl) ?_
                refine TX.y (listed' := #[true, true, true, true, true, true, true, true, true, false, false, false, false, false]) [] rfl (Y.index ke44 (Can.own 0 rfl) H40 rfl rfl) rfl rfl rfl rfl rfl ?_
                refine TA.one 9 (by kernel_rfl) ?_
                refine TX.y (listed' := #[true, true, true, true, true, true, true, true, true, true, false, false, false, false]) [] rfl (Y.load_el (us := [.int .i64 E39]) (u := .int .i64 E39) kk3 rfl (Can.own 0 rfl) (idx_get H40).2.2 rfl rfl rfl rfl rfl) rfl rfl rfl rfl rfl ?_
                refine TA.y (listed' := #[true, true, true, true, true, true, true, true, true, true, true, false, false, false]) 10 [] rfl (Y.add rfl rfl) rfl rfl rfl (by kernel_rfl) (by kernel_rfl) (by kernel_rfl) rfl rfl ?_
                refine TA.one 11 (by kernel_rfl) ?_
                refine TX.ef (listed' := #[true, true, true, true, true, true, true, true, true, true, true, true, false, false]) [] rfl (Ef.call (rest := [.own V_s0 (lc ((((s.set a.toNat R5).set d.toNat R14).set c.toNat R23).set b.toNat R32))]) [0] (spec_l3Word_con (IntKind.i64.wrap (E37 + E39))  R41 H42) kc47 rfl rfl trivial) rfl rfl rfl rfl (fun _ => rfl) (fun _ => ?_)
                refine TA.one 12 (by kernel_rfl) ?_
                refine TX.y (listed' := #[true, true, true, true, true, true, true, true, true, true, true, true, true, false]) [] rfl (Y.index ke44 (Can.own 0 rfl) H38 rfl rfl) rfl rfl rfl rfl rfl ?_
                refine TA.one 13 (by kernel_rfl) ?_
                refine TX.ef0 (listed' := #[true, true, true, true, true, true, true, true, true, true, true, true, true, true]) [] rfl (Ef.store_el (us := [.int .i64 R41]) (is' := [.own V_s0 (lc (((((s.set a.toNat R5).set d.toNat R14).set c.toNat R23).set b.toNat R32).set a.toNat R41))]) R41 0 kk3 rfl rfl (idx_get H38).2.2 rfl rfl (Cel.plain rfl rfl) rfl rfl rfl rfl) rfl rfl rfl (fun _ => rfl) (fun _ => ?_)
                refine TA.nil (by kernel_rfl) ?_
                exact TE.jb_go () [0] ⟨rfl, rfl, rfl, rfl, rfl, trivial⟩ rfl
              · refine TX.y (listed' := #[true, true, true, true, true, false, true, true, true, false, false, false, false, false]) [] rfl (Y.index ke44 (Can.own 0 rfl) H40 rfl rfl) rfl rfl rfl rfl rfl ?_
                refine TA.two 5 9 (by kernel_rfl) ?_ ?_
                · refine TX.y (listed' := #[true, true, true, true, true, true, true, true, true, false, false, false, false, false]) [] rfl (Y.load_el (us := [.int .i64 E37]) (u := .int .i64 E37) kk3 rfl (Can.own 0 rfl) (idx_get H38).2.2 rfl rfl rfl rfl rfl) rfl rfl rfl rfl rfl ?_
                  refine TA.one 9 (by kernel_rfl) ?_
                  refine TX.y (listed' := #[true, true, true, true, true, true, true, true, true, true, false, false, false, false]) [] rfl (Y.load_el (us := [.int .i64 E39]) (u := .int .i64 E39) kk3 rfl (Can.own 0 rfl) (idx_get H40).2.2 rfl rfl rfl rfl rfl) rfl rfl rfl rfl rfl ?_
                  refine TA.y (listed' := #[true, true, true, true, true, true, true, true, true, true, true, false, false, false]) 10 [] rfl (Y.add rfl rfl) rfl rfl rfl (by kernel_rfl) (by kernel_rfl) (by kernel_rfl) rfl rfl ?_
                  refine TA.one 11 (by kernel_rfl) ?_
                  refine TX.ef (listed' := #[true, true, true, true, true, true, true, true, true, true, true, true, false, false]) [] rfl (Ef.call (rest := [.own V_s0 (lc ((((s.set a.toNat R5).set d.toNat R14).set c.toNat R23).set b.toNat R32))]) [0] (spec_l3Word_con (IntKind.i64.wrap (E37 + E39))  R41 H42) kc47 rfl rfl trivial) rfl rfl rfl rfl (fun _ => rfl) (fun _ => ?_)
                  refine TA.one 12 (by kernel_rfl) ?_
                  refine TX.y (listed' := #[true, true, true, true, true, true, true, true, true, true, true, true, true, false]) [] rfl (Y.index ke44 (Can.own 0 rfl) H38 rfl rfl) rfl rfl rfl rfl rfl ?_
                  refine TA.one 13 (by kernel_rfl) ?_
                  refine TX.ef0 (listed' := #[true, true, true, true, true, true, true, true, true, true, true, true, true, true]) [] rfl (Ef.store_el (us := [.int .i64 R41]) (is' := [.own V_s0 (lc (((((s.set a.toNat R5).set d.toNat R14).set c.toNat R23).set b.toNat R32).set a.toNat R41))]) R41 0 kk3 rfl rfl (idx_get H38).2.2 rfl rfl (Cel.plain rfl rfl) rfl rfl rfl rfl) rfl rfl rfl (fun _ => rfl) (fun _ => ?_)
                  refine TA.nil (by kernel_rfl) ?_
                  exact TE.jb_go () [0] ⟨rfl, rfl, rfl, rfl, rfl, trivial⟩ rfl
                · refine TX.y (listed' := #[true, true, true, true, true, false, true, true, true, true, false, false, false, false]) [] rfl (Y.load_el (us := [.int .i64 E39]) (u := .int .i64 E39) kk3 rfl (Can.own 0 rfl) (idx_get H40).2.2 rfl rfl rfl rfl rfl) rfl rfl rfl rfl rfl ?_
                  refine TA.one 5 (by kernel_rfl) ?_
                  refine TX.y (listed' := #[true, true, true, true, true, true, true, true, true, true, false, false, false, false]) [] rfl (Y.load_el (us := [.int .i64 E37]) (u := .int .i64 E37) kk3 rfl (Can.own 0 rfl) (idx_get H38).2.2 rfl rfl rfl rfl rfl) rfl rfl rfl rfl rfl ?_
                  refine TA.y (listed' := #[true, true, true, true, true, true, true, true, true, true, true, false, false, false]) 10 [] rfl (Y.add rfl rfl) rfl rfl rfl (by kernel_rfl) (by kernel_rfl) (by kernel_rfl) rfl rfl ?_
                  refine TA.one 11 (by kernel_rfl) ?_
                  refine TX.ef (listed' := #[true, true, true, true, true, true, true, true, true, true, true, true, false, false]) [] rfl (Ef.call (rest := [.own V_s0 (lc ((((s.set a.toNat R5).set d.toNat R14).set c.toNat R23).set b.toNat R32))]) [0] (spec_l3Word_con (IntKind.i64.wrap (E37 + E39))  R41 H42) kc47 rfl rfl trivial) rfl rfl rfl rfl (fun _ => rfl) (fun _ => ?_)
                  refine TA.one 12 (by kernel_rfl) ?_
                  refine TX.y (listed' := #[true, true, true, true, true, true, true, true, true, true, true, true, true, false]) [] rfl (Y.index ke44 (Can.own 0 rfl) H38 rfl rfl) rfl rfl rfl rfl rfl ?_
                  refine TA.one 13 (by kernel_rfl) ?_
                  refine TX.ef0 (listed' := #[true, true, true, true, true, true, true, true, true, true, true, true, true, true]) [] rfl (Ef.store_el (us := [.int .i64 R41]) (is' := [.own V_s0 (lc (((((s.set a.toNat R5).set d.toNat R14).set c.toNat R23).set b.toNat R32).set a.toNat R41))]) R41 0 kk3 rfl rfl (idx_get H38).2.2 rfl rfl (Cel.plain rfl rfl) rfl rfl rfl rfl) rfl rfl rfl (fun _ => rfl) (fun _ => ?_)
                  refine TA.nil (by kernel_rfl) ?_
                  exact TE.jb_go () [0] ⟨rfl, rfl, rfl, rfl, rfl, trivial⟩ rfl
            · refine TX.y (listed' := #[true, true, true, true, false, false, true, true, true, false, false, false, false, false]) [] rfl (Y.index ke44 (Can.own 0 rfl) H40 rfl rfl) rfl rfl rfl rfl rfl ?_
              refine TA.two 4 9 (by kernel_rfl) ?_ ?_
              · refine TX.y (listed' := #[true, true, true, true, true, false, true, true, true, false, false, false, false, false]) [] rfl (Y.index ke44 (Can.own 0 rfl) H38 rfl rfl) rfl rfl rfl rfl rfl ?_
                refine TA.two 5 9 (by kernel_rfl) ?_ ?_
                · refine TX.y (listed' := #[true, true, true, true, true, true, true, true, true, false, false, false, false, false]) [] rfl (Y.load_el (us := [.int .i64 E37]) (u := .int .i64 E37) kk3 rfl (Can.own 0 rfl) (idx_get H38).2.2 rfl rfl rfl rfl rfl) rfl rfl rfl rfl rfl ?_
                  refine TA.one 9 (by kernel_rfl) ?_
                  refine TX.y (listed' := #[true, true, true, true, true, true, true, true, true, true, false, false, false, false]) [] rfl (Y.load_el (us := [.int .i64 E39]) (u := .int .i64 E39) kk3 rfl (Can.own 0 rfl) (idx_get H40).2.2 rfl rfl rfl rfl rfl) rfl rfl rfl rfl rfl ?_
                  refine TA.y (listed' := #[true, true, true, true, true, true, true, true, true, true, true, false, false, false]) 10 [] rfl (Y.add rfl rfl) rfl rfl rfl (by kernel_rfl) (by kernel_rfl) (by kernel_rfl) rfl rfl ?_
                  refine TA.one 11 (by kernel_rfl) ?_
                  refine TX.ef (listed' := #[true, true, true, true, true, true, true, true, true, true, true, true, false, false]) [] rfl (Ef.call (rest := [.own V_s0 (lc ((((s.set a.toNat R5).set d.toNat R14).set c.toNat R23).set b.toNat R32))]) [0] (spec_l3Word_con (IntKind.i64.wrap (E37 + E39))  R41 H42) kc47 rfl rfl trivial) rfl rfl rfl rfl (fun _ => rfl) (fun _ => ?_)
                  refine TA.one 12 (by kernel_rfl) ?_
                  refine TX.y (listed' := #[true, true, true, true, true, true, true, true, true, true, true, true, true, false]) [] rfl (Y.index ke44 (Can.own 0 rfl) H38 rfl rfl) rfl rfl rfl rfl rfl ?_
                  refine TA.one 13 (by kernel_rfl) ?_
                  refine TX.ef0 (listed' := #[true, true, true, true, true, true, true, true, true, true, true, true, true, true]) [] rfl (Ef.store_el (us := [.int .i64 R41]) (is' := [.own V_s0 (lc (((((s.set a.toNat R5).set d.toNat R14).set c.toNat R23).set b.toNat R32).set a.toNat R41))]) R41 0 kk3 rfl rfl (idx_get H38).2.2 rfl rfl (Cel.plain rfl rfl) rfl rfl rfl rfl) rfl rfl rfl (fun _ => rfl) (fun _ => ?_)
                  refine TA.nil (by kernel_rfl) ?_
                  exact TE.jb_go () [0] ⟨rfl, rfl, rfl, rfl, rfl, trivial⟩ rfl
                · refine TX.y (listed' := #[true, true, true, true, true, false, true, true, true, true, false, false, false, false]) [] rfl (Y.load_el (us := [.int .i64 E39]) (u := .int .i64 E39) kk3 rfl (Can.own 0 rfl) (idx_get H40).2.2 rfl rfl rfl rfl rfl) rfl rfl rfl rfl rfl ?_
                  refine TA.one 5 (by kernel_rfl) ?_
                  refine TX.y (listed' := #[true, true, true, true, true, true, true, true, true, true, false, false, false, false]) [] rfl (Y.load_el (us := [.int .i64 E37]) (u := .int .i64 E37) kk3 rfl (Can.own 0 rfl) (idx_get H38).2.2 rfl rfl rfl rfl rfl) rfl rfl rfl rfl rfl ?_
                  refine TA.y (listed' := #[true, true, true, true, true, true, true, true, true, true, true, false, false, false]) 10 [] rfl (Y.add rfl rfl) rfl rfl rfl (by kernel_rfl) (by kernel_rfl) (by kernel_rfl) rfl rfl ?_
                  refine TA.one 11 (by kernel_rfl) ?_
                  refine TX.ef (listed' := #[true, true, true, true, true, true, true, true, true, true, true, true, false, false]) [] rfl (Ef.call (rest := [.own V_s0 (lc ((((s.set a.toNat R5).set d.toNat R14).set c.toNat R23).set b.toNat R32))]) [0] (spec_l3Word_con (IntKind.i64.wrap (E37 + E39))  R41 H42) kc47 rfl rfl trivial) rfl rfl rfl rfl (fun _ => rfl) (fun _ => ?_)
                  refine TA.one 12 (by kernel_rfl) ?_
                  refine TX.y (listed' := #[true, true, true, true, true, true, true, true, true, true, true, true, true, false]) [] rfl (Y.index ke44 (Can.own 0 rfl) H38 rfl rfl) rfl rfl rfl rfl rfl ?_
                  refine TA.one 13 (by kernel_rfl) ?_
                  refine TX.ef0 (listed' := #[true, true, true, true, true, true, true, true, true, true, true, true, true, true]) [] rfl (Ef.store_el (us := [.int .i64 R41]) (is' := [.own V_s0 (lc (((((s.set a.toNat R5).set d.toNat R14).set c.toNat R23).set b.toNat R32).set a.toNat R41))]) R41 0 kk3 rfl rfl (idx_get H38).2.2 rfl rfl (Cel.plain rfl rfl) rfl rfl rfl rfl) rfl rfl rfl (fun _ => rfl) (fun _ => ?_)
                  refine TA.nil (by kernel_rfl) ?_
                  exact TE.jb_go () [0] ⟨rfl, rfl, rfl, rfl, rfl, trivial⟩ rfl
              · refine TX.y (listed' := #[true, true, true, true, false, false, true, true, true, true, false, false, false, false]) [] rfl (Y.load_el (us := [.int .i64 E39]) (u := .int .i64 E39) kk3 rfl (Can.own 0 rfl) (idx_get H40).2.2 rfl rfl rfl rfl rfl) rfl rfl rfl rfl rfl ?_
                refine TA.one 4 (by kernel_rfl) ?_
                refine TX.y (listed' := #[true, true, true, true, true, false, true, true, true, true, false, false, false, false]) [] rfl (Y.index ke44 (Can.own 0 rfl) H38 rfl rfl) rfl rfl rfl rfl rfl ?_
                refine TA.one 5 (by kernel_rfl) ?_
                refine TX.y (listed' := #[true, true, true, true, true, true, true, true, true, true, false, false, false, false]) [] rfl (Y.load_el (us := [.int .i64 E37]) (u := .int .i64 E37) kk3 rfl (Can.own 0 rfl) (idx_get H38).2.2 rfl rfl rfl rfl rfl) rfl rfl rfl rfl rfl ?_
                refine TA.y (listed' := #[true, true, true, true, true, true, true, true, true, true, true, false, false, false]) 10 [] rfl (Y.add rfl rfl) rfl rfl rfl (by kernel_rfl) (by kernel_rfl) (by kernel_rfl) rfl rfl ?_
                refine TA.one 11 (by kernel_rfl) ?_
                refine TX.ef (listed' := #[true, true, true, true, true, true, true, true, true, true, true, true, false, false]) [] rfl (Ef.call (rest := [.own V_s0 (lc ((((s.set a.toNat R5).set d.toNat R14).set c.toNat R23).set b.toNat R32))]) [0] (spec_l3Word_con (IntKind.i64.wrap (E37 + E39))  R41 H42) kc47 rfl rfl trivial) rfl rfl rfl rfl (fun _ => rfl) (fun _ => ?_)
                refine TA.one 12 (by kernel_rfl) ?_
                refine TX.y (listed' := #[true, true, true, true, true, true, true, true, true, true, true, true, true, false]) [] rfl (Y.index ke44 (Can.own 0 rfl) H38 rfl rfl) rfl rfl rfl rfl rfl ?_
                refine TA.one 13 (by kernel_rfl) ?_
                refine TX.ef0 (listed' := #[true, true, true, true, true, true, true, true, true, true, true, true, true, true]) [] rfl (Ef.store_el (us := [.int .i64 R41]) (is' := [.own V_s0 (lc (((((s.set a.toNat R5).set d.toNat R14).set c.toNat R23).set b.toNat R32).set a.toNat R41))]) R41 0 kk3 rfl rfl (idx_get H38).2.2 rfl rfl (Cel.plain rfl rfl) rfl rfl rfl rfl) rfl rfl rfl (fun _ => rfl) (fun _ => ?_)
                refine TA.nil (by kernel_rfl) ?_
                exact TE.jb_go () [0] ⟨rfl, rfl, rfl, rfl, rfl, trivial⟩ rfl
          · refine TE.next ?_
            refine TW.seq ?_
            refine TW.bind fun E46 H47 => ?_
            refine TW.bind fun E48 H49 => ?_
            refine TW.bind fun R50 H51 => ?_
            refine TW.joinU (X := Unit) (fun _ _ => [(0, V_s0), (2, .int .i64 b), (3, .int .i64 c), (4, .int .i64 d)]) (fun _ _ => [.own V_s0 (lc ((((((s.set a.toNat R5).set d.toNat R14).set c.toNat R23).set b.toNat R32).set a.toNat R41).set d.toNat R50))]) ?_ (fun _ X54 => ?_)
            · refine TW.draw (isH := []) hMix ?_
              refine TA.y (listed' := #[true, false, false, false, false, false, false, false, false, false, false, false, false, false]) 0 [] rfl (Y.move rfl) rfl rfl rfl (by kernel_rfl) (by kernel_rfl) (by kernel_rfl) rfl rfl ?_
              refine TA.y (listed' := #[true, true, false, false, false, false, false, false, false, false, false, false, false, false]) 1 [] rfl (Y.move rfl) rfl rfl rfl (by kernel_rfl) (by kernel_rfl) (by kernel_rfl) rfl rfl ?_
              refine TA.y (listed' := #[true, true, true, false, false, false, false, false, false, false, false, false, false, false]) 2 [] rfl (Y.move rfl) rfl rfl rfl (by kernel_rfl) (by kernel_rfl) (by kernel_rfl) rfl rfl ?_
              refine TA.y (listed' := #[true, true, true, true, false, false, false, false, false, false, false, false, false, false]) 3 [] rfl (Y.move rfl) rfl rfl rfl (by kernel_rfl) (by kernel_rfl) (by kernel_rfl) rfl rfl ?_
              refine TA.y (listed' := #[true, true, true, true, false, false, true, false, false, false, false, false, false, false]) 6 [] rfl (Y.move rfl) rfl rfl rfl (by kernel_rfl) (by kernel_rfl) (by kernel_rfl) rfl rfl ?_
              refine TA.y (listed' := #[true, true, true, true, false, false, true, true, false, false, false, false, false, false]) 7 [] rfl (Y.move rfl) rfl rfl rfl (by kernel_rfl) (by kernel_rfl) (by kernel_rfl) rfl rfl ?_
              refine TA.two 4 8 (by kernel_rfl) ?_ ?_
              · refine TX.y (listed' := #[true, true, true, true, true, false, true, true, false, false, false, false, false, false]) [] rfl (Y.index ke44 (Can.own 0 rfl) H47 rfl rfl) rfl rfl rfl rfl rfl ?_
                refine TA.two 5 8 (by kernel_rfl) ?_ ?_
                · refine TX.y (listed' := #[true, true, true, true, true, true, true, true, false, false, false, false, false, false]) [] rfl (Y.load_el (us := [.int .i64 E46]) (u := .int .i64 E46) kk3 rfl (Can.own 0 rfl) (idx_get H47).2.2 rfl rfl rfl rfl rfl) rfl rfl rfl rfl rfl ?_
                  refine TA.one 8 (by kernel_rfl) ?_
                  refine TX.y (listed' := #[true, true, true, true, true, true, true, true, true, false, false, false, false, false]) [] rfl (Y.index ke44 (Can.own 0 rfl) H49 rfl rfl) rfl rfl rfl rfl rfl ?_
                  refine TA.one 9 (by kernel_rfl) ?_
                  refine TX.y (listed' := #[true, true, true, true, true, true, true, true, true, true, false, false, false, false]) [] rfl (Y.load_el (us := [.int .i64 E48]) (u := .int .i64 E48) kk3 rfl (Can.own 0 rfl) (idx_get H49).2.2 rfl rfl rfl rfl rfl) rfl rfl rfl rfl rfl ?_
                  refine TA.y (listed' := #[true, true, true, true, true, true, true, true, true, true, true, false, false, false]) 10 [] rfl (Y.xor rfl rfl) rfl rfl rfl (by kernel_rfl) (by kernel_rfl) (by kernel_rfl) rfl rfl ?_
                  refine TA.one 11 (by kernel_rfl) ?_
                  refine TX.ef (listed' := #[true, true, true, true, true, true, true, true, true, true, true, true, false, false]) [] rfl (Ef.call (rest := [.own V_s0 (lc (((((s.set a.toNat R5).set d.toNat R14).set c.toNat R23).set b.toNat R32).set a.toNat R41))]) [0] (spec_l3Left_con (ixor .i64 E46 E48) (8 : Int)  R50 H51) kc48 rfl rfl trivial) rfl rfl rfl rfl (fun _ => rfl) (fun _ => ?_)
                  refine TA.one 12 (by kernel_rfl) ?_
                  refine TX.y (listed' := #[true, true, true, true, true, true, true, true, true, true, true, true, true, false]) [] rfl (Y.index ke44 (Can.own 0 rfl) H47 rfl rfl) rfl rfl rfl rfl rfl ?_
                  refine TA.one 13 (by kernel_rfl) ?_
                  refine TX.ef0 (listed' := #[true, true, true, true, true, true, true, true, true, true, true, true, true, true]) [] rfl (Ef.store_el (us := [.int .i64 R50]) (is' := [.own V_s0 (lc ((((((s.set a.toNat R5).set d.toNat R14).set c.toNat R23).set b.toNat R32).set a.toNat R41).set d.toNat R50))]) R50 0 kk3 rfl rfl (idx_get H47).2.2 rfl rfl (Cel.plain rfl rfl) rfl rfl rfl rfl) rfl rfl rfl (fun _ => rfl) (fun _ => ?_)
                  refine TA.nil (by kernel_rfl) ?_
                  exact TE.jb_go () [0] ⟨rfl, rfl, rfl, rfl, trivial⟩ rfl
                · refine TX.y (listed' := #[true, true, true, true, true, false, true, true, true, false, false, false, false, false]) [] rfl (Y.index ke44 (Can.own 0 rfl) H49 rfl rfl) rfl rfl rfl rfl rfl ?_
                  refine TA.two 5 9 (by kernel_rfl) ?_ ?_
                  · refine TX.y (listed' := #[true, true, true, true, true, true, true, true, true, false, false, false, false, false]) [] rfl (Y.load_el (us := [.int .i64 E46]) (u := .int .i64 E46) kk3 rfl (Can.own 0 rfl) (idx_get H47).2.2 rfl rfl rfl rfl rfl) rfl rfl rfl rfl rfl ?_
                    refine TA.one 9 (by kernel_rfl) ?_
                    refine TX.y (listed' := #[true, true, true, true, true, true, true, true, true, true, false, false, false, false]) [] rfl (Y.load_el (us := [.int .i64 E48]) (u := .int .i64 E48) kk3 rfl (Can.own 0 rfl) (idx_get H49).2.2 rfl rfl rfl rfl rfl) rfl rfl rfl rfl rfl ?_
                    refine TA.y (listed' := #[true, true, true, true, true, true, true, true, true, true, true, false, false, false]) 10 [] rfl (Y.xor rfl rfl) rfl rfl rfl (by kernel_rfl) (by kernel_rfl) (by kernel_rfl) rfl rfl ?_
                    refine TA.one 11 (by kernel_rfl) ?_
                    refine TX.ef (listed' := #[true, true, true, true, true, true, true, true, true, true, true, true, false, false]) [] rfl (Ef.call (rest := [.own V_s0 (lc (((((s.set a.toNat R5).set d.toNat R14).set c.toNat R23).set b.toNat R32).set a.toNat R41))]) [0] (spec_l3Left_con (ixor .i64 E46 E48) (8 : Int)  R50 H51) kc48 rfl rfl trivial) rfl rfl rfl rfl (fun _ => rfl) (fun _ => ?_)
                    refine TA.one 12 (by kernel_rfl) ?_
                    refine TX.y (listed' := #[true, true, true, true, true, true, true, true, true, true, true, true, true, false]) [] rfl (Y.index ke44 (Can.own 0 rfl) H47 rfl rfl) rfl rfl rfl rfl rfl ?_
                    refine TA.one 13 (by kernel_rfl) ?_
                    refine TX.ef0 (listed' := #[true, true, true, true, true, true, true, true, true, true, true, true, true, true]) [] rfl (Ef.store_el (us := [.int .i64 R50]) (is' := [.own V_s0 (lc ((((((s.set a.toNat R5).set d.toNat R14).set c.toNat R23).set b.toNat R32).set a.toNat R41).set d.toNat R50))]) R50 0 kk3 rfl rfl (idx_get H47).2.2 rfl rfl (Cel.plain rfl rfl) rfl rfl rfl rfl) rfl rfl rfl (fun _ => rfl) (fun _ => ?_)
                    refine TA.nil (by kernel_rfl) ?_
                    exact TE.jb_go () [0] ⟨rfl, rfl, rfl, rfl, trivial⟩ rfl
                  · refine TX.y (listed' := #[true, true, true, true, true, false, true, true, true, true, false, false, false, false]) [] rfl (Y.load_el (us := [.int .i64 E48]) (u := .int .i64 E48) kk3 rfl (Can.own 0 rfl) (idx_get H49).2.2 rfl rfl rfl rfl rfl) rfl rfl rfl rfl rfl ?_
                    refine TA.one 5 (by kernel_rfl) ?_
                    refine TX.y (listed' := #[true, true, true, true, true, true, true, true, true, true, false, false, false, false]) [] rfl (Y.load_el (us := [.int .i64 E46]) (u := .int .i64 E46) kk3 rfl (Can.own 0 rfl) (idx_get H47).2.2 rfl rfl rfl rfl rfl) rfl rfl rfl rfl rfl ?_
                    refine TA.y (listed' := #[true, true, true, true, true, true, true, true, true, true, true, false, false, false]) 10 [] rfl (Y.xor rfl rfl) rfl rfl rfl (by kernel_rfl) (by kernel_rfl) (by kernel_rfl) rfl rfl ?_
                    refine TA.one 11 (by kernel_rfl) ?_
                    refine TX.ef (listed' := #[true, true, true, true, true, true, true, true, true, true, true, true, false, false]) [] rfl (Ef.call (rest := [.own V_s0 (lc (((((s.set a.toNat R5).set d.toNat R14).set c.toNat R23).set b.toNat R32).set a.toNat R41))]) [0] (spec_l3Left_con (ixor .i64 E46 E48) (8 : Int)  R50 H51) kc48 rfl rfl trivial) rfl rfl rfl rfl (fun _ => rfl) (fun _ => ?_)
                    refine TA.one 12 (by kernel_rfl) ?_
                    refine TX.y (listed' := #[true, true, true, true, true, true, true, true, true, true, true, true, true, false]) [] rfl (Y.index ke44 (Can.own 0 rfl) H47 rfl rfl) rfl rfl rfl rfl rfl ?_
                    refine TA.one 13 (by kernel_rfl) ?_
                    refine TX.ef0 (listed' := #[true, true, true, true, true, true, true, true, true, true, true, true, true, true]) [] rfl (Ef.store_el (us := [.int .i64 R50]) (is' := [.own V_s0 (lc ((((((s.set a.toNat R5).set d.toNat R14).set c.toNat R23).set b.toNat R32).set a.toNat R41).set d.toNat R50))]) R50 0 kk3 rfl rfl (idx_get H47).2.2 rfl rfl (Cel.plain rfl rfl) rfl rfl rfl rfl) rfl rfl rfl (fun _ => rfl) (fun _ => ?_)
                    refine TA.nil (by kernel_rfl) ?_
                    exact TE.jb_go () [0] ⟨rfl, rfl, rfl, rfl, trivial⟩ rfl
              · refine TX.y (listed' := #[true, true, true, true, false, false, true, true, true, false, false, false, false, false]) [] rfl (Y.index ke44 (Can.own 0 rfl) H49 rfl rfl) rfl rfl rfl rfl rfl ?_
                refine TA.two 4 9 (by kernel_rfl) ?_ ?_
                · refine TX.y (listed' := #[true, true, true, true, true, false, true, true, true, false, false, false, false, false]) [] rfl (Y.index ke44 (Can.own 0 rfl) H47 rfl rfl) rfl rfl rfl rfl rfl ?_
                  refine TA.two 5 9 (by kernel_rfl) ?_ ?_
                  · refine TX.y (listed' := #[true, true, true, true, true, true, true, true, true, false, false, false, false, false]) [] rfl (Y.load_el (us := [.int .i64 E46]) (u := .int .i64 E46) kk3 rfl (Can.own 0 rfl) (idx_get H47).2.2 rfl rfl rfl rfl rfl) rfl rfl rfl rfl rfl ?_
                    refine TA.one 9 (by kernel_rfl) ?_
                    refine TX.y (listed' := #[true, true, true, true, true, true, true, true, true, true, false, false, false, false]) [] rfl (Y.load_el (us := [.int .i64 E48]) (u := .int .i64 E48) kk3 rfl (Can.own 0 rfl) (idx_get H49).2.2 rfl rfl rfl rfl rfl) rfl rfl rfl rfl rfl ?_
                    refine TA.y (listed' := #[true, true, true, true, true, true, true, true, true, true, true, false, false, false]) 10 [] rfl (Y.xor rfl rfl) rfl rfl rfl (by kernel_rfl) (by kernel_rfl) (by kernel_rfl) rfl rfl ?_
                    refine TA.one 11 (by kernel_rfl) ?_
                    refine TX.ef (listed' := #[true, true, true, true, true, true, true, true, true, true, true, true, false, false]) [] rfl (Ef.call (rest := [.own V_s0 (lc (((((s.set a.toNat R5).set d.toNat R14).set c.toNat R23).set b.toNat R32).set a.toNat R41))]) [0] (spec_l3Left_con (ixor .i64 E46 E48) (8 : Int)  R50 H51) kc48 rfl rfl trivial) rfl rfl rfl rfl (fun _ => rfl) (fun _ => ?_)
                    refine TA.one 12 (by kernel_rfl) ?_
                    refine TX.y (listed' := #[true, true, true, true, true, true, true, true, true, true, true, true, true, false]) [] rfl (Y.index ke44 (Can.own 0 rfl) H47 rfl rfl) rfl rfl rfl rfl rfl ?_
                    refine TA.one 13 (by kernel_rfl) ?_
                    refine TX.ef0 (listed' := #[true, true, true, true, true, true, true, true, true, true, true, true, true, true]) [] rfl (Ef.store_el (us := [.int .i64 R50]) (is' := [.own V_s0 (lc ((((((s.set a.toNat R5).set d.toNat R14).set c.toNat R23).set b.toNat R32).set a.toNat R41).set d.toNat R50))]) R50 0 kk3 rfl rfl (idx_get H47).2.2 rfl rfl (Cel.plain rfl rfl) rfl rfl rfl rfl) rfl rfl rfl (fun _ => rfl) (fun _ => ?_)
                    refine TA.nil (by kernel_rfl) ?_
                    exact TE.jb_go () [0] ⟨rfl, rfl, rfl, rfl, trivial⟩ rfl
                  · refine TX.y (listed' := #[true, true, true, true, true, false, true, true, true, true, false, false, false, false]) [] rfl (Y.load_el (us := [.int .i64 E48]) (u := .int .i64 E48) kk3 rfl (Can.own 0 rfl) (idx_get H49).2.2 rfl rfl rfl rfl rfl) rfl rfl rfl rfl rfl ?_
                    refine TA.one 5 (by kernel_rfl) ?_
                    refine TX.y (listed' := #[true, true, true, true, true, true, true, true, true, true, false, false, false, false]) [] rfl (Y.load_el (us := [.int .i64 E46]) (u := .int .i64 E46) kk3 rfl (Can.own 0 rfl) (idx_get H47).2.2 rfl rfl rfl rfl rfl) rfl rfl rfl rfl rfl ?_
                    refine TA.y (listed' := #[true, true, true, true, true, true, true, true, true, true, true, false, false, false]) 10 [] rfl (Y.xor rfl rfl) rfl rfl rfl (by kernel_rfl) (by kernel_rfl) (by kernel_rfl) rfl rfl ?_
                    refine TA.one 11 (by kernel_rfl) ?_
                    refine TX.ef (listed' := #[true, true, true, true, true, true, true, true, true, true, true, true, false, false]) [] rfl (Ef.call (rest := [.own V_s0 (lc (((((s.set a.toNat R5).set d.toNat R14).set c.toNat R23).set b.toNat R32).set a.toNat R41))]) [0] (spec_l3Left_con (ixor .i64 E46 E48) (8 : Int)  R50 H51) kc48 rfl rfl trivial) rfl rfl rfl rfl (fun _ => rfl) (fun _ => ?_)
                    refine TA.one 12 (by kernel_rfl) ?_
                    refine TX.y (listed' := #[true, true, true, true, true, true, true, true, true, true, true, true, true, false]) [] rfl (Y.index ke44 (Can.own 0 rfl) H47 rfl rfl) rfl rfl rfl rfl rfl ?_
                    refine TA.one 13 (by kernel_rfl) ?_
                    refine TX.ef0 (listed' := #[true, true, true, true, true, true, true, true, true, true, true, true, true, true]) [] rfl (Ef.store_el (us := [.int .i64 R50]) (is' := [.own V_s0 (lc ((((((s.set a.toNat R5).set d.toNat R14).set c.toNat R23).set b.toNat R32).set a.toNat R41).set d.toNat R50))]) R50 0 kk3 rfl rfl (idx_get H47).2.2 rfl rfl (Cel.plain rfl rfl) rfl rfl rfl rfl) rfl rfl rfl (fun _ => rfl) (fun _ => ?_)
                    refine TA.nil (by kernel_rfl) ?_
                    exact TE.jb_go () [0] ⟨rfl, rfl, rfl, rfl, trivial⟩ rfl
                · refine TX.y (listed' := #[true, true, true, true, false, false, true, true, true, true, false, false, false, false]) [] rfl (Y.load_el (us := [.int .i64 E48]) (u := .int .i64 E48) kk3 rfl (Can.own 0 rfl) (idx_get H49).2.2 rfl rfl rfl rfl rfl) rfl rfl rfl rfl rfl ?_
                  refine TA.one 4 (by kernel_rfl) ?_
                  refine TX.y (listed' := #[true, true, true, true, true, false, true, true, true, true, false, false, false, false]) [] rfl (Y.index ke44 (Can.own 0 rfl) H47 rfl rfl) rfl rfl rfl rfl rfl ?_
                  refine TA.one 5 (by kernel_rfl) ?_
                  refine TX.y (listed' := #[true, true, true, true, true, true, true, true, true, true, false, false, false, false]) [] rfl (Y.load_el (us := [.int .i64 E46]) (u := .int .i64 E46) kk3 rfl (Can.own 0 rfl) (idx_get H47).2.2 rfl rfl rfl rfl rfl) rfl rfl rfl rfl rfl ?_
                  refine TA.y (listed' := #[true, true, true, true, true, true, true, true, true, true, true, false, false, false]) 10 [] rfl (Y.xor rfl rfl) rfl rfl rfl (by kernel_rfl) (by kernel_rfl) (by kernel_rfl) rfl rfl ?_
                  refine TA.one 11 (by kernel_rfl) ?_
                  refine TX.ef (listed' := #[true, true, true, true, true, true, true, true, true, true, true, true, false, false]) [] rfl (Ef.call (rest := [.own V_s0 (lc (((((s.set a.toNat R5).set d.toNat R14).set c.toNat R23).set b.toNat R32).set a.toNat R41))]) [0] (spec_l3Left_con (ixor .i64 E46 E48) (8 : Int)  R50 H51) kc48 rfl rfl trivial) rfl rfl rfl rfl (fun _ => rfl) (fun _ => ?_)
                  refine TA.one 12 (by kernel_rfl) ?_
                  refine TX.y (listed' := #[true, true, true, true, true, true, true, true, true, true, true, true, true, false]) [] rfl (Y.index ke44 (Can.own 0 rfl) H47 rfl rfl) rfl rfl rfl rfl rfl ?_
                  refine TA.one 13 (by kernel_rfl) ?_
                  refine TX.ef0 (listed' := #[true, true, true, true, true, true, true, true, true, true, true, true, true, true]) [] rfl (Ef.store_el (us := [.int .i64 R50]) (is' := [.own V_s0 (lc ((((((s.set a.toNat R5).set d.toNat R14).set c.toNat R23).set b.toNat R32).set a.toNat R41).set d.toNat R50))]) R50 0 kk3 rfl rfl (idx_get H47).2.2 rfl rfl (Cel.plain rfl rfl) rfl rfl rfl rfl) rfl rfl rfl (fun _ => rfl) (fun _ => ?_)
                  refine TA.nil (by kernel_rfl) ?_
                  exact TE.jb_go () [0] ⟨rfl, rfl, rfl, rfl, trivial⟩ rfl
            · refine TE.next ?_
              refine TW.seq ?_
              refine TW.bind fun E55 H56 => ?_
              refine TW.bind fun E57 H58 => ?_
              refine TW.bind fun R59 H60 => ?_
              refine TW.joinU (X := Unit) (fun _ _ => [(0, V_s0), (2, .int .i64 b), (3, .int .i64 c)]) (fun _ _ => [.own V_s0 (lc (((((((s.set a.toNat R5).set d.toNat R14).set c.toNat R23).set b.toNat R32).set a.toNat R41).set d.toNat R50).set c.toNat R59))]) ?_ (fun _ X63 => ?_)
              · refine TW.draw (isH := []) hMix ?_
                refine TA.y (listed' := #[true, false, false, false, false, false, false, false, false, false, false, false, false, false]) 0 [] rfl (Y.move rfl) rfl rfl rfl (by kernel_rfl) (by kernel_rfl) (by kernel_rfl) rfl rfl ?_
                refine TA.y (listed' := #[true, true, false, false, false, false, false, false, false, false, false, false, false, false]) 1 [] rfl (Y.move rfl) rfl rfl rfl (by kernel_rfl) (by kernel_rfl) (by kernel_rfl) rfl rfl ?_
                refine TA.y (listed' := #[true, true, true, false, false, false, false, false, false, false, false, false, false, false]) 2 [] rfl (Y.move rfl) rfl rfl rfl (by kernel_rfl) (by kernel_rfl) (by kernel_rfl) rfl rfl ?_
                refine TA.y (listed' := #[true, true, true, true, false, false, false, false, false, false, false, false, false, false]) 3 [] rfl (Y.move rfl) rfl rfl rfl (by kernel_rfl) (by kernel_rfl) (by kernel_rfl) rfl rfl ?_
                refine TA.y (listed' := #[true, true, true, true, false, false, true, false, false, false, false, false, false, false]) 6 [] rfl (Y.move rfl) rfl rfl rfl (by kernel_rfl) (by kernel_rfl) (by kernel_rfl) rfl rfl ?_
                refine TA.y (listed' := #[true, true, true, true, false, false, true, true, false, false, false, false, false, false]) 7 [] rfl (Y.move rfl) rfl rfl rfl (by kernel_rfl) (by kernel_rfl) (by kernel_rfl) rfl rfl ?_
                refine TA.two 4 8 (by kernel_rfl) ?_ ?_
                · refine TX.y (listed' := #[true, true, true, true, true, false, true, true, false, false, false, false, false, false]) [] rfl (Y.index ke44 (Can.own 0 rfl) H56 rfl rfl) rfl rfl rfl rfl rfl ?_
                  refine TA.two 5 8 (by kernel_rfl) ?_ ?_
                  · refine TX.y (listed' := #[true, true, true, true, true, true, true, true, false, false, false, false, false, false]) [] rfl (Y.load_el (us := [.int .i64 E55]) (u := .int .i64 E55) kk3 rfl (Can.own 0 rfl) (idx_get H56).2.2 rfl rfl rfl rfl rfl) rfl rfl rfl rfl rfl ?_
                    refine TA.one 8 (by kernel_rfl) ?_
                    refine TX.y (listed' := #[true, true, true, true, true, true, true, true, true, false, false, false, false, false]) [] rfl (Y.index ke44 (Can.own 0 rfl) H58 rfl rfl) rfl rfl rfl rfl rfl ?_
                    refine TA.one 9 (by kernel_rfl) ?_
                    refine TX.y (listed' := #[true, true, true, true, true, true, true, true, true, true, false, false, false, false]) [] rfl (Y.load_el (us := [.int .i64 E57]) (u := .int .i64 E57) kk3 rfl (Can.own 0 rfl) (idx_get H58).2.2 rfl rfl rfl rfl rfl) rfl rfl rfl rfl rfl ?_
                    refine TA.y (listed' := #[true, true, true, true, true, true, true, true, true, true, true, false, false, false]) 10 [] rfl (Y.add rfl rfl) rfl rfl rfl (by kernel_rfl) (by kernel_rfl) (by kernel_rfl) rfl rfl ?_
                    refine TA.one 11 (by kernel_rfl) ?_
                    refine TX.ef (listed' := #[true, true, true, true, true, true, true, true, true, true, true, true, false, false]) [] rfl (Ef.call (rest := [.own V_s0 (lc ((((((s.set a.toNat R5).set d.toNat R14).set c.toNat R23).set b.toNat R32).set a.toNat R41).set d.toNat R50))]) [0] (spec_l3Word_con (IntKind.i64.wrap (E55 + E57))  R59 H60) kc47 rfl rfl trivial) rfl rfl rfl rfl (fun _ => rfl) (fun _ => ?_)
                    refine TA.one 12 (by kernel_rfl) ?_
                    refine TX.y (listed' := #[true, true, true, true, true, true, true, true, true, true, true, true, true, false]) [] rfl (Y.index ke44 (Can.own 0 rfl) H56 rfl rfl) rfl rfl rfl rfl rfl ?_
                    refine TA.one 13 (by kernel_rfl) ?_
                    refine TX.ef0 (listed' := #[true, true, true, true, true, true, true, true, true, true, true, true, true, true]) [] rfl (Ef.store_el (us := [.int .i64 R59]) (is' := [.own V_s0 (lc (((((((s.set a.toNat R5).set d.toNat R14).set c.toNat R23).set b.toNat R32).set a.toNat R41).set d.toNat R50).set c.toNat R59))]) R59 0 kk3 rfl rfl (idx_get H56).2.2 rfl rfl (Cel.plain rfl rfl) rfl rfl rfl rfl) rfl rfl rfl (fun _ => rfl) (fun _ => ?_)
                    refine TA.nil (by kernel_rfl) ?_
                    exact TE.jb_go () [0] ⟨rfl, rfl, rfl, trivial⟩ rfl
                  · refine TX.y (listed' := #[true, true, true, true, true, false, true, true, true, false, false, false, false, false]) [] rfl (Y.index ke44 (Can.own 0 rfl) H58 rfl rfl) rfl rfl rfl rfl rfl ?_
                    refine TA.two 5 9 (by kernel_rfl) ?_ ?_
                    · refine TX.y (listed' := #[true, true, true, true, true, true, true, true, true, false, false, false, false, false]) [] rfl (Y.load_el (us := [.int .i64 E55]) (u := .int .i64 E55) kk3 rfl (Can.own 0 rfl) (idx_get H56).2.2 rfl rfl rfl rfl rfl) rfl rfl rfl rfl rfl ?_
                      refine TA.one 9 (by kernel_rfl) ?_
                      refine TX.y (listed' := #[true, true, true, true, true, true, true, true, true, true, false, false, false, false]) [] rfl (Y.load_el (us := [.int .i64 E57]) (u := .int .i64 E57) kk3 rfl (Can.own 0 rfl) (idx_get H58).2.2 rfl rfl rfl rfl rfl) rfl rfl rfl rfl rfl ?_
                      refine TA.y (listed' := #[true, true, true, true, true, true, true, true, true, true, true, false, false, false]) 10 [] rfl (Y.add rfl rfl) rfl rfl rfl (by kernel_rfl) (by kernel_rfl) (by kernel_rfl) rfl rfl ?_
                      refine TA.one 11 (by kernel_rfl) ?_
                      refine TX.ef (listed' := #[true, true, true, true, true, true, true, true, true, true, true, true, false, false]) [] rfl (Ef.call (rest := [.own V_s0 (lc ((((((s.set a.toNat R5).set d.toNat R14).set c.toNat R23).set b.toNat R32).set a.toNat R41).set d.toNat R50))]) [0] (spec_l3Word_con (IntKind.i64.wrap (E55 + E57))  R59 H60) kc47 rfl rfl trivial) rfl rfl rfl rfl (fun _ => rfl) (fun _ => ?_)
                      refine TA.one 12 (by kernel_rfl) ?_
                      refine TX.y (listed' := #[true, true, true, true, true, true, true, true, true, true, true, true, true, false]) [] rfl (Y.index ke44 (Can.own 0 rfl) H56 rfl rfl) rfl rfl rfl rfl rfl ?_
                      refine TA.one 13 (by kernel_rfl) ?_
                      refine TX.ef0 (listed' := #[true, true, true, true, true, true, true, true, true, true, true, true, true, true]) [] rfl (Ef.store_el (us := [.int .i64 R59]) (is' := [.own V_s0 (lc (((((((s.set a.toNat R5).set d.toNat R14).set c.toNat R23).set b.toNat R32).set a.toNat R41).set d.toNat R50).set c.toNat R59))]) R59 0 kk3 rfl rfl (idx_get H56).2.2 rfl rfl (Cel.plain rfl rfl) rfl rfl rfl rfl) rfl rfl rfl (fun _ => rfl) (fun _ => ?_)
                      refine TA.nil (by kernel_rfl) ?_
                      exact TE.jb_go () [0] ⟨rfl, rfl, rfl, trivial⟩ rfl
                    · refine TX.y (listed' := #[true, true, true, true, true, false, true, true, true, true, false, false, false, false]) [] rfl (Y.load_el (us := [.int .i64 E57]) (u := .int .i64 E57) kk3 rfl (Can.own 0 rfl) (idx_get H58).2.2 rfl rfl rfl rfl rfl) rfl rfl rfl rfl rfl ?_
                      refine TA.one 5 (by kernel_rfl) ?_
                      refine TX.y (listed' := #[true, true, true, true, true, true, true, true, true, true, false, false, false, false]) [] rfl (Y.load_el (us := [.int .i64 E55]) (u := .int .i64 E55) kk3 rfl (Can.own 0 rfl) (idx_get H56).2.2 rfl rfl rfl rfl rfl) rfl rfl rfl rfl rfl ?_
                      refine TA.y (listed' := #[true, true, true, true, true, true, true, true, true, true, true, false, false, false]) 10 [] rfl (Y.add rfl rfl) rfl rfl rfl (by kernel_rfl) (by kernel_rfl) (by kernel_rfl) rfl rfl ?_
                      refine TA.one 11 (by kernel_rfl) ?_
                      refine TX.ef (listed' := #[true, true, true, true, true, true, true, true, true, true, true, true, false, false]) [] rfl (Ef.call (rest := [.own V_s0 (lc ((((((s.set a.toNat R5).set d.toNat R14).set c.toNat R23).set b.toNat R32).set a.toNat R41).set d.toNat R50))]) [0] (spec_l3Word_con (IntKind.i64.wrap (E55 + E57))  R59 H60) kc47 rfl rfl trivial) rfl rfl rfl rfl (fun _ => rfl) (fun _ => ?_)
                      refine TA.one 12 (by kernel_rfl) ?_
                      refine TX.y (listed' := #[true, true, true, true, true, true, true, true, true, true, true, true, true, false]) [] rfl (Y.index ke44 (Can.own 0 rfl) H56 rfl rfl) rfl rfl rfl rfl rfl ?_
                      refine TA.one 13 (by kernel_rfl) ?_
                      refine TX.ef0 (listed' := #[true, true, true, true, true, true, true, true, true, true, true, true, true, true]) [] rfl (Ef.store_el (us := [.int .i64 R59]) (is' := [.own V_s0 (lc (((((((s.set a.toNat R5).set d.toNat R14).set c.toNat R23).set b.toNat R32).set a.toNat R41).set d.toNat R50).set c.toNat R59))]) R59 0 kk3 rfl rfl (idx_get H56).2.2 rfl rfl (Cel.plain rfl rfl) rfl rfl rfl rfl) rfl rfl rfl (fun _ => rfl) (fun _ => ?_)
                      refine TA.nil (by kernel_rfl) ?_
                      exact TE.jb_go () [0] ⟨rfl, rfl, rfl, trivial⟩ rfl
                · refine TX.y (listed' := #[true, true, true, true, false, false, true, true, true, false, false, false, false, false]) [] rfl (Y.index ke44 (Can.own 0 rfl) H58 rfl rfl) rfl rfl rfl rfl rfl ?_
                  refine TA.two 4 9 (by kernel_rfl) ?_ ?_
                  · refine TX.y (listed' := #[true, true, true, true, true, false, true, true, true, false, false, false, false, false]) [] rfl (Y.index ke44 (Can.own 0 rfl) H56 rfl rfl) rfl rfl rfl rfl rfl ?_
                    refine TA.two 5 9 (by kernel_rfl) ?_ ?_
                    · refine TX.y (listed' := #[true, true, true, true, true, true, true, true, true, false, false, false, false, false]) [] rfl (Y.load_el (us := [.int .i64 E55]) (u := .int .i64 E55) kk3 rfl (Can.own 0 rfl) (idx_get H56).2.2 rfl rfl rfl rfl rfl) rfl rfl rfl rfl rfl ?_
                      refine TA.one 9 (by kernel_rfl) ?_
                      refine TX.y (listed' := #[true, true, true, true, true, true, true, true, true, true, false, false, false, false]) [] rfl (Y.load_el (us := [.int .i64 E57]) (u := .int .i64 E57) kk3 rfl (Can.own 0 rfl) (idx_get H58).2.2 rfl rfl rfl rfl rfl) rfl rfl rfl rfl rfl ?_
                      refine TA.y (listed' := #[true, true, true, true, true, true, true, true, true, true, true, false, false, false]) 10 [] rfl (Y.add rfl rfl) rfl rfl rfl (by kernel_rfl) (by kernel_rfl) (by kernel_rfl) rfl rfl ?_
                      refine TA.one 11 (by kernel_rfl) ?_
                      refine TX.ef (listed' := #[true, true, true, true, true, true, true, true, true, true, true, true, false, false]) [] rfl (Ef.call (rest := [.own V_s0 (lc ((((((s.set a.toNat R5).set d.toNat R14).set c.toNat R23).set b.toNat R32).set a.toNat R41).set d.toNat R50))]) [0] (spec_l3Word_con (IntKind.i64.wrap (E55 + E57))  R59 H60) kc47 rfl rfl trivial) rfl rfl rfl rfl (fun _ => rfl) (fun _ => ?_)
                      refine TA.one 12 (by kernel_rfl) ?_
                      refine TX.y (listed' := #[true, true, true, true, true, true, true, true, true, true, true, true, true, false]) [] rfl (Y.index ke44 (Can.own 0 rfl) H56 rfl rfl) rfl rfl rfl rfl rfl ?_
                      refine TA.one 13 (by kernel_rfl) ?_
                      refine TX.ef0 (listed' := #[true, true, true, true, true, true, true, true, true, true, true, true, true, true]) [] rfl (Ef.store_el (us := [.int .i64 R59]) (is' := [.own V_s0 (lc (((((((s.set a.toNat R5).set d.toNat R14).set c.toNat R23).set b.toNat R32).set a.toNat R41).set d.toNat R50).set c.toNat R59))]) R59 0 kk3 rfl rfl (idx_get H56).2.2 rfl rfl (Cel.plain rfl rfl) rfl rfl rfl rfl) rfl rfl rfl (fun _ => rfl) (fun _ => ?_)
                      refine TA.nil (by kernel_rfl) ?_
                      exact TE.jb_go () [0] ⟨rfl, rfl, rfl, trivial⟩ rfl
                    · refine TX.y (listed' := #[true, true, true, true, true, false, true, true, true, true, false, false, false, false]) [] rfl (Y.load_el (us := [.int .i64 E57]) (u := .int .i64 E57) kk3 rfl (Can.own 0 rfl) (idx_get H58).2.2 rfl rfl rfl rfl rfl) rfl rfl rfl rfl rfl ?_
                      refine TA.one 5 (by kernel_rfl) ?_
                      refine TX.y (listed' := #[true, true, true, true, true, true, true, true, true, true, false, false, false, false]) [] rfl (Y.load_el (us := [.int .i64 E55]) (u := .int .i64 E55) kk3 rfl (Can.own 0 rfl) (idx_get H56).2.2 rfl rfl rfl rfl rfl) rfl rfl rfl rfl rfl ?_
                      refine TA.y (listed' := #[true, true, true, true, true, true, true, true, true, true, true, false, false, false]) 10 [] rfl (Y.add rfl rfl) rfl rfl rfl (by kernel_rfl) (by kernel_rfl) (by kernel_rfl) rfl rfl ?_
                      refine TA.one 11 (by kernel_rfl) ?_
                      refine TX.ef (listed' := #[true, true, true, true, true, true, true, true, true, true, true, true, false, false]) [] rfl (Ef.call (rest := [.own V_s0 (lc ((((((s.set a.toNat R5).set d.toNat R14).set c.toNat R23).set b.toNat R32).set a.toNat R41).set d.toNat R50))]) [0] (spec_l3Word_con (IntKind.i64.wrap (E55 + E57))  R59 H60) kc47 rfl rfl trivial) rfl rfl rfl rfl (fun _ => rfl) (fun _ => ?_)
                      refine TA.one 12 (by kernel_rfl) ?_
                      refine TX.y (listed' := #[true, true, true, true, true, true, true, true, true, true, true, true, true, false]) [] rfl (Y.index ke44 (Can.own 0 rfl) H56 rfl rfl) rfl rfl rfl rfl rfl ?_
                      refine TA.one 13 (by kernel_rfl) ?_
                      refine TX.ef0 (listed' := #[true, true, true, true, true, true, true, true, true, true, true, true, true, true]) [] rfl (Ef.store_el (us := [.int .i64 R59]) (is' := [.own V_s0 (lc (((((((s.set a.toNat R5).set d.toNat R14).set c.toNat R23).set b.toNat R32).set a.toNat R41).set d.toNat R50).set c.toNat R59))]) R59 0 kk3 rfl rfl (idx_get H56).2.2 rfl rfl (Cel.plain rfl rfl) rfl rfl rfl rfl) rfl rfl rfl (fun _ => rfl) (fun _ => ?_)
                      refine TA.nil (by kernel_rfl) ?_
                      exact TE.jb_go () [0] ⟨rfl, rfl, rfl, trivial⟩ rfl
                  · refine TX.y (listed' := #[true, true, true, true, false, false, true, true, true, true, false, false, false, false]) [] rfl (Y.load_el (us := [.int .i64 E57]) (u := .int .i64 E57) kk3 rfl (Can.own 0 rfl) (idx_get H58).2.2 rfl rfl rfl rfl rfl) rfl rfl rfl rfl rfl ?_
                    refine TA.one 4 (by kernel_rfl) ?_
                    refine TX.y (listed' := #[true, true, true, true, true, false, true, true, true, true, false, false, false, false]) [] rfl (Y.index ke44 (Can.own 0 rfl) H56 rfl rfl) rfl rfl rfl rfl rfl ?_
                    refine TA.one 5 (by kernel_rfl) ?_
                    refine TX.y (listed' := #[true, true, true, true, true, true, true, true, true, true, false, false, false, false]) [] rfl (Y.load_el (us := [.int .i64 E55]) (u := .int .i64 E55) kk3 rfl (Can.own 0 rfl) (idx_get H56).2.2 rfl rfl rfl rfl rfl) rfl rfl rfl rfl rfl ?_
                    refine TA.y (listed' := #[true, true, true, true, true, true, true, true, true, true, true, false, false, false]) 10 [] rfl (Y.add rfl rfl) rfl rfl rfl (by kernel_rfl) (by kernel_rfl) (by kernel_rfl) rfl rfl ?_
                    refine TA.one 11 (by kernel_rfl) ?_
                    refine TX.ef (listed' := #[true, true, true, true, true, true, true, true, true, true, true, true, false, false]) [] rfl (Ef.call (rest := [.own V_s0 (lc ((((((s.set a.toNat R5).set d.toNat R14).set c.toNat R23).set b.toNat R32).set a.toNat R41).set d.toNat R50))]) [0] (spec_l3Word_con (IntKind.i64.wrap (E55 + E57))  R59 H60) kc47 rfl rfl trivial) rfl rfl rfl rfl (fun _ => rfl) (fun _ => ?_)
                    refine TA.one 12 (by kernel_rfl) ?_
                    refine TX.y (listed' := #[true, true, true, true, true, true, true, true, true, true, true, true, true, false]) [] rfl (Y.index ke44 (Can.own 0 rfl) H56 rfl rfl) rfl rfl rfl rfl rfl ?_
                    refine TA.one 13 (by kernel_rfl) ?_
                    refine TX.ef0 (listed' := #[true, true, true, true, true, true, true, true, true, true, true, true, true, true]) [] rfl (Ef.store_el (us := [.int .i64 R59]) (is' := [.own V_s0 (lc (((((((s.set a.toNat R5).set d.toNat R14).set c.toNat R23).set b.toNat R32).set a.toNat R41).set d.toNat R50).set c.toNat R59))]) R59 0 kk3 rfl rfl (idx_get H56).2.2 rfl rfl (Cel.plain rfl rfl) rfl rfl rfl rfl) rfl rfl rfl (fun _ => rfl) (fun _ => ?_)
                    refine TA.nil (by kernel_rfl) ?_
                    exact TE.jb_go () [0] ⟨rfl, rfl, rfl, trivial⟩ rfl
              · refine TE.next ?_
                refine TW.seq ?_
                refine TW.bind fun E64 H65 => ?_
                refine TW.bind fun E66 H67 => ?_
                refine TW.bind fun R68 H69 => ?_
                refine TW.joinU (X := Unit) (fun _ _ => [(0, V_s0)]) (fun _ _ => [.own V_s0 (lc ((((((((s.set a.toNat R5).set d.toNat R14).set c.toNat R23).set b.toNat R32).set a.toNat R41).set d.toNat R50).set c.toNat R59).set b.toNat R68))]) ?_ (fun _ X72 => ?_)
                · refine TW.draw (isH := []) hMix ?_
                  refine TA.y (listed' := #[true, false, false, false, false, false, false, false, false, false, false, false, false, false]) 0 [] rfl (Y.move rfl) rfl rfl rfl (by kernel_rfl) (by kernel_rfl) (by kernel_rfl) rfl rfl ?_
                  refine TA.y (listed' := #[true, true, false, false, false, false, false, false, false, false, false, false, false, false]) 1 [] rfl (Y.move rfl) rfl rfl rfl (by kernel_rfl) (by kernel_rfl) (by kernel_rfl) rfl rfl ?_
                  refine TA.y (listed' := #[true, true, true, false, false, false, false, false, false, false, false, false, false, false]) 2 [] rfl (Y.move rfl) rfl rfl rfl (by kernel_rfl) (by kernel_rfl) (by kernel_rfl) rfl rfl ?_
                  refine TA.y (listed' := #[true, true, true, true, false, false, false, false, false, false, false, false, false, false]) 3 [] rfl (Y.move rfl) rfl rfl rfl (by kernel_rfl) (by kernel_rfl) (by kernel_rfl) rfl rfl ?_
                  refine TA.y (listed' := #[true, true, true, true, false, false, true, false, false, false, false, false, false, false]) 6 [] rfl (Y.move rfl) rfl rfl rfl (by kernel_rfl) (by kernel_rfl) (by kernel_rfl) rfl rfl ?_
                  refine TA.y (listed' := #[true, true, true, true, false, false, true, true, false, false, false, false, false, false]) 7 [] rfl (Y.move rfl) rfl rfl rfl (by kernel_rfl) (by kernel_rfl) (by kernel_rfl) rfl rfl ?_
                  refine TA.two 4 8 (by kernel_rfl) ?_ ?_
                  · refine TX.y (listed' := #[true, true, true, true, true, false, true, true, false, false, false, false, false, false]) [] rfl (Y.index ke44 (Can.own 0 rfl) H65 rfl rfl) rfl rfl rfl rfl rfl ?_
                    refine TA.two 5 8 (by kernel_rfl) ?_ ?_
                    · refine TX.y (listed' := #[true, true, true, true, true, true, true, true, false, false, false, false, false, false]) [] rfl (Y.load_el (us := [.int .i64 E64]) (u := .int .i64 E64) kk3 rfl (Can.own 0 rfl) (idx_get H65).2.2 rfl rfl rfl rfl rfl) rfl rfl rfl rfl rfl ?_
                      refine TA.one 8 (by kernel_rfl) ?_
                      refine TX.y (listed' := #[true, true, true, true, true, true, true, true, true, false, false, false, false, false]) [] rfl (Y.index ke44 (Can.own 0 rfl) H67 rfl rfl) rfl rfl rfl rfl rfl ?_
                      refine TA.one 9 (by kernel_rfl) ?_
                      refine TX.y (listed' := #[true, true, true, true, true, true, true, true, true, true, false, false, false, false]) [] rfl (Y.load_el (us := [.int .i64 E66]) (u := .int .i64 E66) kk3 rfl (Can.own 0 rfl) (idx_get H67).2.2 rfl rfl rfl rfl rfl) rfl rfl rfl rfl rfl ?_
                      refine TA.y (listed' := #[true, true, true, true, true, true, true, true, true, true, true, false, false, false]) 10 [] rfl (Y.xor rfl rfl) rfl rfl rfl (by kernel_rfl) (by kernel_rfl) (by kernel_rfl) rfl rfl ?_
                      refine TA.one 11 (by kernel_rfl) ?_
                      refine TX.ef (listed' := #[true, true, true, true, true, true, true, true, true, true, true, true, false, false]) [] rfl (Ef.call (rest := [.own V_s0 (lc (((((((s.set a.toNat R5).set d.toNat R14).set c.toNat R23).set b.toNat R32).set a.toNat R41).set d.toNat R50).set c.toNat R59))]) [0] (spec_l3Left_con (ixor .i64 E64 E66) (7 : Int)  R68 H69) kc48 rfl rfl trivial) rfl rfl rfl rfl (fun _ => rfl) (fun _ => ?_)
                      refine TA.one 12 (by kernel_rfl) ?_
                      refine TX.y (listed' := #[true, true, true, true, true, true, true, true, true, true, true, true, true, false]) [] rfl (Y.index ke44 (Can.own 0 rfl) H65 rfl rfl) rfl rfl rfl rfl rfl ?_
                      refine TA.one 13 (by kernel_rfl) ?_
                      refine TX.ef0 (listed' := #[true, true, true, true, true, true, true, true, true, true, true, true, true, true]) [] rfl (Ef.store_el (us := [.int .i64 R68]) (is' := [.own V_s0 (lc ((((((((s.set a.toNat R5).set d.toNat R14).set c.toNat R23).set b.toNat R32).set a.toNat R41).set d.toNat R50).set c.toNat R59).set b.toNat R68))]) R68 0 kk3 rfl rfl (idx_get H65).2.2 rfl rfl (Cel.plain rfl rfl) rfl rfl rfl rfl) rfl rfl rfl (fun _ => rfl) (fun _ => ?_)
                      refine TA.nil (by kernel_rfl) ?_
                      exact TE.jb_go () [0] ⟨rfl, trivial⟩ rfl
                    · refine TX.y (listed' := #[true, true, true, true, true, false, true, true, true, false, false, false, false, false]) [] rfl (Y.index ke44 (Can.own 0 rfl) H67 rfl rfl) rfl rfl rfl rfl rfl ?_
                      refine TA.two 5 9 (by kernel_rfl) ?_ ?_
                      · refine TX.y (listed' := #[true, true, true, true, true, true, true, true, true, false, false, false, false, false]) [] rfl (Y.load_el (us := [.int .i64 E64]) (u := .int .i64 E64) kk3 rfl (Can.own 0 rfl) (idx_get H65).2.2 rfl rfl rfl rfl rfl) rfl rfl rfl rfl rfl ?_
                        refine TA.one 9 (by kernel_rfl) ?_
                        refine TX.y (listed' := #[true, true, true, true, true, true, true, true, true, true, false, false, false, false]) [] rfl (Y.load_el (us := [.int .i64 E66]) (u := .int .i64 E66) kk3 rfl (Can.own 0 rfl) (idx_get H67).2.2 rfl rfl rfl rfl rfl) rfl rfl rfl rfl rfl ?_
                        refine TA.y (listed' := #[true, true, true, true, true, true, true, true, true, true, true, false, false, false]) 10 [] rfl (Y.xor rfl rfl) rfl rfl rfl (by kernel_rfl) (by kernel_rfl) (by kernel_rfl) rfl rfl ?_
                        refine TA.one 11 (by kernel_rfl) ?_
                        refine TX.ef (listed' := #[true, true, true, true, true, true, true, true, true, true, true, true, false, false]) [] rfl (Ef.call (rest := [.own V_s0 (lc (((((((s.set a.toNat R5).set d.toNat R14).set c.toNat R23).set b.toNat R32).set a.toNat R41).set d.toNat R50).set c.toNat R59))]) [0] (spec_l3Left_con (ixor .i64 E64 E66) (7 : Int)  R68 H69) kc48 rfl rfl trivial) rfl rfl rfl rfl (fun _ => rfl) (fun _ => ?_)
                        refine TA.one 12 (by kernel_rfl) ?_
                        refine TX.y (listed' := #[true, true, true, true, true, true, true, true, true, true, true, true, true, false]) [] rfl (Y.index ke44 (Can.own 0 rfl) H65 rfl rfl) rfl rfl rfl rfl rfl ?_
                        refine TA.one 13 (by kernel_rfl) ?_
                        refine TX.ef0 (listed' := #[true, true, true, true, true, true, true, true, true, true, true, true, true, true]) [] rfl (Ef.store_el (us := [.int .i64 R68]) (is' := [.own V_s0 (lc ((((((((s.set a.toNat R5).set d.toNat R14).set c.toNat R23).set b.toNat R32).set a.toNat R41).set d.toNat R50).set c.toNat R59).set b.toNat R68))]) R68 0 kk3 rfl rfl (idx_get H65).2.2 rfl rfl (Cel.plain rfl rfl) rfl rfl rfl rfl) rfl rfl rfl (fun _ => rfl) (fun _ => ?_)
                        refine TA.nil (by kernel_rfl) ?_
                        exact TE.jb_go () [0] ⟨rfl, trivial⟩ rfl
                      · refine TX.y (listed' := #[true, true, true, true, true, false, true, true, true, true, false, false, false, false]) [] rfl (Y.load_el (us := [.int .i64 E66]) (u := .int .i64 E66) kk3 rfl (Can.own 0 rfl) (idx_get H67).2.2 rfl rfl rfl rfl rfl) rfl rfl rfl rfl rfl ?_
                        refine TA.one 5 (by kernel_rfl) ?_
                        refine TX.y (listed' := #[true, true, true, true, true, true, true, true, true, true, false, false, false, false]) [] rfl (Y.load_el (us := [.int .i64 E64]) (u := .int .i64 E64) kk3 rfl (Can.own 0 rfl) (idx_get H65).2.2 rfl rfl rfl rfl rfl) rfl rfl rfl rfl rfl ?_
                        refine TA.y (listed' := #[true, true, true, true, true, true, true, true, true, true, true, false, false, false]) 10 [] rfl (Y.xor rfl rfl) rfl rfl rfl (by kernel_rfl) (by kernel_rfl) (by kernel_rfl) rfl rfl ?_
                        refine TA.one 11 (by kernel_rfl) ?_
                        refine TX.ef (listed' := #[true, true, true, true, true, true, true, true, true, true, true, true, false, false]) [] rfl (Ef.call (rest := [.own V_s0 (lc (((((((s.set a.toNat R5).set d.toNat R14).set c.toNat R23).set b.toNat R32).set a.toNat R41).set d.toNat R50).set c.toNat R59))]) [0] (spec_l3Left_con (ixor .i64 E64 E66) (7 : Int)  R68 H69) kc48 rfl rfl trivial) rfl rfl rfl rfl (fun _ => rfl) (fun _ => ?_)
                        refine TA.one 12 (by kernel_rfl) ?_
                        refine TX.y (listed' := #[true, true, true, true, true, true, true, true, true, true, true, true, true, false]) [] rfl (Y.index ke44 (Can.own 0 rfl) H65 rfl rfl) rfl rfl rfl rfl rfl ?_
                        refine TA.one 13 (by kernel_rfl) ?_
                        refine TX.ef0 (listed' := #[true, true, true, true, true, true, true, true, true, true, true, true, true, true]) [] rfl (Ef.store_el (us := [.int .i64 R68]) (is' := [.own V_s0 (lc ((((((((s.set a.toNat R5).set d.toNat R14).set c.toNat R23).set b.toNat R32).set a.toNat R41).set d.toNat R50).set c.toNat R59).set b.toNat R68))]) R68 0 kk3 rfl rfl (idx_get H65).2.2 rfl rfl (Cel.plain rfl rfl) rfl rfl rfl rfl) rfl rfl rfl (fun _ => rfl) (fun _ => ?_)
                        refine TA.nil (by kernel_rfl) ?_
                        exact TE.jb_go () [0] ⟨rfl, trivial⟩ rfl
                  · refine TX.y (listed' := #[true, true, true, true, false, false, true, true, true, false, false, false, false, false]) [] rfl (Y.index ke44 (Can.own 0 rfl) H67 rfl rfl) rfl rfl rfl rfl rfl ?_
                    refine TA.two 4 9 (by kernel_rfl) ?_ ?_
                    · refine TX.y (listed' := #[true, true, true, true, true, false, true, true, true, false, false, false, false, false]) [] rfl (Y.index ke44 (Can.own 0 rfl) H65 rfl rfl) rfl rfl rfl rfl rfl ?_
                      refine TA.two 5 9 (by kernel_rfl) ?_ ?_
                      · refine TX.y (listed' := #[true, true, true, true, true, true, true, true, true, false, false, false, false, false]) [] rfl (Y.load_el (us := [.int .i64 E64]) (u := .int .i64 E64) kk3 rfl (Can.own 0 rfl) (idx_get H65).2.2 rfl rfl rfl rfl rfl) rfl rfl rfl rfl rfl ?_
                        refine TA.one 9 (by kernel_rfl) ?_
                        refine TX.y (listed' := #[true, true, true, true, true, true, true, true, true, true, false, false, false, false]) [] rfl (Y.load_el (us := [.int .i64 E66]) (u := .int .i64 E66) kk3 rfl (Can.own 0 rfl) (idx_get H67).2.2 rfl rfl rfl rfl rfl) rfl rfl rfl rfl rfl ?_
                        refine TA.y (listed' := #[true, true, true, true, true, true, true, true, true, true, true, false, false, false]) 10 [] rfl (Y.xor rfl rfl) rfl rfl rfl (by kernel_rfl) (by kernel_rfl) (by kernel_rfl) rfl rfl ?_
                        refine TA.one 11 (by kernel_rfl) ?_
                        refine TX.ef (listed' := #[true, true, true, true, true, true, true, true, true, true, true, true, false, false]) [] rfl (Ef.call (rest := [.own V_s0 (lc (((((((s.set a.toNat R5).set d.toNat R14).set c.toNat R23).set b.toNat R32).set a.toNat R41).set d.toNat R50).set c.toNat R59))]) [0] (spec_l3Left_con (ixor .i64 E64 E66) (7 : Int)  R68 H69) kc48 rfl rfl trivial) rfl rfl rfl rfl (fun _ => rfl) (fun _ => ?_)
                        refine TA.one 12 (by kernel_rfl) ?_
                        refine TX.y (listed' := #[true, true, true, true, true, true, true, true, true, true, true, true, true, false]) [] rfl (Y.index ke44 (Can.own 0 rfl) H65 rfl rfl) rfl rfl rfl rfl rfl ?_
                        refine TA.one 13 (by kernel_rfl) ?_
                        refine TX.ef0 (listed' := #[true, true, true, true, true, true, true, true, true, true, true, true, true, true]) [] rfl (Ef.store_el (us := [.int .i64 R68]) (is' := [.own V_s0 (lc ((((((((s.set a.toNat R5).set d.toNat R14).set c.toNat R23).set b.toNat R32).set a.toNat R41).set d.toNat R50).set c.toNat R59).set b.toNat R68))]) R68 0 kk3 rfl rfl (idx_get H65).2.2 rfl rfl (Cel.plain rfl rfl) rfl rfl rfl rfl) rfl rfl rfl (fun _ => rfl) (fun _ => ?_)
                        refine TA.nil (by kernel_rfl) ?_
                        exact TE.jb_go () [0] ⟨rfl, trivial⟩ rfl
                      · refine TX.y (listed' := #[true, true, true, true, true, false, true, true, true, true, false, false, false, false]) [] rfl (Y.load_el (us := [.int .i64 E66]) (u := .int .i64 E66) kk3 rfl (Can.own 0 rfl) (idx_get H67).2.2 rfl rfl rfl rfl rfl) rfl rfl rfl rfl rfl ?_
                        refine TA.one 5 (by kernel_rfl) ?_
                        refine TX.y (listed' := #[true, true, true, true, true, true, true, true, true, true, false, false, false, false]) [] rfl (Y.load_el (us := [.int .i64 E64]) (u := .int .i64 E64) kk3 rfl (Can.own 0 rfl) (idx_get H65).2.2 rfl rfl rfl rfl rfl) rfl rfl rfl rfl rfl ?_
                        refine TA.y (listed' := #[true, true, true, true, true, true, true, true, true, true, true, false, false, false]) 10 [] rfl (Y.xor rfl rfl) rfl rfl rfl (by kernel_rfl) (by kernel_rfl) (by kernel_rfl) rfl rfl ?_
                        refine TA.one 11 (by kernel_rfl) ?_
                        refine TX.ef (listed' := #[true, true, true, true, true, true, true, true, true, true, true, true, false, false]) [] rfl (Ef.call (rest := [.own V_s0 (lc (((((((s.set a.toNat R5).set d.toNat R14).set c.toNat R23).set b.toNat R32).set a.toNat R41).set d.toNat R50).set c.toNat R59))]) [0] (spec_l3Left_con (ixor .i64 E64 E66) (7 : Int)  R68 H69) kc48 rfl rfl trivial) rfl rfl rfl rfl (fun _ => rfl) (fun _ => ?_)
                        refine TA.one 12 (by kernel_rfl) ?_
                        refine TX.y (listed' := #[true, true, true, true, true, true, true, true, true, true, true, true, true, false]) [] rfl (Y.index ke44 (Can.own 0 rfl) H65 rfl rfl) rfl rfl rfl rfl rfl ?_
                        refine TA.one 13 (by kernel_rfl) ?_
                        refine TX.ef0 (listed' := #[true, true, true, true, true, true, true, true, true, true, true, true, true, true]) [] rfl (Ef.store_el (us := [.int .i64 R68]) (is' := [.own V_s0 (lc ((((((((s.set a.toNat R5).set d.toNat R14).set c.toNat R23).set b.toNat R32).set a.toNat R41).set d.toNat R50).set c.toNat R59).set b.toNat R68))]) R68 0 kk3 rfl rfl (idx_get H65).2.2 rfl rfl (Cel.plain rfl rfl) rfl rfl rfl rfl) rfl rfl rfl (fun _ => rfl) (fun _ => ?_)
                        refine TA.nil (by kernel_rfl) ?_
                        exact TE.jb_go () [0] ⟨rfl, trivial⟩ rfl
                    · refine TX.y (listed' := #[true, true, true, true, false, false, true, true, true, true, false, false, false, false]) [] rfl (Y.load_el (us := [.int .i64 E66]) (u := .int .i64 E66) kk3 rfl (Can.own 0 rfl) (idx_get H67).2.2 rfl rfl rfl rfl rfl) rfl rfl rfl rfl rfl ?_
                      refine TA.one 4 (by kernel_rfl) ?_
                      refine TX.y (listed' := #[true, true, true, true, true, false, true, true, true, true, false, false, false, false]) [] rfl (Y.index ke44 (Can.own 0 rfl) H65 rfl rfl) rfl rfl rfl rfl rfl ?_
                      refine TA.one 5 (by kernel_rfl) ?_
                      refine TX.y (listed' := #[true, true, true, true, true, true, true, true, true, true, false, false, false, false]) [] rfl (Y.load_el (us := [.int .i64 E64]) (u := .int .i64 E64) kk3 rfl (Can.own 0 rfl) (idx_get H65).2.2 rfl rfl rfl rfl rfl) rfl rfl rfl rfl rfl ?_
                      refine TA.y (listed' := #[true, true, true, true, true, true, true, true, true, true, true, false, false, false]) 10 [] rfl (Y.xor rfl rfl) rfl rfl rfl (by kernel_rfl) (by kernel_rfl) (by kernel_rfl) rfl rfl ?_
                      refine TA.one 11 (by kernel_rfl) ?_
                      refine TX.ef (listed' := #[true, true, true, true, true, true, true, true, true, true, true, true, false, false]) [] rfl (Ef.call (rest := [.own V_s0 (lc (((((((s.set a.toNat R5).set d.toNat R14).set c.toNat R23).set b.toNat R32).set a.toNat R41).set d.toNat R50).set c.toNat R59))]) [0] (spec_l3Left_con (ixor .i64 E64 E66) (7 : Int)  R68 H69) kc48 rfl rfl trivial) rfl rfl rfl rfl (fun _ => rfl) (fun _ => ?_)
                      refine TA.one 12 (by kernel_rfl) ?_
                      refine TX.y (listed' := #[true, true, true, true, true, true, true, true, true, true, true, true, true, false]) [] rfl (Y.index ke44 (Can.own 0 rfl) H65 rfl rfl) rfl rfl rfl rfl rfl ?_
                      refine TA.one 13 (by kernel_rfl) ?_
                      refine TX.ef0 (listed' := #[true, true, true, true, true, true, true, true, true, true, true, true, true, true]) [] rfl (Ef.store_el (us := [.int .i64 R68]) (is' := [.own V_s0 (lc ((((((((s.set a.toNat R5).set d.toNat R14).set c.toNat R23).set b.toNat R32).set a.toNat R41).set d.toNat R50).set c.toNat R59).set b.toNat R68))]) R68 0 kk3 rfl rfl (idx_get H65).2.2 rfl rfl (Cel.plain rfl rfl) rfl rfl rfl rfl) rfl rfl rfl (fun _ => rfl) (fun _ => ?_)
                      refine TA.nil (by kernel_rfl) ?_
                      exact TE.jb_go () [0] ⟨rfl, trivial⟩ rfl
                · refine TE.next ?_
                  refine TW.seq ?_
                  refine TW.region ?_
                  refine TO.y (Y.move rfl) rfl rfl rfl ?_
                  refine TO.y (Y.assign rfl) rfl rfl rfl ?_
                  refine TO.nil ?_
                  refine TE.next ?_
                  refine TW.ret ?_
                  exact TE.leaf fun _ _ hf_ hs_ => ret_any (rs := [.tmp 10]) (vs := [V_s0]) (.inl rfl) rfl ⟨rfl, trivial⟩ hf_ hs_ ⟨V_s0, rfl, hs_.pulls [0] rfl⟩

/-- loop.example/g00950/spec.l3Block -/
noncomputable def spec_l3Block (key : List UInt8) (counter : Int) (nonce : List UInt8) : Option (List UInt8) :=
  bindC (loopO (fun (S2 : Int × List Int) => if (decide (S2.1 < (8 : Int))) = true then ((spec_l3Little key (IntKind.i64.wrap ((4 : Int) * S2.1))).bind fun R7 =>
  (app 8 S2.2 ([R7])).bind fun E12 =>
  some (.go (IntKind.i64.wrap (S2.1 + (1 : Int)), E12)))
  else (some (.done (.go S2.2))))
  ((0 : Int), ([(1634760805 : Int), (857760878 : Int), (2036477234 : Int), (1797285236 : Int)])))
  (fun (T4 : List Int) => (spec_l3Little nonce (0 : Int)).bind fun R14 =>
  (spec_l3Little nonce (4 : Int)).bind fun R17 =>
  (spec_l3Little nonce (8 : Int)).bind fun R20 =>
  (app 8 T4 ([counter, R14, R17, R20])).bind fun E25 =>
  (app 8 ([] : List Int) E25).bind fun E29 =>
  bindC (loopO (fun (S31 : Int × List Int) => if (decide (S31.1 < (10 : Int))) = true then ((spec_l3Quarter S31.2 (0 : Int) (4 : Int) (8 : Int) (12 : Int)).bind fun R36 =>
  (spec_l3Quarter R36 (1 : Int) (5 : Int) (9 : Int) (13 : Int)).bind fun R39 =>
  (spec_l3Quarter R39 (2 : Int) (6 : Int) (10 : Int) (14 : Int)).bind fun R42 =>
  (spec_l3Quarter R42 (3 : Int) (7 : Int) (11 : Int) (15 : Int)).bind fun R45 =>
  (spec_l3Quarter R45 (0 : Int) (5 : Int) (10 : Int) (15 : Int)).bind fun R48 =>
  (spec_l3Quarter R48 (1 : Int) (6 : Int) (11 : Int) (12 : Int)).bind fun R51 =>
  (spec_l3Quarter R51 (2 : Int) (7 : Int) (8 : Int) (13 : Int)).bind fun R54 =>
  (spec_l3Quarter R54 (3 : Int) (4 : Int) (9 : Int) (14 : Int)).bind fun R57 =>
  some (.go (IntKind.i64.wrap (S31.1 + (1 : Int)), R57)))
  else (some (.done (.go S31.2))))
  ((0 : Int), E29))
  (fun (T33 : List Int) => bindC (loopO (fun (S61 : Int × List UInt8) => if (decide (S61.1 < (16 : Int))) = true then ((idx T33 S61.1).bind fun E66 =>
  (idx E25 S61.1).bind fun E68 =>
  (spec_l3Word (IntKind.i64.wrap (E66 + E68))).bind fun R70 =>
  (app 1 S61.2 ([toU8 (iand .i64 R70 (255 : Int)), toU8 (iand .i64 (ishr .i64 R70 (8 : Int)) (255 : Int)), toU8 (iand .i64 (ishr .i64 R70 (16 : Int)) (255 : Int)), toU8 (ishr .i64 R70 (24 : Int))])).bind fun E75 =>
  some (.go (IntKind.i64.wrap (S61.1 + (1 : Int)), E75)))
  else (some (.done (.go S61.2))))
  ((0 : Int), ([] : List UInt8)))
  (fun (T63 : List UInt8) => some T63)))

theorem spec_l3Block_con (key : List UInt8) (counter : Int) (nonce : List UInt8)  (r : List UInt8) (hm : spec_l3Block key counter nonce = some r) :
    Con Try.prog 42 [strV key, .int .i64 counter, strV nonce] [] [] (fun _ : Unit => strV r) (fun _ => []) := by
  refine Con.intro (args := [strV key, .int .i64 counter, strV nonce]) (n := 93) (val := fun r (_ : Unit) => strV r) (post := fun _ _ => []) (m := spec_l3Block key counter nonce) Try.func42 rfl rfl rfl hm ?_
  intro w S _
  unfold spec_l3Block
  refine TW.seq ?_
  refine TW.region ?_
  refine TO.y (Y.assign rfl) rfl rfl rfl ?_
  refine TO.nil ?_
  refine TE.next ?_
  refine TW.seq ?_
  refine TW.region ?_
  refine TO.ef (Ef.buildSlice (α := Int) (Vs := [.int .i64 (1634760805 : Int), .int .i64 (857760878 : Int), .int .i64 (2036477234 : Int), .int .i64 (1797285236 : Int)]) [(1634760805 : Int), (857760878 : Int), (2036477234 : Int), (1797285236 : Int)] ke44 kz3 rfl rfl rfl rfl rfl) rfl rfl rfl (fun B1 => ?_)
  refine TO.y (Y.assign rfl) rfl rfl rfl ?_
  refine TO.nil ?_
  refine TE.next ?_
  refine TW.seq ?_
  refine TW.seq ?_
  refine TW.region ?_
  refine TO.y (Y.assign rfl) rfl rfl rfl ?_
  refine TO.nil ?_
  refine TE.next ?_
  refine TW.joinX (τ := List Int) (X := Value) (fun _ X => [(1, .int .i64 counter), (2, strV nonce), (7, X)]) (fun T X => [.own X (lc T)]) ?_ (fun T4 X5 => ?_)
  · refine TW.block ?_
    refine TW.loopX (σ := Int × List Int) (X := Value) (fun T X => [(0, strV key), (1, .int .i64 counter), (2, strV nonce), (7, X), (8, .int .i64 T.1)]) (fun T X => [.own X (lc T.2)]) (.slice (some ⟨B1, 0, none⟩) 4 4) [0] ⟨rfl, rfl, rfl, rfl, rfl, trivial⟩ rfl (fun S2 X3 => ?_)
    refine TW.seq ?_
    refine TW.seq ?_
    refine TW.region ?_
    refine TO.y (Y.move rfl) rfl rfl rfl ?_
    refine TO.y (Y.lss rfl rfl) rfl rfl rfl ?_
    refine TO.nil ?_
    refine TE.next ?_
    refine TW.cond rfl (fun H6 => ?_) (fun H6 => ?_)
    · refine TW.skip ?_
      refine TE.next ?_
      refine TW.seq ?_
      refine TW.block ?_
      refine TW.region ?_
      refine TO.y (Y.move rfl) rfl rfl rfl ?_
      refine TO.y (Y.move rfl) rfl rfl rfl ?_
      refine TO.y (Y.move rfl) rfl rfl rfl ?_
      refine TO.y (Y.mul rfl rfl) rfl rfl rfl ?_
      refine TO.bind fun R7 H8 => ?_
      refine TO.ef (Ef.call (rest := [.own X3 (lc S2.2)]) [0] (spec_l3Little_con key (IntKind.i64.wrap ((4 : Int) * S2.1))  R7 H8) kc45 rfl rfl trivial) rfl rfl rfl (fun _ => ?_)
      refine TO.ef (Ef.buildSlice (α := Int) (Vs := [.int .i64 R7]) [R7] ke44 kz3 rfl rfl rfl rfl rfl) rfl rfl rfl (fun B10 => ?_)
      refine TO.bind fun E12 H13 => ?_
      refine TO.ef (Ef.append (α := Int) (is' := [.own (.slice (some ⟨B10, 0, none⟩) 1 1) (lc ([R7]))]) [1, 0] H13 ke44 kz3 rfl rfl rfl rfl rfl (Can.own 0 rfl)) rfl rfl rfl (fun V11 => ?_)
      refine TO.y (Y.assign rfl) rfl rfl rfl ?_
      refine TO.nil ?_
      refine TE.block_normal ?_
      refine TE.next ?_
      refine TW.region ?_
      refine TO.y (Y.move rfl) rfl rfl rfl ?_
      refine TO.y (Y.add rfl rfl) rfl rfl rfl ?_
      refine TO.y (Y.assign rfl) rfl rfl rfl ?_
      refine TO.nil ?_
      exact TE.lp_go V11 [0] ⟨rfl, rfl, rfl, rfl, rfl, trivial⟩ rfl
    · refine TW.exit ?_
      refine TE.then_exit ?_
      refine TE.lp_exit ?_
      refine TE.block_exit ?_
      exact TE.jn_go X3 [0] ⟨rfl, rfl, rfl, trivial⟩ rfl
  · refine TE.next ?_
    refine TW.seq ?_
    refine TW.region ?_
    refine TO.y (Y.move rfl) rfl rfl rfl ?_
    refine TO.y (Y.move rfl) rfl rfl rfl ?_
    refine TO.y (Y.move rfl) rfl rfl rfl ?_
    refine TO.bind fun R14 H15 => ?_
    refine TO.ef (Ef.call (rest := [.own X5 (lc T4)]) [0] (spec_l3Little_con nonce (0 : Int)  R14 H15) kc45 rfl rfl trivial) rfl rfl rfl (fun _ => ?_)
    refine TO.y (Y.move rfl) rfl rfl rfl ?_
    refine TO.bind fun R17 H18 => ?_
    refine TO.ef (Ef.call (rest := [.own X5 (lc T4)]) [0] (spec_l3Little_con nonce (4 : Int)  R17 H18) kc45 rfl rfl trivial) rfl rfl rfl (fun _ => ?_)
    refine TO.y (Y.move rfl) rfl rfl rfl ?_
    refine TO.bind fun R20 H21 => ?_
    refine TO.ef (Ef.call (rest := [.own X5 (lc T4)]) [0] (spec_l3Little_con nonce (8 : Int)  R20 H21) kc45 rfl rfl trivial) rfl rfl rfl (fun _ => ?_)
    refine TO.ef (Ef.buildSlice (α := Int) (Vs := [.int .i64 counter, .int .i64 R14, .int .i64 R17, .int .i64 R20]) [counter, R14, R17, R20] ke44 kz3 rfl rfl rfl rfl rfl) rfl rfl rfl (fun B23 => ?_)
    refine TO.bind fun E25 H26 => ?_
    refine TO.ef (Ef.append (α := Int) (is' := [.own (.slice (some ⟨B23, 0, none⟩) 4 4) (lc ([counter, R14, R17, R20]))]) [1, 0] H26 ke44 kz3 rfl rfl rfl rfl rfl (Can.own 0 rfl)) rfl rfl rfl (fun V24 => ?_)
    refine TO.y (Y.assign rfl) rfl rfl rfl ?_
    refine TO.nil ?_
    refine TE.next ?_
    refine TW.seq ?_
    refine TW.region ?_
    refine TO.ef (Ef.buildSlice (α := Int) (Vs := []) ([] : List Int) ke44 kz3 rfl rfl rfl rfl rfl) rfl rfl rfl (fun B27 => ?_)
    refine TO.y (Y.move rfl) rfl rfl rfl ?_
    refine TO.bind fun E29 H30 => ?_
    refine TO.ef (Ef.append (α := Int) (is' := [.own V24 (lc E25), .own (.slice (some ⟨B23, 0, none⟩) 4 4) (lc ([counter, R14, R17, R20]))]) [0, 0, 0] H30 ke44 kz3 rfl rfl rfl rfl rfl (Can.own 1 rfl)) rfl rfl rfl (fun V28 => ?_)
    refine TO.y (Y.assign rfl) rfl rfl rfl ?_
    refine TO.nil ?_
    refine TE.next ?_
    refine TW.seq ?_
    refine TW.seq ?_
    refine TW.region ?_
    refine TO.y (Y.assign rfl) rfl rfl rfl ?_
    refine TO.nil ?_
    refine TE.next ?_
    refine TW.joinX (τ := List Int) (X := Value) (fun _ X => [(7, V24), (9, X)]) (fun T X => [.own V24 (lc E25), .own X (lc T)]) ?_ (fun T33 X34 => ?_)
    · refine TW.block ?_
      refine TW.loopX (σ := Int × List Int) (X := Value) (fun T X => [(7, V24), (9, X), (10, .int .i64 T.1)]) (fun T X => [.own V24 (lc E25), .own X (lc T.2)]) V28 [1, 0] ⟨rfl, rfl, rfl, trivial⟩ rfl (fun S31 X32 => ?_)
      refine TW.seq ?_
      refine TW.seq ?_
      refine TW.region ?_
      refine TO.y (Y.move rfl) rfl rfl rfl ?_
      refine TO.y (Y.lss rfl rfl) rfl rfl rfl ?_
      refine TO.nil ?_
      refine TE.next ?_
      refine TW.cond rfl (fun H35 => ?_) (fun H35 => ?_)
      · refine TW.skip ?_
        refine TE.next ?_
        refine TW.seq ?_
        refine TW.block ?_
        refine TW.seq ?_
        refine TW.region ?_
        refine TO.y (Y.move rfl) rfl rfl rfl ?_
        refine TO.bind fun R36 H37 => ?_
        refine TO.ef (Ef.call (rest := [.own V24 (lc E25)]) [1, 0] (spec_l3Quarter_con S31.2 (0 : Int) (4 : Int) (8 : Int) (12 : Int) X32 R36 H37) kc46 rfl rfl trivial) rfl rfl rfl (fun Y38 => ?_)
        refine TO.y (Y.assign rfl) rfl rfl rfl ?_
        refine TO.nil ?_
        refine TE.next ?_
        refine TW.seq ?_
        refine TW.region ?_
        refine TO.y (Y.move rfl) rfl rfl rfl ?_
        refine TO.bind fun R39 H40 => ?_
        refine TO.ef (Ef.call (rest := [.own V24 (lc E25)]) [0, 0] (spec_l3Quarter_con R36 (1 : Int) (5 : Int) (9 : Int) (13 : Int) Y38 R39 H40) kc46 rfl rfl trivial) rfl rfl rfl (fun Y41 => ?_)
        refine TO.y (Y.assign rfl) rfl rfl rfl ?_
        refine TO.nil ?_
        refine TE.next ?_
        refine TW.seq ?_
        refine TW.region ?_
        refine TO.y (Y.move rfl) rfl rfl rfl ?_
        refine TO.bind fun R42 H43 => ?_
        refine TO.ef (Ef.call (rest := [.own V24 (lc E25)]) [0, 0] (spec_l3Quarter_con R39 (2 : Int) (6 : Int) (10 : Int) (14 : Int) Y41 R42 H43) kc46 rfl rfl trivial) rfl rfl rfl (fun Y44 => ?_)
        refine TO.y (Y.assign rfl) rfl rfl rfl ?_
        refine TO.nil ?_
        refine TE.next ?_
        refine TW.seq ?_
        refine TW.region ?_
        refine TO.y (Y.move rfl) rfl rfl rfl ?_
        refine TO.bind fun R45 H46 => ?_
        refine TO.ef (Ef.call (rest := [.own V24 (lc E25)]) [0, 0] (spec_l3Quarter_con R42 (3 : Int) (7 : Int) (11 : Int) (15 : Int) Y44 R45 H46) kc46 rfl rfl trivial) rfl rfl rfl (fun Y47 => ?_)
        refine TO.y (Y.assign rfl) rfl rfl rfl ?_
        refine TO.nil ?_
        refine TE.next ?_
        refine TW.seq ?_
        refine TW.region ?_
        refine TO.y (Y.move rfl) rfl rfl rfl ?_
        refine TO.bind fun R48 H49 => ?_
        refine TO.ef (Ef.call (rest := [.own V24 (lc E25)]) [0, 0] (spec_l3Quarter_con R45 (0 : Int) (5 : Int) (10 : Int) (15 : Int) Y47 R48 H49) kc46 rfl rfl trivial) rfl rfl rfl (fun Y50 => ?_)
        refine TO.y (Y.assign rfl) rfl rfl rfl ?_
        refine TO.nil ?_
        refine TE.next ?_
        refine TW.seq ?_
        refine TW.region ?_
        refine TO.y (Y.move rfl) rfl rfl rfl ?_
        refine TO.bind fun R51 H52 => ?_
        refine TO.ef (Ef.call (rest := [.own V24 (lc E25)]) [0, 0] (spec_l3Quarter_con R48 (1 : Int) (6 : Int) (11 : Int) (12 : Int) Y50 R51 H52) kc46 rfl rfl trivial) rfl rfl rfl (fun Y53 => ?_)
        refine TO.y (Y.assign rfl) rfl rfl rfl ?_
        refine TO.nil ?_
        refine TE.next ?_
        refine TW.seq ?_
        refine TW.region ?_
        refine TO.y (Y.move rfl) rfl rfl rfl ?_
        refine TO.bind fun R54 H55 => ?_
        refine TO.ef (Ef.call (rest := [.own V24 (lc E25)]) [0, 0] (spec_l3Quarter_con R51 (2 : Int) (7 : Int) (8 : Int) (13 : Int) Y53 R54 H55) kc46 rfl rfl trivial) rfl rfl rfl (fun Y56 => ?_)
        refine TO.y (Y.assign rfl) rfl rfl rfl ?_
        refine TO.nil ?_
        refine TE.next ?_
        refine TW.region ?_
        refine TO.y (Y.move rfl) rfl rfl rfl ?_
        refine TO.bind fun R57 H58 => ?_
        refine TO.ef (Ef.call (rest := [.own V24 (lc E25)]) [0, 0] (spec_l3Quarter_con R54 (3 : Int) (4 : Int) (9 : Int) (14 : Int) Y56 R57 H58) kc46 rfl rfl trivial) rfl rfl rfl (fun Y59 => ?_)
        refine TO.y (Y.assign rfl) rfl rfl rfl ?_
        refine TO.nil ?_
        refine TE.block_normal ?_
        refine TE.next ?_
        refine TW.region ?_
        refine TO.y (Y.move rfl) rfl rfl rfl ?_
        refine TO.y (Y.add rfl rfl) rfl rfl rfl ?_
        refine TO.y (Y.assign rfl) rfl rfl rfl ?_
        refine TO.nil ?_
        exact TE.lp_go Y59 [1, 0] ⟨rfl, rfl, rfl, trivial⟩ rfl
      · refine TW.exit ?_
        refine TE.then_exit ?_
        refine TE.lp_exit ?_
        refine TE.block_exit ?_
        exact TE.jn_go X32 [0, 0] ⟨rfl, rfl, trivial⟩ rfl
    · refine TE.next ?_
      refine TW.seq ?_
      refine TW.region ?_
      refine TO.ef (Ef.buildSlice (α := UInt8) (Vs := []) ([] : List UInt8) ke22 kz5 rfl rfl rfl rfl rfl) rfl rfl rfl (fun B60 => ?_)
      refine TO.y (Y.assign rfl) rfl rfl rfl ?_
      refine TO.nil ?_
      refine TE.next ?_
      refine TW.seq ?_
      refine TW.seq ?_
      refine TW.region ?_
      refine TO.y (Y.assign rfl) rfl rfl rfl ?_
      refine TO.nil ?_
      refine TE.next ?_
      refine TW.joinX (τ := List UInt8) (X := Value) (fun _ X => [(11, X)]) (fun T X => [.own X (lc T)]) ?_ (fun T63 X64 => ?_)
      · refine TW.block ?_
        refine TW.loopX (σ := Int × List UInt8) (X := Value) (fun T X => [(7, V24), (9, X34), (11, X), (12, .int .i64 T.1)]) (fun T X => [.own V24 (lc E25), .own X34 (lc T33), .own X (lc T.2)]) (.slice (some ⟨B60, 0, none⟩) 0 0) [1, 1, 0] ⟨rfl, rfl, rfl, rfl, trivial⟩ rfl (fun S61 X62 => ?_)
        refine TW.seq ?_
        refine TW.seq ?_
        refine TW.region ?_
        refine TO.y (Y.move rfl) rfl rfl rfl ?_
        refine TO.y (Y.lss rfl rfl) rfl rfl rfl ?_
        refine TO.nil ?_
        refine TE.next ?_
        refine TW.cond rfl (fun H65 => ?_) (fun H65 => ?_)
        · refine TW.skip ?_
          refine TE.next ?_
          refine TW.seq ?_
          refine TW.block ?_
          refine TW.seq ?_
          refine TW.draw (isH := [.own V24 (lc E25), .own X34 (lc T33), .own X62 (lc S61.2)]) hMix ?_
          refine TA.y (listed' := #[true, false, false, false, false, false, false, false, false, false, false]) 0 [0, 0, 0] rfl (Y.move rfl) rfl rfl rfl (by kernel_rfl) (by kernel_rfl) (by kernel_rfl) rfl rfl ?_
          refine TA.y (listed' := #[true, true, false, false, false, false, false, false, false, false, false]) 1 [0, 0, 0] rfl (Y.move rfl) rfl rfl rfl (by kernel_rfl) (by kernel_rfl) (by kernel_rfl) rfl rfl ?_
          refine TA.bind fun E66 H67 => ?_
          refine TA.y (listed' := #[true, true, true, false, false, false, false, false, false, false, false]) 2 [0, 0, 0] rfl (Y.index ke44 (Can.own 1 rfl) H67 rfl rfl) rfl rfl rfl (by kernel_rfl) (by kernel_rfl) (by kernel_rfl) rfl rfl ?_
          refine TA.y (listed' := #[true, true, true, true, false, false, false, false, false, false, false]) 3 [0, 0, 0] rfl (Y.load_el (us := [.int .i64 E66]) (u := .int .i64 E66) kk3 rfl (Can.own 1 rfl) (idx_get H67).2.2 rfl rfl rfl rfl rfl) rfl rfl rfl (by kernel_rfl) (by kernel_rfl) (by kernel_rfl) rfl rfl ?_
          refine TA.y (listed' := #[true, true, true, true, true, false, false, false, false, false, false]) 4 [0, 0, 0] rfl (Y.move rfl) rfl rfl rfl (by kernel_rfl) (by kernel_rfl) (by kernel_rfl) rfl rfl ?_
          refine TA.y (listed' := #[true, true, true, true, true, true, false, false, false, false, false]) 5 [0, 0, 0] rfl (Y.move rfl) rfl rfl rfl (by kernel_rfl) (by kernel_rfl) (by kernel_rfl) rfl rfl ?_
          refine TA.bind fun E68 H69 => ?_
          refine TA.y (listed' := #[true, true, true, true, true, true, true, false, false, false, false]) 6 [0, 0, 0] rfl (Y.index ke44 (Can.own 0 rfl) H69 rfl rfl) rfl rfl rfl (by kernel_rfl) (by kernel_rfl) (by kernel_rfl) rfl rfl ?_
          refine TA.y (listed' := #[true, true, true, true, true, true, true, true, false, false, false]) 7 [0, 0, 0] rfl (Y.load_el (us := [.int .i64 E68]) (u := .int .i64 E68) kk3 rfl (Can.own 0 rfl) (idx_get H69).2.2 rfl rfl rfl rfl rfl) rfl rfl rfl (by kernel_rfl) (by kernel_rfl) (by kernel_rfl) rfl rfl ?_
          refine TA.y (listed' := #[true, true, true, true, true, true, true, true, true, false, false]) 8 [0, 0, 0] rfl (Y.add rfl rfl) rfl rfl rfl (by kernel_rfl) (by kernel_rfl) (by kernel_rfl) rfl rfl ?_
          refine TA.bind fun R70 H71 => ?_
          refine TA.one 9 (by kernel_rfl) ?_
          refine TX.ef (listed' := #[true, true, true, true, true, true, true, true, true, true, false]) [0, 0, 0] rfl (Ef.call (rest := [.own V24 (lc E25), .own X34 (lc T33), .own X62 (lc S61.2)]) [0, 0, 0] (spec_l3Word_con (IntKind.i64.wrap (E66 + E68))  R70 H71) kc47 rfl rfl trivial) rfl rfl rfl rfl (fun _ => rfl) (fun _ => ?_)
          refine TA.y (listed' := #[true, true, true, true, true, true, true, true, true, true, true]) 10 [0, 0, 0] rfl (Y.assign rfl) rfl rfl rfl (by kernel_rfl) (by kernel_rfl) (by kernel_rfl) rfl rfl ?_
          refine TA.nil (by kernel_rfl) ?_
          refine TE.next ?_
          refine TW.region ?_
          refine TO.y (Y.move rfl) rfl rfl rfl ?_
          refine TO.y (Y.move rfl) rfl rfl rfl ?_
          refine TO.y (Y.and rfl rfl) rfl rfl rfl ?_
          refine TO.y (Y.conv8 ki3 ki5 rfl) rfl rfl rfl ?_
          refine TO.y (Y.move rfl) rfl rfl rfl ?_
          refine TO.y (Y.shr (by decide) rfl rfl) rfl rfl rfl ?_
          refine TO.y (Y.and rfl rfl) rfl rfl rfl ?_
          refine TO.y (Y.conv8 ki3 ki5 rfl) rfl rfl rfl ?_
          refine TO.y (Y.move rfl) rfl rfl rfl ?_
          refine TO.y (Y.shr (by decide) rfl rfl) rfl rfl rfl ?_
          refine TO.y (Y.and rfl rfl) rfl rfl rfl ?_
          refine TO.y (Y.conv8 ki3 ki5 rfl) rfl rfl rfl ?_
          refine TO.y (Y.move rfl) rfl rfl rfl ?_
          refine TO.y (Y.shr (by decide) rfl rfl) rfl rfl rfl ?_
          refine TO.y (Y.conv8 ki3 ki5 rfl) rfl rfl rfl ?_
          refine TO.ef (Ef.buildSlice (α := UInt8) (Vs := [.int .u8 (((toU8 (iand .i64 R70 (255 : Int))).toNat : Nat) : Int), .int .u8 (((toU8 (iand .i64 (ishr .i64 R70 (8 : Int)) (255 : Int))).toNat : Nat) : Int), .int .u8 (((toU8 (iand .i64 (ishr .i64 R70 (16 : Int)) (255 : Int))).toNat : Nat) : Int), .int .u8 (((toU8 (ishr .i64 R70 (24 : Int))).toNat : Nat) : Int)]) [toU8 (iand .i64 R70 (255 : Int)), toU8 (iand .i64 (ishr .i64 R70 (8 : Int)) (255 : Int)), toU8 (iand .i64 (ishr .i64 R70 (16 : Int)) (255 : Int)), toU8 (ishr .i64 R70 (24 : Int))] ke22 kz5 rfl rfl rfl rfl rfl) rfl rfl rfl (fun B73 => ?_)
          refine TO.bind fun E75 H76 => ?_
          refine TO.ef (Ef.append (α := UInt8) (is' := [.own (.slice (some ⟨B73, 0, none⟩) 4 4) (lc ([toU8 (iand .i64 R70 (255 : Int)), toU8 (iand .i64 (ishr .i64 R70 (8 : Int)) (255 : Int)), toU8 (iand .i64 (ishr .i64 R70 (16 : Int)) (255 : Int)), toU8 (ishr .i64 R70 (24 : Int))])), .own V24 (lc E25), .own X34 (lc T33)]) [3, 0, 0, 0] H76 ke22 kz5 rfl rfl rfl rfl rfl (Can.own 0 rfl)) rfl rfl rfl (fun V74 => ?_)
          refine TO.y (Y.assign rfl) rfl rfl rfl ?_
          refine TO.nil ?_
          refine TE.block_normal ?_
          refine TE.next ?_
          refine TW.region ?_
          refine TO.y (Y.move rfl) rfl rfl rfl ?_
          refine TO.y (Y.add rfl rfl) rfl rfl rfl ?_
          refine TO.y (Y.assign rfl) rfl rfl rfl ?_
          refine TO.nil ?_
          exact TE.lp_go V74 [2, 2, 0] ⟨rfl, rfl, rfl, rfl, trivial⟩ rfl
        · refine TW.exit ?_
          refine TE.then_exit ?_
          refine TE.lp_exit ?_
          refine TE.block_exit ?_
          exact TE.jn_go X62 [2] ⟨rfl, trivial⟩ rfl
      · refine TE.next ?_
        refine TW.seq ?_
        refine TW.region ?_
        refine TO.y (Y.move rfl) rfl rfl rfl ?_
        refine TO.y (Y.toStr ke22 ki5 ks9 (Can.own 0 rfl) rfl) rfl rfl rfl ?_
        refine TO.y (Y.assign rfl) rfl rfl rfl ?_
        refine TO.nil ?_
        refine TE.next ?_
        refine TW.ret ?_
        exact TE.leaf fun _ _ hf_ hs_ => ret_any (rs := [.tmp 6]) (vs := [strV T63]) (.inl rfl) rfl ⟨rfl, trivial⟩ hf_ hs_ ⟨(), rfl, hs_.pulls [] rfl⟩

/-- loop.example/g00950/spec.ChaBlock -/
noncomputable def spec_ChaBlock (key : List UInt8) (counter : Int) (nonce : List UInt8) : Option (List UInt8) :=
  (if (!(decide (((key.length : Nat) : Int) = (32 : Int)))) = true then (some true)
  else (if (!(decide (((nonce.length : Nat) : Int) = (12 : Int)))) = true then (some true)
  else ((spec_l1In counter (0 : Int) (4294967295 : Int)).bind fun R5 =>
  some (!R5)))).bind (fun (T1 : Bool) =>
  if T1 = true then (some ([]))
  else ((spec_l3Block key counter nonce).bind fun R9 =>
  some R9))

theorem spec_ChaBlock_con (key : List UInt8) (counter : Int) (nonce : List UInt8)  (r : List UInt8) (hm : spec_ChaBlock key counter nonce = some r) :
    Con Try.prog 31 [strV key, .int .i64 counter, strV nonce] [] [] (fun _ : Unit => strV r) (fun _ => []) := by
  refine Con.intro (args := [strV key, .int .i64 counter, strV nonce]) (n := 24) (val := fun r (_ : Unit) => strV r) (post := fun _ _ => []) (m := spec_ChaBlock key counter nonce) Try.func31 rfl rfl rfl hm ?_
  intro w S _
  unfold spec_ChaBlock
  refine TW.seq ?_
  refine TW.region ?_
  refine TO.y (Y.assign rfl) rfl rfl rfl ?_
  refine TO.nil ?_
  refine TE.next ?_
  refine TW.seq ?_
  refine TW.seq ?_
  refine TW.joinBX (τ := Bool) (X := Unit) (fun T _ => [(0, strV key), (1, .int .i64 counter), (2, strV nonce), (19, .bool T)]) (fun _ _ => []) ?_ (fun T1 X2 => ?_)
  · refine TW.region ?_
    refine TO.y (Y.move rfl) rfl rfl rfl ?_
    refine TO.y (Y.slen ks9 rfl) rfl rfl rfl ?_
    refine TO.y (Y.neq rfl rfl) rfl rfl rfl ?_
    refine TO.y (Y.move rfl) rfl rfl rfl ?_
    refine TO.ite (b := !(decide (((key.length : Nat) : Int) = (32 : Int)))) (fun H3 => ?_) (fun H3 => ?_)
    · refine TO.off (Gd.at 3 false 10 (!(decide (((key.length : Nat) : Int) = (32 : Int)))) rfl rfl rfl (beq_tf H3)) rfl rfl ?_
      refine TO.off (Gd.at 3 false 10 (!(decide (((key.length : Nat) : Int) = (32 : Int)))) rfl rfl rfl (beq_tf H3)) rfl rfl ?_
      refine TO.off (Gd.at 3 false 10 (!(decide (((key.length : Nat) : Int) = (32 : Int)))) rfl rfl rfl (beq_tf H3)) rfl rfl ?_
      refine TO.y (Y.pick_t H3 rfl rfl) rfl rfl rfl ?_
      refine TO.y (Y.move rfl) rfl rfl rfl ?_
      refine TO.off (Gd.at 8 false 15 true rfl rfl rfl rfl) rfl rfl ?_
      refine TO.off (Gd.at 8 false 15 true rfl rfl rfl rfl) rfl rfl ?_
      refine TO.off (Gd.at 8 false 15 true rfl rfl rfl rfl) rfl rfl ?_
      refine TO.y (Y.pick_t rfl rfl rfl) rfl rfl rfl ?_
      refine TO.nil ?_
      exact TE.jb_go () [] ⟨rfl, rfl, rfl, rfl, trivial⟩ rfl
    · refine TO.y (Y.move rfl) (Gd.at 3 false 10 (!(decide (((key.length : Nat) : Int) = (32 : Int)))) rfl rfl rfl (beq_ff H3)) rfl rfl ?_
      refine TO.y (Y.slen ks9 rfl) (Gd.at 3 false 10 (!(decide (((key.length : Nat) : Int) = (32 : Int)))) rfl rfl rfl (beq_ff H3)) rfl rfl ?_
      refine TO.y (Y.neq rfl rfl) (Gd.at 3 false 10 (!(decide (((key.length : Nat) : Int) = (32 : Int)))) rfl rfl rfl (beq_ff H3)) rfl rfl ?_
      refine TO.y (Y.pick_f H3 rfl rfl) rfl rfl rfl ?_
      refine TO.y (Y.move rfl) rfl rfl rfl ?_
      refine TO.ite (b := !(decide (((nonce.length : Nat) : Int) = (12 : Int)))) (fun H4 => ?_) (fun H4 => ?_)
      · refine TO.off (Gd.at 8 false 15 (!(decide (((nonce.length : Nat) : Int) = (12 : Int)))) rfl rfl rfl (beq_tf H4)) rfl rfl ?_
        refine TO.off (Gd.at 8 false 15 (!(decide (((nonce.length : Nat) : Int) = (12 : Int)))) rfl rfl rfl (beq_tf H4)) rfl rfl ?_
        refine TO.off (Gd.at 8 false 15 (!(decide (((nonce.length : Nat) : Int) = (12 : Int)))) rfl rfl rfl (beq_tf H4)) rfl rfl ?_
        refine TO.y (Y.pick_t H4 rfl rfl) rfl rfl rfl ?_
        refine TO.nil ?_
        exact TE.jb_go () [] ⟨rfl, rfl, rfl, rfl, trivial⟩ rfl
      · refine TO.y (Y.move rfl) (Gd.at 8 false 15 (!(decide (((nonce.length : Nat) : Int) = (12 : Int)))) rfl rfl rfl (beq_ff H4)) rfl rfl ?_
        refine TO.bind fun R5 H6 => ?_
        refine TO.ef (Ef.call (rest := []) [] (spec_l1In_con counter (0 : Int) (4294967295 : Int)  R5 H6) kc41 rfl rfl trivial) (Gd.at 8 false 15 (!(decide (((nonce.length : Nat) : Int) = (12 : Int)))) rfl rfl rfl (beq_ff H4)) rfl rfl (fun _ => ?_)
        refine TO.y (Y.not rfl) (Gd.at 8 false 15 (!(decide (((nonce.length : Nat) : Int) = (12 : Int)))) rfl rfl rfl (beq_ff H4)) rfl rfl ?_
        refine TO.y (Y.pick_f H4 rfl rfl) rfl rfl rfl ?_
        refine TO.nil ?_
        exact TE.jb_go () [] ⟨rfl, rfl, rfl, rfl, trivial⟩ rfl
  · refine TE.next ?_
    refine TW.cond rfl (fun H8 => ?_) (fun H8 => ?_)
    · refine TW.seq ?_
      refine TW.region ?_
      refine TO.y (Y.assign rfl) rfl rfl rfl ?_
      refine TO.nil ?_
      refine TE.next ?_
      refine TW.ret ?_
      refine TE.then_ret ?_
      exact TE.leaf fun _ _ hf_ hs_ => ret_any (rs := [.tmp 6]) (vs := [strV ([])]) (.inl rfl) rfl ⟨rfl, trivial⟩ hf_ hs_ ⟨(), rfl, hs_.pulls [] rfl⟩
    · refine TW.skip ?_
      refine TE.next ?_
      refine TW.seq ?_
      refine TW.region ?_
      refine TO.y (Y.move rfl) rfl rfl rfl ?_
      refine TO.y (Y.move rfl) rfl rfl rfl ?_
      refine TO.y (Y.move rfl) rfl rfl rfl ?_
      refine TO.bind fun R9 H10 => ?_
      refine TO.ef (Ef.call (rest := []) [] (spec_l3Block_con key counter nonce  R9 H10) kc42 rfl rfl trivial) rfl rfl rfl (fun _ => ?_)
      refine TO.y (Y.assign rfl) rfl rfl rfl ?_
      refine TO.nil ?_
      refine TE.next ?_
      refine TW.ret ?_
      exact TE.leaf fun _ _ hf_ hs_ => ret_any (rs := [.tmp 6]) (vs := [strV R9]) (.inl rfl) rfl ⟨rfl, trivial⟩ hf_ hs_ ⟨(), rfl, hs_.pulls [] rfl⟩

/-- loop.example/g00950/spec.ChaStream -/
noncomputable def spec_ChaStream (key : List UInt8) (counter : Int) (nonce : List UInt8) (text : List UInt8) : Option (List UInt8) :=
  (spec_ChaBlock key counter nonce).bind fun R2 =>
  if (decide (R2 = ([]))) = true then (some ([]))
  else (bindC (loopO (fun (S6 : Int × List UInt8) => if (decide (S6.1 < ((text.length : Nat) : Int))) = true then ((spec_ChaBlock key (IntKind.i64.wrap (counter + (IntKind.i64.wrap (Int.tdiv S6.1 (64 : Int))))) nonce).bind fun R11 =>
  if (decide (R11 = ([]))) = true then (some (.done (.done ([]))))
  else (bindC (loopO (fun (S15 : Int × List UInt8) => (if (decide (S15.1 < ((text.length : Nat) : Int))) = true then (some (decide (S15.1 < IntKind.i64.wrap (S6.1 + (64 : Int)))))
  else (some false)).bind (fun (T19 : Bool) =>
  if T19 = true then ((sidx text S15.1).bind fun E23 =>
  (sidx R11 (IntKind.i64.wrap (S15.1 - S6.1))).bind fun E25 =>
  (app 1 S15.2 ([(E23 ^^^ E25)])).bind fun E29 =>
  some (.go (IntKind.i64.wrap (S15.1 + (1 : Int)), E29)))
  else (some (.done (.go S15.2)))))
  (S6.1, S6.2))
  (fun (T17 : List UInt8) => some (.go (IntKind.i64.wrap (S6.1 + (64 : Int)), T17)))))
  else (some (.done (.go S6.2))))
  ((0 : Int), ([] : List UInt8)))
  (fun (T8 : List UInt8) => some T8))

theorem spec_ChaStream_con (key : List UInt8) (counter : Int) (nonce : List UInt8) (text : List UInt8)  (r : List UInt8) (hm : spec_ChaStream key counter nonce text = some r) :
    Con Try.prog 14 [strV key, .int .i64 counter, strV nonce, strV text] [] [] (fun _ : Unit => strV r) (fun _ => []) := by
  refine Con.intro (args := [strV key, .int .i64 counter, strV nonce, strV text]) (n := 61) (val := fun r (_ : Unit) => strV r) (post := fun _ _ => []) (m := spec_ChaStream key counter nonce text) Try.func14 rfl rfl rfl hm ?_
  intro w S _
  unfold spec_ChaStream
  refine TW.seq ?_
  refine TW.region ?_
  refine TO.y (Y.assign rfl) rfl rfl rfl ?_
  refine TO.nil ?_
  refine TE.next ?_
  refine TW.seq ?_
  refine TW.region ?_
  refine TO.ef (Ef.buildSlice (α := UInt8) (Vs := []) ([] : List UInt8) ke22 kz5 rfl rfl rfl rfl rfl) rfl rfl rfl (fun B1 => ?_)
  refine TO.y (Y.assign rfl) rfl rfl rfl ?_
  refine TO.nil ?_
  refine TE.next ?_
  refine TW.seq ?_
  refine TW.seq ?_
  refine TW.region ?_
  refine TO.y (Y.move rfl) rfl rfl rfl ?_
  refine TO.y (Y.move rfl) rfl rfl rfl ?_
  refine TO.y (Y.move rfl) rfl rfl rfl ?_
  refine TO.bind fun R2 H3 => ?_
  refine TO.ef (Ef.call (rest := [.own (.slice (some ⟨B1, 0, none⟩) 0 0) (lc ([] : List UInt8))]) [0] (spec_ChaBlock_con key counter nonce  R2 H3) kc31 rfl rfl trivial) rfl rfl rfl (fun _ => ?_)
  refine TO.y (Y.seql rfl rfl) rfl rfl rfl ?_
  refine TO.nil ?_
  refine TE.next ?_
  refine TW.cond rfl (fun H5 => ?_) (fun H5 => ?_)
  · refine TW.seq ?_
    refine TW.region ?_
    refine TO.y (Y.assign rfl) rfl rfl rfl ?_
    refine TO.nil ?_
    refine TE.next ?_
    refine TW.ret ?_
    refine TE.then_ret ?_
    exact TE.leaf fun _ _ hf_ hs_ => ret_any (rs := [.tmp 8]) (vs := [strV ([])]) (.inl rfl) rfl ⟨rfl, trivial⟩ hf_ hs_ ⟨(), rfl, hs_.pulls [] rfl⟩
  · refine TW.skip ?_
    refine TE.next ?_
    refine TW.seq ?_
    refine TW.seq ?_
    refine TW.region ?_
    refine TO.y (Y.assign rfl) rfl rfl rfl ?_
    refine TO.nil ?_
    refine TE.next ?_
    refine TW.joinX (τ := List UInt8) (X := Value) (fun _ X => [(9, X)]) (fun T X => [.own X (lc T)]) ?_ (fun T8 X9 => ?_)
    · refine TW.block ?_
      refine TW.loopX (σ := Int × List UInt8) (X := Value) (fun T X => [(0, strV key), (1, .int .i64 counter), (2, strV nonce), (3, strV text), (9, X), (10, .int .i64 T.1)]) (fun T X => [.own X (lc T.2)]) (.slice (some ⟨B1, 0, none⟩) 0 0) [0] ⟨rfl, rfl, rfl, rfl, rfl, rfl, trivial⟩ rfl (fun S6 X7 => ?_)
      refine TW.seq ?_
      refine TW.seq ?_
      refine TW.region ?_
      refine TO.y (Y.move rfl) rfl rfl rfl ?_
      refine TO.y (Y.move rfl) rfl rfl rfl ?_
      refine TO.y (Y.slen ks9 rfl) rfl rfl rfl ?_
      refine TO.y (Y.lss rfl rfl) rfl rfl rfl ?_
      refine TO.nil ?_
      refine TE.next ?_
      refine TW.cond rfl (fun H10 => ?_) (fun H10 => ?_)
      · refine TW.skip ?_
        refine TE.next ?_
        refine TW.seq ?_
        refine TW.block ?_
        refine TW.seq ?_
        refine TW.region ?_
        refine TO.y (Y.move rfl) rfl rfl rfl ?_
        refine TO.y (Y.move rfl) rfl rfl rfl ?_
        refine TO.y (Y.move rfl) rfl rfl rfl ?_
        refine TO.y (Y.quo (by decide) rfl rfl) rfl rfl rfl ?_
        refine TO.y (Y.add rfl rfl) rfl rfl rfl ?_
        refine TO.y (Y.move rfl) rfl rfl rfl ?_
        refine TO.bind fun R11 H12 => ?_
        refine TO.ef (Ef.call (rest := [.own X7 (lc S6.2)]) [0] (spec_ChaBlock_con key (IntKind.i64.wrap (counter + (IntKind.i64.wrap (Int.tdiv S6.1 (64 : Int))))) nonce  R11 H12) kc31 rfl rfl trivial) rfl rfl rfl (fun _ => ?_)
        refine TO.y (Y.assign rfl) rfl rfl rfl ?_
        refine TO.nil ?_
        refine TE.next ?_
        refine TW.seq ?_
        refine TW.seq ?_
        refine TW.region ?_
        refine TO.y (Y.move rfl) rfl rfl rfl ?_
        refine TO.y (Y.seql rfl rfl) rfl rfl rfl ?_
        refine TO.nil ?_
        refine TE.next ?_
        refine TW.cond rfl (fun H14 => ?_) (fun H14 => ?_)
        · refine TW.seq ?_
          refine TW.region ?_
          refine TO.y (Y.assign rfl) rfl rfl rfl ?_
          refine TO.nil ?_
          refine TE.next ?_
          refine TW.ret ?_
          refine TE.then_ret ?_
          refine TE.block_ret ?_
          refine TE.then_ret ?_
          refine TE.lp_ret ?_
          refine TE.block_ret ?_
          refine TE.jn_done ?_
          refine TE.then_ret ?_
          exact TE.leaf fun _ _ hf_ hs_ => ret_any (rs := [.tmp 8]) (vs := [strV ([])]) (.inl rfl) rfl ⟨rfl, trivial⟩ hf_ hs_ ⟨(), rfl, hs_.pulls [] rfl⟩
        · refine TW.skip ?_
          refine TE.next ?_
          refine TW.seq ?_
          refine TW.region ?_
          refine TO.y (Y.move rfl) rfl rfl rfl ?_
          refine TO.y (Y.assign rfl) rfl rfl rfl ?_
          refine TO.nil ?_
          refine TE.next ?_
          refine TW.joinX (τ := List UInt8) (X := Value) (fun _ X => [(0, strV key), (1, .int .i64 counter), (2, strV nonce), (3, strV text), (9, X), (10, .int .i64 S6.1)]) (fun T X => [.own X (lc T)]) ?_ (fun T17 X18 => ?_)
          · refine TW.block ?_
            refine TW.loopX (σ := Int × List UInt8) (X := Value) (fun T X => [(0, strV key), (1, .int .i64 counter), (2, strV nonce), (3, strV text), (9, X), (10, .int .i64 S6.1), (11, strV R11), (12, .int .i64 T.1)]) (fun T X => [.own X (lc T.2)]) X7 [0] ⟨rfl, rfl, rfl, rfl, rfl, rfl, rfl, rfl, trivial⟩ rfl (fun S15 X16 => ?_)
            refine TW.seq ?_
            refine TW.seq ?_
            refine TW.joinBX (τ := Bool) (X := Unit) (fun T _ => [(0, strV key), (1, .int .i64 counter), (2, strV nonce), (3, strV text), (9, X16), (10, .int .i64 S6.1), (11, strV R11), (12, .int .i64 S15.1), (44, .bool T)]) (fun _ _ => [.own X16 (lc S15.2)]) ?_ (fun T19 X20 => ?_)
            · refine TW.region ?_
              refine TO.y (Y.move rfl) rfl rfl rfl ?_
              refine TO.y (Y.move rfl) rfl rfl rfl ?_
              refine TO.y (Y.slen ks9 rfl) rfl rfl rfl ?_
              refine TO.y (Y.lss rfl rfl) rfl rfl rfl ?_
              refine TO.y (Y.move rfl) rfl rfl rfl ?_
              refine TO.ite (b := decide (S15.1 < ((text.length : Nat) : Int))) (fun H21 => ?_) (fun H21 => ?_)
              · refine TO.y (Y.move rfl) (Gd.at 4 true 39 (decide (S15.1 < ((text.length : Nat) : Int))) rfl rfl rfl (beq_tt H21)) rfl rfl ?_
                refine TO.y (Y.move rfl) (Gd.at 4 true 39 (decide (S15.1 < ((text.length : Nat) : Int))) rfl rfl rfl (beq_tt H21)) rfl rfl ?_
                refine TO.y (Y.add rfl rfl) (Gd.at 4 true 39 (decide (S15.1 < ((text.length : Nat) : Int))) rfl rfl rfl (beq_tt H21)) rfl rfl ?_
                refine TO.y (Y.lss rfl rfl) (Gd.at 4 true 39 (decide (S15.1 < ((text.length : Nat) : Int))) rfl rfl rfl (beq_tt H21)) rfl rfl ?_
                refine TO.y (Y.pick_t H21 rfl rfl) rfl rfl rfl ?_
                refine TO.nil ?_
                exact TE.jb_go () [0] ⟨rfl, rfl, rfl, rfl, rfl, rfl, rfl, rfl, rfl, trivial⟩ rfl
              · refine TO.off (Gd.at 4 true 39 (decide (S15.1 < ((text.length : Nat) : Int))) rfl rfl rfl (beq_ft H21)) rfl rfl ?_
                refine TO.off (Gd.at 4 true 39 (decide (S15.1 < ((text.length : Nat) : Int))) rfl rfl rfl (beq_ft H21)) rfl rfl ?_
                refine TO.off (Gd.at 4 true 39 (decide (S15.1 < ((text.length : Nat) : Int))) rfl rfl rfl (beq_ft H21)) rfl rfl ?_
                refine TO.off (Gd.at 4 true 39 (decide (S15.1 < ((text.length : Nat) : Int))) rfl rfl rfl (beq_ft H21)) rfl rfl ?_
                refine TO.y (Y.pick_f H21 rfl rfl) rfl rfl rfl ?_
                refine TO.nil ?_
                exact TE.jb_go () [0] ⟨rfl, rfl, rfl, rfl, rfl, rfl, rfl, rfl, rfl, trivial⟩ rfl
            · refine TE.next ?_
              refine TW.cond rfl (fun H22 => ?_) (fun H22 => ?_)
              · refine TW.skip ?_
                refine TE.next ?_
                refine TW.seq ?_
                refine TW.block ?_
                refine TW.draw (isH := []) hMix ?_
                refine TA.y (listed' := #[true, false, false, false, false, false, false, false, false, false, false, false, false]) 0 [] rfl (Y.move rfl) rfl rfl rfl (by kernel_rfl) (by kernel_rfl) (by kernel_rfl) rfl rfl ?_
                refine TA.y (listed' := #[true, true, false, false, false, false, false, false, false, false, false, false, false]) 1 [] rfl (Y.move rfl) rfl rfl rfl (by kernel_rfl) (by kernel_rfl) (by kernel_rfl) rfl rfl ?_
                refine TA.y (listed' := #[true, true, true, false, false, false, false, false, false, false, false, false, false]) 2 [] rfl (Y.move rfl) rfl rfl rfl (by kernel_rfl) (by kernel_rfl) (by kernel_rfl) rfl rfl ?_
                refine TA.bind fun E23 H24 => ?_
                refine TA.y (listed' := #[true, true, true, true, false, false, false, false, false, false, false, false, false]) 3 [] rfl (Y.sidx H24 ks9 rfl rfl) rfl rfl rfl (by kernel_rfl) (by kernel_rfl) (by kernel_rfl) rfl rfl ?_
                refine TA.y (listed' := #[true, true, true, true, true, false, false, false, false, false, false, false, false]) 4 [] rfl (Y.move rfl) rfl rfl rfl (by kernel_rfl) (by kernel_rfl) (by kernel_rfl) rfl rfl ?_
                refine TA.y (listed' := #[true, true, true, true, true, true, false, false, false, false, false, false, false]) 5 [] rfl (Y.move rfl) rfl rfl rfl (by kernel_rfl) (by kernel_rfl) (by kernel_rfl) rfl rfl ?_
                refine TA.y (listed' := #[true, true, true, true, true, true, true, false, false, false, false, false, false]) 6 [] rfl (Y.move rfl) rfl rfl rfl (by kernel_rfl) (by kernel_rfl) (by kernel_rfl) rfl rfl ?_
                refine TA.y (listed' := #[true, true, true, true, true, true, true, true, false, false, false, false, false]) 7 [] rfl (Y.sub rfl rfl) rfl rfl rfl (by kernel_rfl) (by kernel_rfl) (by kernel_rfl) rfl rfl ?_
                refine TA.bind fun E25 H26 => ?_
                refine TA.y (listed' := #[true, true, true, true, true, true, true, true, true, false, false, false, false]) 8 [] rfl (Y.sidx H26 ks9 rfl rfl) rfl rfl rfl (by kernel_rfl) (by kernel_rfl) (by kernel_rfl) rfl rfl ?_
                refine TA.y (listed' := #[true, true, true, true, true, true, true, true, true, true, false, false, false]) 9 [] rfl (Y.xor8 rfl rfl) rfl rfl rfl (by kernel_rfl) (by kernel_rfl) (by kernel_rfl) rfl rfl ?_
                refine TA.one 10 (by kernel_rfl) ?_
                refine TX.ef (listed' := #[true, true, true, true, true, true, true, true, true, true, true, false, false]) [] rfl (Ef.buildSlice (α := UInt8) (Vs := [.int .u8 (((E23 ^^^ E25).toNat : Nat) : Int)]) [(E23 ^^^ E25)] ke22 kz5 rfl rfl rfl rfl rfl) rfl rfl rfl rfl (fun _ => rfl) (fun B27 => ?_)
                refine TA.bind fun E29 H30 => ?_
                refine TA.one 11 (by kernel_rfl) ?_
                refine TX.ef (listed' := #[true, true, true, true, true, true, true, true, true, true, true, true, false]) [] rfl (Ef.append (α := UInt8) (is' := [.own (.slice (some ⟨B27, 0, none⟩) 1 1) (lc ([(E23 ^^^ E25)]))]) [1, 0] H30 ke22 kz5 rfl rfl rfl rfl rfl (Can.own 0 rfl)) rfl rfl rfl rfl (fun _ => rfl) (fun V28 => ?_)
                refine TA.y (listed' := #[true, true, true, true, true, true, true, true, true, true, true, true, true]) 12 [] rfl (Y.assign rfl) rfl rfl rfl (by kernel_rfl) (by kernel_rfl) (by kernel_rfl) rfl rfl ?_
                refine TA.nil (by kernel_rfl) ?_
                refine TE.block_normal ?_
                refine TE.next ?_
                refine TW.region ?_
                refine TO.y (Y.move rfl) rfl rfl rfl ?_
                refine TO.y (Y.add rfl rfl) rfl rfl rfl ?_
                refine TO.y (Y.assign rfl) rfl rfl rfl ?_
                refine TO.nil ?_
                exact TE.lp_go V28 [0] ⟨rfl, rfl, rfl, rfl, rfl, rfl, rfl, rfl, trivial⟩ rfl
              · refine TW.exit ?_
                refine TE.then_exit ?_
                refine TE.lp_exit ?_
                refine TE.block_exit ?_
                exact TE.jn_go X16 [0] ⟨rfl, rfl, rfl, rfl, rfl, rfl, trivial⟩ rfl
          · refine TE.block_normal ?_
            refine TE.next ?_
            refine TW.region ?_
            refine TO.y (Y.move rfl) rfl rfl rfl ?_
            refine TO.y (Y.add rfl rfl) rfl rfl rfl ?_
            refine TO.y (Y.assign rfl) rfl rfl rfl ?_
            refine TO.nil ?_
            exact TE.lp_go X18 [0] ⟨rfl, rfl, rfl, rfl, rfl, rfl, trivial⟩ rfl
      · refine TW.exit ?_
        refine TE.then_exit ?_
        refine TE.lp_exit ?_
        refine TE.block_exit ?_
        exact TE.jn_go X7 [0] ⟨rfl, trivial⟩ rfl
    · refine TE.next ?_
      refine TW.seq ?_
      refine TW.region ?_
      refine TO.y (Y.move rfl) rfl rfl rfl ?_
      refine TO.y (Y.toStr ke22 ki5 ks9 (Can.own 0 rfl) rfl) rfl rfl rfl ?_
      refine TO.y (Y.assign rfl) rfl rfl rfl ?_
      refine TO.nil ?_
      refine TE.next ?_
      refine TW.ret ?_
      exact TE.leaf fun _ _ hf_ hs_ => ret_any (rs := [.tmp 8]) (vs := [strV T8]) (.inl rfl) rfl ⟨rfl, trivial⟩ hf_ hs_ ⟨(), rfl, hs_.pulls [] rfl⟩

/-- loop.example/g00950/spec.l1Digit -/
noncomputable def spec_l1Digit (k : Int) : Option UInt8 :=
  (sidx ([48, 49, 50, 51, 52, 53, 54, 55, 56, 57, 97, 98, 99, 100, 101, 102]) k).bind fun E1 =>
  some E1

theorem spec_l1Digit_con (k : Int)  (r : UInt8) (hm : spec_l1Digit k = some r) :
    Con Try.prog 34 [.int .i64 k] [] [] (fun _ : Unit => .int .u8 ((r.toNat : Nat) : Int)) (fun _ => []) := by
  refine Con.intro (args := [.int .i64 k]) (n := 5) (val := fun r (_ : Unit) => .int .u8 ((r.toNat : Nat) : Int)) (post := fun _ _ => []) (m := spec_l1Digit k) Try.func34 rfl rfl rfl hm ?_
  intro w S _
  unfold spec_l1Digit
  refine TW.seq ?_
  refine TW.region ?_
  refine TO.y (Y.assign rfl) rfl rfl rfl ?_
  refine TO.nil ?_
  refine TE.next ?_
  refine TW.seq ?_
  refine TW.region ?_
  refine TO.y (Y.move rfl) rfl rfl rfl ?_
  refine TO.bind fun E1 H2 => ?_
  refine TO.y (Y.sidx H2 ks9 rfl rfl) rfl rfl rfl ?_
  refine TO.y (Y.assign rfl) rfl rfl rfl ?_
  refine TO.nil ?_
  refine TE.next ?_
  refine TW.ret ?_
  exact TE.leaf fun _ _ hf_ hs_ => ret_any (rs := [.tmp 2]) (vs := [.int .u8 ((E1.toNat : Nat) : Int)]) (.inl rfl) rfl ⟨rfl, trivial⟩ hf_ hs_ ⟨(), rfl, hs_.pulls [] rfl⟩

/-- loop.example/g00950/spec.Hex -/
noncomputable def spec_Hex (s : List UInt8) : Option (List UInt8) :=
  bindC (loopO (fun (S2 : Int × List UInt8) => if (decide (S2.1 < ((s.length : Nat) : Int))) = true then ((sidx s S2.1).bind fun E7 =>
  (spec_l1Digit (IntKind.i64.wrap (Int.tdiv (IntKind.i64.wrap ((E7.toNat : Nat) : Int)) (16 : Int)))).bind fun R9 =>
  (spec_l1Digit (Int.tmod (IntKind.i64.wrap ((E7.toNat : Nat) : Int)) (16 : Int))).bind fun R12 =>
  (app 1 S2.2 ([R9, R12])).bind fun E17 =>
  some (.go (IntKind.i64.wrap (S2.1 + (1 : Int)), E17)))
  else (some (.done (.go S2.2))))
  ((0 : Int), ([] : List UInt8)))
  (fun (T4 : List UInt8) => some T4)

theorem spec_Hex_con (s : List UInt8)  (r : List UInt8) (hm : spec_Hex s = some r) :
    Con Try.prog 16 [strV s] [] [] (fun _ : Unit => strV r) (fun _ => []) := by
  refine Con.intro (args := [strV s]) (n := 29) (val := fun r (_ : Unit) => strV r) (post := fun _ _ => []) (m := spec_Hex s) Try.func16 rfl rfl rfl hm ?_
  intro w S _
  unfold spec_Hex
  refine TW.seq ?_
  refine TW.region ?_
  refine TO.y (Y.assign rfl) rfl rfl rfl ?_
  refine TO.nil ?_
  refine TE.next ?_
  refine TW.seq ?_
  refine TW.region ?_
  refine TO.ef (Ef.buildSlice (α := UInt8) (Vs := []) ([] : List UInt8) ke22 kz5 rfl rfl rfl rfl rfl) rfl rfl rfl (fun B1 => ?_)
  refine TO.y (Y.assign rfl) rfl rfl rfl ?_
  refine TO.nil ?_
  refine TE.next ?_
  refine TW.seq ?_
  refine TW.seq ?_
  refine TW.region ?_
  refine TO.y (Y.assign rfl) rfl rfl rfl ?_
  refine TO.nil ?_
  refine TE.next ?_
  refine TW.joinX (τ := List UInt8) (X := Value) (fun _ X => [(3, X)]) (fun T X => [.own X (lc T)]) ?_ (fun T4 X5 => ?_)
  · refine TW.block ?_
    refine TW.loopX (σ := Int × List UInt8) (X := Value) (fun T X => [(0, strV s), (3, X), (4, .int .i64 T.1)]) (fun T X => [.own X (lc T.2)]) (.slice (some ⟨B1, 0, none⟩) 0 0) [0] ⟨rfl, rfl, rfl, trivial⟩ rfl (fun S2 X3 => ?_)
    refine TW.seq ?_
    refine TW.seq ?_
    refine TW.region ?_
    refine TO.y (Y.move rfl) rfl rfl rfl ?_
    refine TO.y (Y.move rfl) rfl rfl rfl ?_
    refine TO.y (Y.slen ks9 rfl) rfl rfl rfl ?_
    refine TO.y (Y.lss rfl rfl) rfl rfl rfl ?_
    refine TO.nil ?_
    refine TE.next ?_
    refine TW.cond rfl (fun H6 => ?_) (fun H6 => ?_)
    · refine TW.skip ?_
      refine TE.next ?_
      refine TW.seq ?_
      refine TW.block ?_
      refine TW.draw (isH := []) hMix ?_
      refine TA.y (listed' := #[true, false, false, false, false, false, false, false, false, false, false, false, false, false, false, false]) 0 [] rfl (Y.move rfl) rfl rfl rfl (by kernel_rfl) (by kernel_rfl) (by kernel_rfl) rfl rfl ?_
      refine TA.y (listed' := #[true, true, false, false, false, false, false, false, false, false, false, false, false, false, false, false]) 1 [] rfl (Y.move rfl) rfl rfl rfl (by kernel_rfl) (by kernel_rfl) (by kernel_rfl) rfl rfl ?_
      refine TA.y (listed' := #[true, true, true, false, false, false, false, false, false, false, false, false, false, false, false, false]) 2 [] rfl (Y.move rfl) rfl rfl rfl (by kernel_rfl) (by kernel_rfl) (by kernel_rfl) rfl rfl ?_
      refine TA.bind fun E7 H8 => ?_
      refine TA.y (listed' := #[true, true, true, true, false, false, false, false, false, false, false, false, false, false, false, false]) 3 [] rfl (Y.sidx H8 ks9 rfl rfl) rfl rfl rfl (by kernel_rfl) (by kernel_rfl) (by kernel_rfl) rfl rfl ?_
      refine TA.y (listed' := #[true, true, true, true, true, false, false, false, false, false, false, false, false, false, false, false]) 4 [] rfl (Y.conv ki5 ki3 rfl) rfl rfl rfl (by kernel_rfl) (by kernel_rfl) (by kernel_rfl) rfl rfl ?_
      refine TA.y (listed' := #[true, true, true, true, true, true, false, false, false, false, false, false, false, false, false, false]) 5 [] rfl (Y.quo (by decide) rfl rfl) rfl rfl rfl (by kernel_rfl) (by kernel_rfl) (by kernel_rfl) rfl rfl ?_
      refine TA.y (listed' := #[true, true, true, true, true, true, false, true, false, false, false, false, false, false, false, false]) 7 [] rfl (Y.move rfl) rfl rfl rfl (by kernel_rfl) (by kernel_rfl) (by kernel_rfl) rfl rfl ?_
      refine TA.y (listed' := #[true, true, true, true, true, true, false, true, true, false, false, false, false, false, false, false]) 8 [] rfl (Y.move rfl) rfl rfl rfl (by kernel_rfl) (by kernel_rfl) (by kernel_rfl) rfl rfl ?_
      refine TA.y (listed' := #[true, true, true, true, true, true, false, true, true, true, false, false, false, false, false, false]) 9 [] rfl (Y.sidx H8 ks9 rfl rfl) rfl rfl rfl (by kernel_rfl) (by kernel_rfl) (by kernel_rfl) rfl rfl ?_
      refine TA.y (listed' := #[true, true, true, true, true, true, false, true, true, true, true, false, false, false, false, false]) 10 [] rfl (Y.conv ki5 ki3 rfl) rfl rfl rfl (by kernel_rfl) (by kernel_rfl) (by kernel_rfl) rfl rfl ?_
      refine TA.y (listed' := #[true, true, true, true, true, true, false, true, true, true, true, true, false, false, false, false]) 11 [] rfl (Y.rem (by decide) rfl rfl) rfl rfl rfl (by kernel_rfl) (by kernel_rfl) (by kernel_rfl) rfl rfl ?_
      refine TA.bind fun R9 H10 => ?_
      refine TA.one 6 (by kernel_rfl) ?_
      refine TX.ef (listed' := #[true, true, true, true, true, true, true, true, true, true, true, true, false, false, false, false]) [] rfl (Ef.call (rest := [.own X3 (lc S2.2)]) [0] (spec_l1Digit_con (IntKind.i64.wrap (Int.tdiv (IntKind.i64.wrap ((E7.toNat : Nat) : Int)) (16 : Int)))  R9 H10) kc34 rfl rfl trivial) rfl rfl rfl rfl (fun _ => rfl) (fun _ => ?_)
      refine TA.bind fun R12 H13 => ?_
      refine TA.one 12 (by kernel_rfl) ?_
      refine TX.ef (listed' := #[true, true, true, true, true, true, true, true, true, true, true, true, true, false, false, false]) [] rfl (Ef.call (rest := [.own X3 (lc S2.2)]) [0] (spec_l1Digit_con (Int.tmod (IntKind.i64.wrap ((E7.toNat : Nat) : Int)) (16 : Int))  R12 H13) kc34 rfl rfl trivial) rfl rfl rfl rfl (fun _ => rfl) (fun _ => ?_)
      refine TA.one 13 (by kernel_rfl) ?_
      refine TX.ef (listed' := #[true, true, true, true, true, true, true, true, true, true, true, true, true, true, false, false]) [] rfl (Ef.buildSlice (α := UInt8) (Vs := [.int .u8 ((R9.toNat : Nat) : Int), .int .u8 ((R12.toNat : Nat) : Int)]) [R9, R12] ke22 kz5 rfl rfl rfl rfl rfl) rfl rfl rfl rfl (fun _ => rfl) (fun B15 => ?_)
      refine TA.bind fun E17 H18 => ?_
      refine TA.one 14 (by kernel_rfl) ?_
      refine TX.ef (listed' := #[true, true, true, true, true, true, true, true, true, true, true, true, true, true, true, false]) [] rfl (Ef.append (α := UInt8) (is' := [.own (.slice (some ⟨B15, 0, none⟩) 2 2) (lc ([R9, R12]))]) [1, 0] H18 ke22 kz5 rfl rfl rfl rfl rfl (Can.own 0 rfl)) rfl rfl rfl rfl (fun _ => rfl) (fun V16 => ?_)
      refine TA.y (listed' := #[true, true, true, true, true, true, true, true, true, true, true, true, true, true, true, true]) 15 [] rfl (Y.assign rfl) rfl rfl rfl (by kernel_rfl) (by kernel_rfl) (by kernel_rfl) rfl rfl ?_
      refine TA.nil (by kernel_rfl) ?_
      refine TE.block_normal ?_
      refine TE.next ?_
      refine TW.region ?_
      refine TO.y (Y.move rfl) rfl rfl rfl ?_
      refine TO.y (Y.add rfl rfl) rfl rfl rfl ?_
      refine TO.y (Y.assign rfl) rfl rfl rfl ?_
      refine TO.nil ?_
      exact TE.lp_go V16 [0] ⟨rfl, rfl, rfl, trivial⟩ rfl
    · refine TW.exit ?_
      refine TE.then_exit ?_
      refine TE.lp_exit ?_
      refine TE.block_exit ?_
      exact TE.jn_go X3 [0] ⟨rfl, trivial⟩ rfl
  · refine TE.next ?_
    refine TW.seq ?_
    refine TW.region ?_
    refine TO.y (Y.move rfl) rfl rfl rfl ?_
    refine TO.y (Y.toStr ke22 ki5 ks9 (Can.own 0 rfl) rfl) rfl rfl rfl ?_
    refine TO.y (Y.assign rfl) rfl rfl rfl ?_
    refine TO.nil ?_
    refine TE.next ?_
    refine TW.ret ?_
    exact TE.leaf fun _ _ hf_ hs_ => ret_any (rs := [.tmp 2]) (vs := [strV T4]) (.inl rfl) rfl ⟨rfl, trivial⟩ hf_ hs_ ⟨(), rfl, hs_.pulls [] rfl⟩

/-- loop.example/g00950/laws.at -/
noncomputable def laws_at (code : List UInt8) (i : Int) : Option Int :=
  if (decide (i < ((code.length : Nat) : Int))) = true then ((idx code i).bind fun E2 =>
  some (IntKind.i64.wrap ((E2.toNat : Nat) : Int)))
  else (some (Int.tmod (IntKind.i64.wrap (IntKind.i64.wrap (i * (37 : Int)) + (IntKind.i64.wrap (((code.length : Nat) : Int) * (11 : Int))))) (256 : Int)))

theorem laws_at_con (code : List UInt8) (i : Int) (V_code0 : Value) (r : Int) (hm : laws_at code i = some r) :
    Con Try.prog 9 [V_code0, .int .i64 i] [] [(V_code0, lc code)] (fun _ : Unit => .int .i64 r) (fun _ => []) := by
  refine Con.intro (args := [V_code0, .int .i64 i]) (n := 21) (val := fun r (_ : Unit) => .int .i64 r) (post := fun _ _ => []) (m := laws_at code i) Try.func9 rfl rfl rfl hm ?_
  intro w S hrd
  have HB_V_code0 := hrd _ (.head _)
  clear hrd
  unfold laws_at
  refine TW.seq ?_
  refine TW.region ?_
  refine TO.y (Y.assign rfl) rfl rfl rfl ?_
  refine TO.nil ?_
  refine TE.next ?_
  refine TW.seq ?_
  refine TW.seq ?_
  refine TW.region ?_
  refine TO.y (Y.move rfl) rfl rfl rfl ?_
  refine TO.y (Y.move rfl) rfl rfl rfl ?_
  refine TO.y (Y.len (l := code) ke22 (Base.can HB_V_code0) rfl) rfl rfl rfl ?_
  refine TO.y (Y.lss rfl rfl) rfl rfl rfl ?_
  refine TO.nil ?_
  refine TE.next ?_
  refine TW.cond rfl (fun H1 => ?_) (fun H1 => ?_)
  · refine TW.seq ?_
    refine TW.region ?_
    refine TO.y (Y.move rfl) rfl rfl rfl ?_
    refine TO.y (Y.move rfl) rfl rfl rfl ?_
    refine TO.bind fun E2 H3 => ?_
    refine TO.y (Y.index ke22 (Base.can HB_V_code0) H3 rfl rfl) rfl rfl rfl ?_
    refine TO.y (Y.load_el (us := [.int .u8 ((E2.toNat : Nat) : Int)]) (u := .int .u8 ((E2.toNat : Nat) : Int)) kk5 rfl (Base.can HB_V_code0) (idx_get H3).2.2 rfl rfl rfl rfl rfl) rfl rfl rfl ?_
    refine TO.y (Y.conv ki5 ki3 rfl) rfl rfl rfl ?_
    refine TO.y (Y.assign rfl) rfl rfl rfl ?_
    refine TO.nil ?_
    refine TE.next ?_
    refine TW.ret ?_
    refine TE.then_ret ?_
    exact TE.leaf fun _ _ hf_ hs_ => ret_any (rs := [.tmp 4]) (vs := [.int .i64 (IntKind.i64.wrap ((E2.toNat : Nat) : Int))]) (.inl rfl) rfl ⟨rfl, trivial⟩ hf_ hs_ ⟨(), rfl, hs_.pulls [] rfl⟩
  · refine TW.skip ?_
    refine TE.next ?_
    refine TW.seq ?_
    refine TW.region ?_
    refine TO.y (Y.move rfl) rfl rfl rfl ?_
    refine TO.y (Y.mul rfl rfl) rfl rfl rfl ?_
    refine TO.y (Y.move rfl) rfl rfl rfl ?_
    refine TO.y (Y.len (l := code) ke22 (Base.can HB_V_code0) rfl) rfl rfl rfl ?_
    refine TO.y (Y.mul rfl rfl) rfl rfl rfl ?_
    refine TO.y (Y.add rfl rfl) rfl rfl rfl ?_
    refine TO.y (Y.rem (by decide) rfl rfl) rfl rfl rfl ?_
    refine TO.y (Y.assign rfl) rfl rfl rfl ?_
    refine TO.nil ?_
    refine TE.next ?_
    refine TW.ret ?_
    exact TE.leaf fun _ _ hf_ hs_ => ret_any (rs := [.tmp 4]) (vs := [.int .i64 (Int.tmod (IntKind.i64.wrap (IntKind.i64.wrap (i * (37 : Int)) + (IntKind.i64.wrap (((code.length : Nat) : Int) * (11 : Int))))) (256 : Int))]) (.inl rfl) rfl ⟨rfl, trivial⟩ hf_ hs_ ⟨(), rfl, hs_.pulls [] rfl⟩

/-- loop.example/g00950/impl.Fixed -/
noncomputable def impl_Fixed (n : Int) (width : Int) : Option (List UInt8) :=
  ((impl_inRange width (1 : Int) (7 : Int)).bind fun R3 =>
  if (!R3) = true then (some true)
  else (if (decide (n < (0 : Int))) = true then (some true)
  else (some (!(decide (ishr .i64 n (IntKind.u64.wrap (IntKind.i64.wrap ((8 : Int) * width))) = (0 : Int))))))).bind (fun (T1 : Bool) =>
  if T1 = true then (some ([]))
  else ((mkLen 1 width).bind fun E10 =>
  bindC (loopO (fun (S12 : Int × Int × List UInt8) => if (decide (S12.2.1 ≥ (0 : Int))) = true then ((idx S12.2.2 S12.2.1).bind fun E17 =>
  some (.go (ishr .i64 S12.1 (8 : Int), IntKind.i64.wrap (S12.2.1 - (1 : Int)), (S12.2.2.set S12.2.1.toNat (toU8 S12.1)))))
  else (some (.done (.go S12.2.2))))
  (n, IntKind.i64.wrap (width - (1 : Int)), (List.replicate E10 (0 : UInt8))))
  (fun (T14 : List UInt8) => some T14)))

theorem impl_Fixed_con (n : Int) (width : Int)  (r : List UInt8) (hm : impl_Fixed n width = some r) :
    Con Try.prog 36 [.int .i64 n, .int .i64 width] [] [] (fun _ : Unit => strV r) (fun _ => []) := by
  refine Con.intro (args := [.int .i64 n, .int .i64 width]) (n := 39) (val := fun r (_ : Unit) => strV r) (post := fun _ _ => []) (m := impl_Fixed n width) Try.func36 rfl rfl rfl hm ?_
  intro w S _
  unfold impl_Fixed
  refine TW.seq ?_
  refine TW.region ?_
  refine TO.y (Y.assign rfl) rfl rfl rfl ?_
  refine TO.nil ?_
  refine TE.next ?_
  refine TW.seq ?_
  refine TW.seq ?_
  refine TW.joinBX (τ := Bool) (X := Unit) (fun T _ => [(0, .int .i64 n), (1, .int .i64 width), (21, .bool T)]) (fun _ _ => []) ?_ (fun T1 X2 => ?_)
  · refine TW.region ?_
    refine TO.y (Y.move rfl) rfl rfl rfl ?_
    refine TO.bind fun R3 H4 => ?_
    refine TO.ef (Ef.call (rest := []) [] (impl_inRange_con width (1 : Int) (7 : Int)  R3 H4) kc35 rfl rfl trivial) rfl rfl rfl (fun _ => ?_)
    refine TO.y (Y.not rfl) rfl rfl rfl ?_
    refine TO.y (Y.move rfl) rfl rfl rfl ?_
    refine TO.ite (b := !R3) (fun H6 => ?_) (fun H6 => ?_)
    · refine TO.off (Gd.at 3 false 10 (!R3) rfl rfl rfl (beq_tf H6)) rfl rfl ?_
      refine TO.off (Gd.at 3 false 10 (!R3) rfl rfl rfl (beq_tf H6)) rfl rfl ?_
      refine TO.y (Y.pick_t H6 rfl rfl) rfl rfl rfl ?_
      refine TO.y (Y.move rfl) rfl rfl rfl ?_
      refine TO.off (Gd.at 7 false 14 true rfl rfl rfl rfl) rfl rfl ?_
      refine TO.off (Gd.at 7 false 14 true rfl rfl rfl rfl) rfl rfl ?_
      refine TO.off (Gd.at 7 false 14 true rfl rfl rfl rfl) rfl rfl ?_
      refine TO.off (Gd.at 7 false 14 true rfl rfl rfl rfl) rfl rfl ?_
      refine TO.off (Gd.at 7 false 14 true rfl rfl rfl rfl) rfl rfl ?_
      refine TO.off (Gd.at 7 false 14 true rfl rfl rfl rfl) rfl rfl ?_
      refine TO.y (Y.pick_t rfl rfl rfl) rfl rfl rfl ?_
      refine TO.nil ?_
      exact TE.jb_go () [] ⟨rfl, rfl, rfl, trivial⟩ rfl
    · refine TO.y (Y.move rfl) (Gd.at 3 false 10 (!R3) rfl rfl rfl (beq_ff H6)) rfl rfl ?_
      refine TO.y (Y.lss rfl rfl) (Gd.at 3 false 10 (!R3) rfl rfl rfl (beq_ff H6)) rfl rfl ?_
      refine TO.y (Y.pick_f H6 rfl rfl) rfl rfl rfl ?_
      refine TO.y (Y.move rfl) rfl rfl rfl ?_
      refine TO.ite (b := decide (n < (0 : Int))) (fun H7 => ?_) (fun H7 => ?_)
      · refine TO.off (Gd.at 7 false 14 (decide (n < (0 : Int))) rfl rfl rfl (beq_tf H7)) rfl rfl ?_
        refine TO.off (Gd.at 7 false 14 (decide (n < (0 : Int))) rfl rfl rfl (beq_tf H7)) rfl rfl ?_
        refine TO.off (Gd.at 7 false 14 (decide (n < (0 : Int))) rfl rfl rfl (beq_tf H7)) rfl rfl ?_
        refine TO.off (Gd.at 7 false 14 (decide (n < (0 : Int))) rfl rfl rfl (beq_tf H7)) rfl rfl ?_
        refine TO.off (Gd.at 7 false 14 (decide (n < (0 : Int))) rfl rfl rfl (beq_tf H7)) rfl rfl ?_
        refine TO.off (Gd.at 7 false 14 (decide (n < (0 : Int))) rfl rfl rfl (beq_tf H7)) rfl rfl ?_
        refine TO.y (Y.pick_t H7 rfl rfl) rfl rfl rfl ?_
        refine TO.nil ?_
        exact TE.jb_go () [] ⟨rfl, rfl, rfl, trivial⟩ rfl
      · refine TO.y (Y.move rfl) (Gd.at 7 false 14 (decide (n < (0 : Int))) rfl rfl rfl (beq_ff H7)) rfl rfl ?_
        refine TO.y (Y.move rfl) (Gd.at 7 false 14 (decide (n < (0 : Int))) rfl rfl rfl (beq_ff H7)) rfl rfl ?_
        refine TO.y (Y.mul rfl rfl) (Gd.at 7 false 14 (decide (n < (0 : Int))) rfl rfl rfl (beq_ff H7)) rfl rfl ?_
        refine TO.y (Y.conv ki3 ki52 rfl) (Gd.at 7 false 14 (decide (n < (0 : Int))) rfl rfl rfl (beq_ff H7)) rfl rfl ?_
        refine TO.y (Y.shr (wrap_u_nonneg rfl _) rfl rfl) (Gd.at 7 false 14 (decide (n < (0 : Int))) rfl rfl rfl (beq_ff H7)) rfl rfl ?_
        refine TO.y (Y.neq rfl rfl) (Gd.at 7 false 14 (decide (n < (0 : Int))) rfl rfl rfl (beq_ff H7)) rfl rfl ?_
        refine TO.y (Y.pick_f H7 rfl rfl) rfl rfl rfl ?_
        refine TO.nil ?_
        exact TE.jb_go () [] ⟨rfl, rfl, rfl, trivial⟩ rfl
  · refine TE.next ?_
    refine TW.cond rfl (fun H8 => ?_) (fun H8 => ?_)
    · refine TW.seq ?_
      refine TW.region ?_
      refine TO.y (Y.assign rfl) rfl rfl rfl ?_
      refine TO.nil ?_
      refine TE.next ?_
      refine TW.ret ?_
      refine TE.then_ret ?_
      exact TE.leaf fun _ _ hf_ hs_ => ret_any (rs := [.tmp 4]) (vs := [strV ([])]) (.inl rfl) rfl ⟨rfl, trivial⟩ hf_ hs_ ⟨(), rfl, hs_.pulls [] rfl⟩
    · refine TW.skip ?_
      refine TE.next ?_
      refine TW.seq ?_
      refine TW.region ?_
      refine TO.y (Y.move rfl) rfl rfl rfl ?_
      refine TO.bind fun E10 H11 => ?_
      refine TO.ef (Ef.make (α := UInt8) (z := (0 : UInt8)) H11 ke22 kz5 rfl rfl rfl rfl) rfl rfl rfl (fun V9 => ?_)
      refine TO.y (Y.assign rfl) rfl rfl rfl ?_
      refine TO.nil ?_
      refine TE.next ?_
      refine TW.seq ?_
      refine TW.seq ?_
      refine TW.region ?_
      refine TO.y (Y.move rfl) rfl rfl rfl ?_
      refine TO.y (Y.sub rfl rfl) rfl rfl rfl ?_
      refine TO.y (Y.assign rfl) rfl rfl rfl ?_
      refine TO.nil ?_
      refine TE.next ?_
      refine TW.joinX (τ := List UInt8) (X := Unit) (fun _ _ => [(5, V9)]) (fun T _ => [.own V9 (lc T)]) ?_ (fun T14 X15 => ?_)
      · refine TW.block ?_
        refine TW.loopX (σ := Int × Int × List UInt8) (X := Unit) (fun T _ => [(0, .int .i64 T.1), (5, V9), (6, .int .i64 T.2.1)]) (fun T _ => [.own V9 (lc T.2.2)]) () [0] ⟨rfl, rfl, rfl, trivial⟩ rfl (fun S12 X13 => ?_)
        refine TW.seq ?_
        refine TW.seq ?_
        refine TW.region ?_
        refine TO.y (Y.move rfl) rfl rfl rfl ?_
        refine TO.y (Y.geq rfl rfl) rfl rfl rfl ?_
        refine TO.nil ?_
        refine TE.next ?_
        refine TW.cond rfl (fun H16 => ?_) (fun H16 => ?_)
        · refine TW.skip ?_
          refine TE.next ?_
          refine TW.seq ?_
          refine TW.block ?_
          refine TW.seq ?_
          refine TW.region ?_
          refine TO.y (Y.move rfl) rfl rfl rfl ?_
          refine TO.y (Y.move rfl) rfl rfl rfl ?_
          refine TO.y (Y.move rfl) rfl rfl rfl ?_
          refine TO.y (Y.conv8 ki3 ki5 rfl) rfl rfl rfl ?_
          refine TO.bind fun E17 H18 => ?_
          refine TO.y (Y.index ke22 (Can.own 0 rfl) H18 rfl rfl) rfl rfl rfl ?_
          refine TO.ef0 (Ef.store_el (us := [.int .u8 (((toU8 S12.1).toNat : Nat) : Int)]) (is' := [.own V9 (lc (S12.2.2.set S12.2.1.toNat (toU8 S12.1)))]) (toU8 S12.1) 0 kk5 rfl rfl (idx_get H18).2.2 rfl rfl (Cel.plain rfl rfl) rfl rfl rfl rfl) rfl rfl (fun _ => ?_)
          refine TO.nil ?_
          refine TE.next ?_
          refine TW.region ?_
          refine TO.y (Y.move rfl) rfl rfl rfl ?_
          refine TO.y (Y.shr (by decide) rfl rfl) rfl rfl rfl ?_
          refine TO.y (Y.assign rfl) rfl rfl rfl ?_
          refine TO.nil ?_
          refine TE.block_normal ?_
          refine TE.next ?_
          refine TW.region ?_
          refine TO.y (Y.move rfl) rfl rfl rfl ?_
          refine TO.y (Y.sub rfl rfl) rfl rfl rfl ?_
          refine TO.y (Y.assign rfl) rfl rfl rfl ?_
          refine TO.nil ?_
          exact TE.lp_go () [0] ⟨rfl, rfl, rfl, trivial⟩ rfl
        · refine TW.exit ?_
          refine TE.then_exit ?_
          refine TE.lp_exit ?_
          refine TE.block_exit ?_
          exact TE.jn_go () [0] ⟨rfl, trivial⟩ rfl
      · refine TE.next ?_
        refine TW.seq ?_
        refine TW.region ?_
        refine TO.y (Y.move rfl) rfl rfl rfl ?_
        refine TO.y (Y.toStr ke22 ki5 ks9 (Can.own 0 rfl) rfl) rfl rfl rfl ?_
        refine TO.y (Y.assign rfl) rfl rfl rfl ?_
        refine TO.nil ?_
        refine TE.next ?_
        refine TW.ret ?_
        exact TE.leaf fun _ _ hf_ hs_ => ret_any (rs := [.tmp 4]) (vs := [strV T14]) (.inl rfl) rfl ⟨rfl, trivial⟩ hf_ hs_ ⟨(), rfl, hs_.pulls [] rfl⟩

end Go.Proofs.Ytbocplhlbbhblaa
