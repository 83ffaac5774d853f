/-
  The functions that a law reaches, each as a pure function, with the proof that the program computes it, and the step from a pure law to the given statement. Conditions: none.
-/
import Derived.Test.YtedpnkndjbhpnaaT3
set_option linter.unusedVariables false
set_option maxRecDepth 100000
set_option maxHeartbeats 4000000
namespace Go.Proofs.Ytedpnkndjbhpnaa
open Go Sl

/-- loop.example/g00950/impl.quarter -/
noncomputable def impl_quarter (w_ : List Wrd) (a : Int) (b : Int) (c : Int) (d : Int) : Option (List Wrd) :=
  (idx w_ a).bind fun E1 =>
  (idx w_ b).bind fun E3 =>
  (idx (w_.set a.toNat (Wrd.mk (IntKind.u32.wrap (E1.v + E3.v)))) d).bind fun E7 =>
  (idx (w_.set a.toNat (Wrd.mk (IntKind.u32.wrap (E1.v + E3.v)))) a).bind fun E9 =>
  (math_bits_RotateLeft32 (ixor .u32 E7.v E9.v) (16 : Int)).bind fun R11 =>
  (idx ((w_.set a.toNat (Wrd.mk (IntKind.u32.wrap (E1.v + E3.v)))).set d.toNat (Wrd.mk R11)) c).bind fun E16 =>
  (idx ((w_.set a.toNat (Wrd.mk (IntKind.u32.wrap (E1.v + E3.v)))).set d.toNat (Wrd.mk R11)) d).bind fun E18 =>
  (idx (((w_.set a.toNat (Wrd.mk (IntKind.u32.wrap (E1.v + E3.v)))).set d.toNat (Wrd.mk R11)).set c.toNat (Wrd.mk (IntKind.u32.wrap (E16.v + E18.v)))) b).bind fun E22 =>
  (idx (((w_.set a.toNat (Wrd.mk (IntKind.u32.wrap (E1.v + E3.v)))).set d.toNat (Wrd.mk R11)).set c.toNat (Wrd.mk (IntKind.u32.wrap (E16.v + E18.v)))) c).bind fun E24 =>
  (math_bits_RotateLeft32 (ixor .u32 E22.v E24.v) (12 : Int)).bind fun R26 =>
  (idx ((((w_.set a.toNat (Wrd.mk (IntKind.u32.wrap (E1.v + E3.v)))).set d.toNat (Wrd.mk R11)).set c.toNat (Wrd.mk (IntKind.u32.wrap (E16.v + E18.v)))).set b.toNat (Wrd.mk R26)) a).bind fun E31 =>
  (idx ((((w_.set a.toNat (Wrd.mk (IntKind.u32.wrap (E1.v + E3.v)))).set d.toNat (Wrd.mk R11)).set c.toNat (Wrd.mk (IntKind.u32.wrap (E16.v + E18.v)))).set b.toNat (Wrd.mk R26)) b).bind fun E33 =>
  (idx (((((w_.set a.toNat (Wrd.mk (IntKind.u32.wrap (E1.v + E3.v)))).set d.toNat (Wrd.mk R11)).set c.toNat (Wrd.mk (IntKind.u32.wrap (E16.v + E18.v)))).set b.toNat (Wrd.mk R26)).set a.toNat (Wrd.mk (IntKind.u32.wrap (E31.v + E33.v)))) d).bind fun E37 =>
  (idx (((((w_.set a.toNat (Wrd.mk (IntKind.u32.wrap (E1.v + E3.v)))).set d.toNat (Wrd.mk R11)).set c.toNat (Wrd.mk (IntKind.u32.wrap (E16.v + E18.v)))).set b.toNat (Wrd.mk R26)).set a.toNat (Wrd.mk (IntKind.u32.wrap (E31.v + E33.v)))) a).bind fun E39 =>
  (math_bits_RotateLeft32 (ixor .u32 E37.v E39.v) (8 : Int)).bind fun R41 =>
  (idx ((((((w_.set a.toNat (Wrd.mk (IntKind.u32.wrap (E1.v + E3.v)))).set d.toNat (Wrd.mk R11)).set c.toNat (Wrd.mk (IntKind.u32.wrap (E16.v + E18.v)))).set b.toNat (Wrd.mk R26)).set a.toNat (Wrd.mk (IntKind.u32.wrap (E31.v + E33.v)))).set d.toNat (Wrd.mk R41)) c).bind fun E46 =>
  (idx ((((((w_.set a.toNat (Wrd.mk (IntKind.u32.wrap (E1.v + E3.v)))).set d.toNat (Wrd.mk R11)).set c.toNat (Wrd.mk (IntKind.u32.wrap (E16.v + E18.v)))).set b.toNat (Wrd.mk R26)).set a.toNat (Wrd.mk (IntKind.u32.wrap (E31.v + E33.v)))).set d.toNat (Wrd.mk R41)) d).bind fun E48 =>
  (idx (((((((w_.set a.toNat (Wrd.mk (IntKind.u32.wrap (E1.v + E3.v)))).set d.toNat (Wrd.mk R11)).set c.toNat (Wrd.mk (IntKind.u32.wrap (E16.v + E18.v)))).set b.toNat (Wrd.mk R26)).set a.toNat (Wrd.mk (IntKind.u32.wrap (E31.v + E33.v)))).set d.toNat (Wrd.mk R41)).set c.toNat (Wrd.mk (IntKind.u32.wrap (E46.v + E48.v)))) b).bind fun E52 =>
  (idx (((((((w_.set a.toNat (Wrd.mk (IntKind.u32.wrap (E1.v + E3.v)))).set d.toNat (Wrd.mk R11)).set c.toNat (Wrd.mk (IntKind.u32.wrap (E16.v + E18.v)))).set b.toNat (Wrd.mk R26)).set a.toNat (Wrd.mk (IntKind.u32.wrap (E31.v + E33.v)))).set d.toNat (Wrd.mk R41)).set c.toNat (Wrd.mk (IntKind.u32.wrap (E46.v + E48.v)))) c).bind fun E54 =>
  (math_bits_RotateLeft32 (ixor .u32 E52.v E54.v) (7 : Int)).bind fun R56 =>
  some ((((((((w_.set a.toNat (Wrd.mk (IntKind.u32.wrap (E1.v + E3.v)))).set d.toNat (Wrd.mk R11)).set c.toNat (Wrd.mk (IntKind.u32.wrap (E16.v + E18.v)))).set b.toNat (Wrd.mk R26)).set a.toNat (Wrd.mk (IntKind.u32.wrap (E31.v + E33.v)))).set d.toNat (Wrd.mk R41)).set c.toNat (Wrd.mk (IntKind.u32.wrap (E46.v + E48.v)))).set b.toNat (Wrd.mk R56))

theorem impl_quarter_con (w_ : List Wrd) (a : Int) (b : Int) (c : Int) (d : Int) (B_w_ : Nat) (r : List Wrd) (hm : impl_quarter w_ a b c d = some r) :
    Con Try.prog 71 [.pointer (some ⟨B_w_, 0, none⟩), .int .i64 a, .int .i64 b, .int .i64 c, .int .i64 d] [.own (arrS B_w_ 16) (lc w_)] [] (fun _ : Unit => .tuple #[]) (fun _ => [.own (arrS B_w_ 16) (lc r)]) := by
  refine Con.intro (args := [.pointer (some ⟨B_w_, 0, none⟩), .int .i64 a, .int .i64 b, .int .i64 c, .int .i64 d]) (n := 126) (val := fun _ (_ : Unit) => .tuple #[]) (post := fun r _ => [.own (arrS B_w_ 16) (lc r)]) (m := impl_quarter w_ a b c d) Try.func71 rfl rfl rfl hm ?_
  intro w S _
  unfold impl_quarter
  refine TW.seq ?_
  refine TW.bind fun E1 H2 => ?_
  refine TW.bind fun E3 H4 => ?_
  refine TW.joinU (X := Unit) (fun _ _ => [(0, .pointer (some ⟨B_w_, 0, none⟩)), (1, .int .i64 a), (2, .int .i64 b), (3, .int .i64 c), (4, .int .i64 d)]) (fun _ _ => [.own (arrS B_w_ 16) (lc (w_.set a.toNat (Wrd.mk (IntKind.u32.wrap (E1.v + E3.v)))))]) ?_ (fun _ X6 => ?_)
  · refine TW.draw (isH := []) hMix ?_
    refine TA.y (listed' := #[true, false, false, false, false, false, false, false, false, false, false, false, false, false]) 0 [] rfl (Y.move rfl) rfl rfl rfl (by kernel_rfl) (by kernel_rfl) (by kernel_rfl) rfl rfl ?_
    refine TA.y (listed' := #[true, true, false, false, false, false, false, false, false, false, false, false, false, false]) 1 [] rfl (Y.move rfl) rfl rfl rfl (by kernel_rfl) (by kernel_rfl) (by kernel_rfl) rfl rfl ?_
    refine TA.y (listed' := #[true, true, true, false, false, false, false, false, false, false, false, false, false, false]) 2 [] rfl (Y.nilCheck rfl) rfl rfl rfl (by kernel_rfl) (by kernel_rfl) (by kernel_rfl) rfl rfl ?_
    refine TA.y (listed' := #[true, true, true, false, false, true, false, false, false, false, false, false, false, false]) 5 [] rfl (Y.move rfl) rfl rfl rfl (by kernel_rfl) (by kernel_rfl) (by kernel_rfl) rfl rfl ?_
    refine TA.y (listed' := #[true, true, true, false, false, true, true, false, false, false, false, false, false, false]) 6 [] rfl (Y.move rfl) rfl rfl rfl (by kernel_rfl) (by kernel_rfl) (by kernel_rfl) rfl rfl ?_
    refine TA.y (listed' := #[true, true, true, false, false, true, true, true, false, false, false, false, false, false]) 7 [] rfl (Y.nilCheck rfl) rfl rfl rfl (by kernel_rfl) (by kernel_rfl) (by kernel_rfl) rfl rfl ?_
    refine TA.y (listed' := #[true, true, true, false, false, true, true, true, false, false, false, true, false, false]) 11 [] rfl (Y.nilCheck rfl) rfl rfl rfl (by kernel_rfl) (by kernel_rfl) (by kernel_rfl) rfl rfl ?_
    refine TA.two 3 8 (by kernel_rfl) ?_ ?_
    · refine TX.y (listed' := #[true, true, true, true, false, true, true, true, false, false, false, true, false, false]) [] rfl (Y.index_arr (α := Wrd) ka101 (Can.own 0 rfl) H2 rfl rfl) rfl rfl rfl rfl rfl ?_
      refine TA.two 4 8 (by kernel_rfl) ?_ ?_
      · refine TX.y (listed' := #[true, true, true, true, true, true, true, true, false, false, false, true, false, false]) [] rfl (Y.load_el (us := [.int .u32 E1.v]) (u := .int .u32 E1.v) kk100 rfl (Can.own 0 rfl) (idx_get H2).2.2 rfl rfl rfl rfl rfl) rfl rfl rfl rfl rfl ?_
        refine TA.one 8 (by kernel_rfl) ?_
        refine TX.y (listed' := #[true, true, true, true, true, true, true, true, true, false, false, true, false, false]) [] rfl (Y.index_arr (α := Wrd) ka101 (Can.own 0 rfl) H4 rfl rfl) rfl rfl rfl rfl rfl ?_
        refine TA.one 9 (by kernel_rfl) ?_
        refine TX.y (listed' := #[true, true, true, true, true, true, true, true, true, true, false, true, false, false]) [] rfl (Y.load_el (us := [.int .u32 E3.v]) (u := .int .u32 E3.v) kk100 rfl (Can.own 0 rfl) (idx_get H4).2.2 rfl rfl rfl rfl rfl) rfl rfl rfl rfl rfl ?_
        refine TA.y (listed' := #[true, true, true, true, true, true, true, true, true, true, true, true, false, false]) 10 [] rfl (Y.add rfl rfl) rfl rfl rfl (by kernel_rfl) (by kernel_rfl) (by kernel_rfl) rfl rfl ?_
        refine TA.one 12 (by kernel_rfl) ?_
        refine TX.y (listed' := #[true, true, true, true, true, true, true, true, true, true, true, true, true, false]) [] rfl (Y.index_arr (α := Wrd) ka101 (Can.own 0 rfl) H2 rfl rfl) rfl rfl rfl rfl rfl ?_
        refine TA.one 13 (by kernel_rfl) ?_
        refine TX.ef0 (listed' := #[true, true, true, true, true, true, true, true, true, true, true, true, true, true]) [] rfl (Ef.store_el (us := [.int .u32 (IntKind.u32.wrap (E1.v + E3.v))]) (is' := [.own (arrS B_w_ 16) (lc (w_.set a.toNat (Wrd.mk (IntKind.u32.wrap (E1.v + E3.v)))))]) (Wrd.mk (IntKind.u32.wrap (E1.v + E3.v))) 0 kk100 rfl rfl (idx_get H2).2.2 rfl rfl (Cel.plain rfl rfl) rfl rfl rfl rfl) rfl rfl rfl (fun _ => rfl) (fun _ => ?_)
        refine TA.nil (by kernel_rfl) ?_
        exact TE.jb_go () [0] ⟨rfl, rfl, rfl, rfl, rfl, trivial⟩ rfl
      · refine TX.y (listed' := #[true, true, true, true, false, true, true, true, true, false, false, true, false, false]) [] rfl (Y.index_arr (α := Wrd) ka101 (Can.own 0 rfl) H4 rfl rfl) rfl rfl rfl rfl rfl ?_
        refine TA.two 4 9 (by kernel_rfl) ?_ ?_
        · refine TX.y (listed' := #[true, true, true, true, true, true, true, true, true, false, false, true, false, false]) [] rfl (Y.load_el (us := [.int .u32 E1.v]) (u := .int .u32 E1.v) kk100 rfl (Can.own 0 rfl) (idx_get H2).2.2 rfl rfl rfl rfl rfl) rfl rfl rfl rfl rfl ?_
          refine TA.one 9 (by kernel_rfl) ?_
          refine TX.y (listed' := #[true, true, true, true, true, true, true, true, true, true, false, true, false, false]) [] rfl (Y.load_el (us := [.int .u32 E3.v]) (u := .int .u32 E3.v) kk100 rfl (Can.own 0 rfl) (idx_get H4).2.2 rfl rfl rfl rfl rfl) rfl rfl rfl rfl rfl ?_
          refine TA.y (listed' := #[true, true, true, true, true, true, true, true, true, true, true, true, false, false]) 10 [] rfl (Y.add rfl rfl) rfl rfl rfl (by kernel_rfl) (by kernel_rfl) (by kernel_rfl) rfl rfl ?_
          refine TA.one 12 (by kernel_rfl) ?_
          refine TX.y (listed' := #[true, true, true, true, true, true, true, true, true, true, true, true, true, false]) [] rfl (Y.index_arr (α := Wrd) ka101 (Can.own 0 rfl) H2 rfl rfl) rfl rfl rfl rfl rfl ?_
          refine TA.one 13 (by kernel_rfl) ?_
          refine TX.ef0 (listed' := #[true, true, true, true, true, true, true, true, true, true, true, true, true, true]) [] rfl (Ef.store_el (us := [.int .u32 (IntKind.u32.wrap (E1.v + E3.v))]) (is' := [.own (arrS B_w_ 16) (lc (w_.set a.toNat (Wrd.mk (IntKind.u32.wrap (E1.v + E3.v)))))]) (Wrd.mk (IntKind.u32.wrap (E1.v + E3.v))) 0 kk100 rfl rfl (idx_get H2).2.2 rfl rfl (Cel.plain rfl rfl) rfl rfl rfl rfl) rfl rfl rfl (fun _ => rfl) (fun _ => ?_)
          refine TA.nil (by kernel_rfl) ?_
          exact TE.jb_go () [0] ⟨rfl, rfl, rfl, rfl, rfl, trivial⟩ rfl
        · refine TX.y (listed' := #[true, true, true, true, false, true, true, true, true, true, false, true, false, false]) [] rfl (Y.load_el (us := [.int .u32 E3.v]) (u := .int .u32 E3.v) kk100 rfl (Can.own 0 rfl) (idx_get H4).2.2 rfl rfl rfl rfl rfl) rfl rfl rfl rfl rfl ?_
          refine TA.one 4 (by kernel_rfl) ?_
          refine TX.y (listed' := #[true, true, true, true, true, true, true, true, true, true, false, true, false, false]) [] rfl (Y.load_el (us := [.int .u32 E1.v]) (u := .int .u32 E1.v) kk100 rfl (Can.own 0 rfl) (idx_get H2).2.2 rfl rfl rfl rfl rfl) rfl rfl rfl rfl rfl ?_
          refine TA.y (listed' := #[true, true, true, true, true, true, true, true, true, true, true, true, false, false]) 10 [] rfl (Y.add rfl rfl) rfl rfl rfl (by kernel_rfl) (by kernel_rfl) (by kernel_rfl) rfl rfl ?_
          refine TA.one 12 (by kernel_rfl) ?_
          refine TX.y (listed' := #[true, true, true, true, true, true, true, true, true, true, true, true, true, false]) [] rfl (Y.index_arr (α := Wrd) ka101 (Can.own 0 rfl) H2 rfl rfl) rfl rfl rfl rfl rfl ?_
          refine TA.one 13 (by kernel_rfl) ?_
          refine TX.ef0 (listed' := #[true, true, true, true, true, true, true, true, true, true, true, true, true, true]) [] rfl (Ef.store_el (us := [.int .u32 (IntKind.u32.wrap (E1.v + E3.v))]) (is' := [.own (arrS B_w_ 16) (lc (w_.set a.toNat (Wrd.mk (IntKind.u32.wrap (E1.v + E3.v)))))]) (Wrd.mk (IntKind.u32.wrap (E1.v + E3.v))) 0 kk100 rfl rfl (idx_get H2).2.2 rfl rfl (Cel.plain rfl rfl) rfl rfl rfl rfl) rfl rfl rfl (fun _ => rfl) (fun _ => ?_)
          refine TA.nil (by kernel_rfl) ?_
          exact TE.jb_go () [0] ⟨rfl, rfl, rfl, rfl, rfl, trivial⟩ rfl
    · refine TX.y (listed' := #[true, true, true, false, false, true, true, true, true, false, false, true, false, false]) [] rfl (Y.index_arr (α := Wrd) ka101 (Can.own 0 rfl) H4 rfl rfl) rfl rfl rfl rfl rfl ?_
      refine TA.two 3 9 (by kernel_rfl) ?_ ?_
      · refine TX.y (listed' := #[true, true, true, true, false, true, true, true, true, false, false, true, false, false]) [] rfl (Y.index_arr (α := Wrd) ka101 (Can.own 0 rfl) H2 rfl rfl) rfl rfl rfl rfl rfl ?_
        refine TA.two 4 9 (by kernel_rfl) ?_ ?_
        · refine TX.y (listed' := #[true, true, true, true, true, true, true, true, true, false, false, true, false, false]) [] rfl (Y.load_el (us := [.int .u32 E1.v]) (u := .int .u32 E1.v) kk100 rfl (Can.own 0 rfl) (idx_get H2).2.2 rfl rfl rfl rfl rfl) rfl rfl rfl rfl rfl ?_
          refine TA.one 9 (by kernel_rfl) ?_
          refine TX.y (listed' := #[true, true, true, true, true, true, true, true, true, true, false, true, false, false]) [] rfl (Y.load_el (us := [.int .u32 E3.v]) (u := .int .u32 E3.v) kk100 rfl (Can.own 0 rfl) (idx_get H4).2.2 rfl rfl rfl rfl rfl) rfl rfl rfl rfl rfl ?_
          refine TA.y (listed' := #[true, true, true, true, true, true, true, true, true, true, true, true, false, false]) 10 [] rfl (Y.add rfl rfl) rfl rfl rfl (by kernel_rfl) (by kernel_rfl) (by kernel_rfl) rfl rfl ?_
          refine TA.one 12 (by kernel_rfl) ?_
          refine TX.y (listed' := #[true, true, true, true, true, true, true, true, true, true, true, true, true, false]) [] rfl (Y.index_arr (α := Wrd) ka101 (Can.own 0 rfl) H2 rfl rfl) rfl rfl rfl rfl rfl ?_
          refine TA.one 13 (by kernel_rfl) ?_
          refine TX.ef0 (listed' := #[true, true, true, true, true, true, true, true, true, true, true, true, true, true]) [] rfl (Ef.store_el (us := [.int .u32 (IntKind.u32.wrap (E1.v + E3.v))]) (is' := [.own (arrS B_w_ 16) (lc (w_.set a.toNat (Wrd.mk (IntKind.u32.wrap (E1.v + E3.v)))))]) (Wrd.mk (IntKind.u32.wrap (E1.v + E3.v))) 0 kk100 rfl rfl (idx_get H2).2.2 rfl rfl (Cel.plain rfl rfl) rfl rfl rfl rfl) rfl rfl rfl (fun _ => rfl) (fun _ => ?_)
          refine TA.nil (by kernel_rfl) ?_
          exact TE.jb_go () [0] ⟨rfl, rfl, rfl, rfl, rfl, trivial⟩ rfl
        · refine TX.y (listed' := #[true, true, true, true, false, true, true, true, true, true, false, true, false, false]) [] rfl (Y.load_el (us := [.int .u32 E3.v]) (u := .int .u32 E3.v) kk100 rfl (Can.own 0 rfl) (idx_get H4).2.2 rfl rfl rfl rfl rfl) rfl rfl rfl rfl rfl ?_
          refine TA.one 4 (by kernel_rfl) ?_
          refine TX.y (listed' := #[true, true, true, true, true, true, true, true, true, true, false, true, false, false]) [] rfl (Y.load_el (us := [.int .u32 E1.v]) (u := .int .u32 E1.v) kk100 rfl (Can.own 0 rfl) (idx_get H2).2.2 rfl rfl rfl rfl rfl) rfl rfl rfl rfl rfl ?_
          refine TA.y (listed' := #[true, true, true, true, true, true, true, true, true, true, true, true, false, false]) 10 [] rfl (Y.add rfl rfl) rfl rfl rfl (by kernel_rfl) (by kernel_rfl) (by kernel_rfl) rfl rfl ?_
          refine TA.one 12 (by kernel_rfl) ?_
          refine TX.y (listed' := #[true, true, true, true, true, true, true, true, true, true, true, true, true, false]) [] rfl (Y.index_arr (α := Wrd) ka101 (Can.own 0 rfl) H2 rfl rfl) rfl rfl rfl rfl rfl ?_
          refine TA.one 13 (by kernel_rfl) ?_
          refine TX.ef0 (listed' := #[true, true, true, true, true, true, true, true, true, true, true, true, true, true]) [] rfl (Ef.store_el (us := [.int .u32 (IntKind.u32.wrap (E1.v + E3.v))]) (is' := [.own (arrS B_w_ 16) (lc (w_.set a.toNat (Wrd.mk (IntKind.u32.wrap (E1.v + E3.v)))))]) (Wrd.mk (IntKind.u32.wrap (E1.v + E3.v))) 0 kk100 rfl rfl (idx_get H2).2.2 rfl rfl (Cel.plain rfl rfl) rfl rfl rfl rfl) rfl rfl rfl (fun _ => rfl) (fun _ => ?_)
          refine TA.nil (by kernel_rfl) ?_
          exact TE.jb_go () [0] ⟨rfl, rfl, rfl, rfl, rfl, trivial⟩ rfl
      · refine TX.y (listed' := #[true, true, true, false, false, true, true, true, true, true, false, true, false, false]) [] rfl (Y.load_el (us := [.int .u32 E3.v]) (u := .int .u32 E3.v) kk100 rfl (Can.own 0 rfl) (idx_get H4).2.2 rfl rfl rfl rfl rfl) rfl rfl rfl rfl rfl ?_
        refine TA.one 3 (by kernel_rfl) ?_
        refine TX.y (listed' := #[true, true, true, true, false, true, true, true, true, true, false, true, false, false]) [] rfl (Y.index_arr (α := Wrd) ka101 (Can.own 0 rfl) H2 rfl rfl) rfl rfl rfl rfl rfl ?_
        refine TA.one 4 (by kernel_rfl) ?_
        refine TX.y (listed' := #[true, true, true, true, true, true, true, true, true, true, false, true, false, false]) [] rfl (Y.load_el (us := [.int .u32 E1.v]) (u := .int .u32 E1.v) kk100 rfl (Can.own 0 rfl) (idx_get H2).2.2 rfl rfl rfl rfl rfl) rfl rfl rfl rfl rfl ?_
        refine TA.y (listed' := #[true, true, true, true, true, true, true, true, true, true, true, true, false, false]) 10 [] rfl (Y.add rfl rfl) rfl rfl rfl (by kernel_rfl) (by kernel_rfl) (by kernel_rfl) rfl rfl ?_
        refine TA.one 12 (by kernel_rfl) ?_
        refine TX.y (listed' := #[true, true, true, true, true, true, true, true, true, true, true, true, true, false]) [] rfl (Y.index_arr (α := Wrd) ka101 (Can.own 0 rfl) H2 rfl rfl) rfl rfl rfl rfl rfl ?_
        refine TA.one 13 (by kernel_rfl) ?_
        refine TX.ef0 (listed' := #[true, true, true, true, true, true, true, true, true, true, true, true, true, true]) [] rfl (Ef.store_el (us := [.int .u32 (IntKind.u32.wrap (E1.v + E3.v))]) (is' := [.own (arrS B_w_ 16) (lc (w_.set a.toNat (Wrd.mk (IntKind.u32.wrap (E1.v + E3.v)))))]) (Wrd.mk (IntKind.u32.wrap (E1.v + E3.v))) 0 kk100 rfl rfl (idx_get H2).2.2 rfl rfl (Cel.plain rfl rfl) rfl rfl rfl rfl) rfl rfl rfl (fun _ => rfl) (fun _ => ?_)
        refine TA.nil (by kernel_rfl) ?_
        exact TE.jb_go () [0] ⟨rfl, rfl, rfl, rfl, rfl, trivial⟩ rfl
  · refine TE.next ?_
    refine TW.seq ?_
    refine TW.bind fun E7 H8 => ?_
    refine TW.bind fun E9 H10 => ?_
    refine TW.bind fun R11 H12 => ?_
    refine TW.joinU (X := Unit) (fun _ _ => [(0, .pointer (some ⟨B_w_, 0, none⟩)), (1, .int .i64 a), (2, .int .i64 b), (3, .int .i64 c), (4, .int .i64 d)]) (fun _ _ => [.own (arrS B_w_ 16) (lc ((w_.set a.toNat (Wrd.mk (IntKind.u32.wrap (E1.v + E3.v)))).set d.toNat (Wrd.mk R11)))]) ?_ (fun _ X15 => ?_)
    · refine TW.draw (isH := []) hMix ?_
      refine TA.y (listed' := #[true, false, false, false, false, false, false, false, false, false, false, false, false, false, false, false, false]) 0 [] rfl (Y.move rfl) rfl rfl rfl (by kernel_rfl) (by kernel_rfl) (by kernel_rfl) rfl rfl ?_
      refine TA.y (listed' := #[true, true, false, false, false, false, false, false, false, false, false, false, false, false, false, false, false]) 1 [] rfl (Y.move rfl) rfl rfl rfl (by kernel_rfl) (by kernel_rfl) (by kernel_rfl) rfl rfl ?_
      refine TA.y (listed' := #[true, true, true, false, false, false, false, false, false, false, false, false, false, false, false, false, false]) 2 [] rfl (Y.move rfl) rfl rfl rfl (by kernel_rfl) (by kernel_rfl) (by kernel_rfl) rfl rfl ?_
      refine TA.y (listed' := #[true, true, true, true, false, false, false, false, false, false, false, false, false, false, false, false, false]) 3 [] rfl (Y.move rfl) rfl rfl rfl (by kernel_rfl) (by kernel_rfl) (by kernel_rfl) rfl rfl ?_
      refine TA.y (listed' := #[true, true, true, true, true, false, false, false, false, false, false, false, false, false, false, false, false]) 4 [] rfl (Y.nilCheck rfl) rfl rfl rfl (by kernel_rfl) (by kernel_rfl) (by kernel_rfl) rfl rfl ?_
      refine TA.y (listed' := #[true, true, true, true, true, false, false, true, false, false, false, false, false, false, false, false, false]) 7 [] rfl (Y.move rfl) rfl rfl rfl (by kernel_rfl) (by kernel_rfl) (by kernel_rfl) rfl rfl ?_
      refine TA.y (listed' := #[true, true, true, true, true, false, false, true, true, false, false, false, false, false, false, false, false]) 8 [] rfl (Y.move rfl) rfl rfl rfl (by kernel_rfl) (by kernel_rfl) (by kernel_rfl) rfl rfl ?_
      refine TA.y (listed' := #[true, true, true, true, true, false, false, true, true, true, false, false, false, false, false, false, false]) 9 [] rfl (Y.nilCheck rfl) rfl rfl rfl (by kernel_rfl) (by kernel_rfl) (by kernel_rfl) rfl rfl ?_
      refine TA.y (listed' := #[true, true, true, true, true, false, false, true, true, true, false, false, false, false, true, false, false]) 14 [] rfl (Y.nilCheck rfl) rfl rfl rfl (by kernel_rfl) (by kernel_rfl) (by kernel_rfl) rfl rfl ?_
      refine TA.two 5 10 (by kernel_rfl) ?_ ?_
      · refine TX.y (listed' := #[true, true, true, true, true, true, false, true, true, true, false, false, false, false, true, false, false]) [] rfl (Y.index_arr (α := Wrd) ka101 (Can.own 0 rfl) H8 rfl rfl) rfl rfl rfl rfl rfl ?_
        refine TA.two 6 10 (by kernel_rfl) ?_ ?_
        · refine TX.y (listed' := #[true, true, true, true, true, true, true, true, true, true, false, false, false, false, true, false, false]) [] rfl (Y.load_el (us := [.int .u32 E7.v]) (u := .int .u32 E7.v) kk100 rfl (Can.own 0 rfl) (idx_get H8).2.2 rfl rfl rfl rfl rfl) rfl rfl rfl rfl rfl ?_
          refine TA.one 10 (by kernel_rfl) ?_
          refine TX.y (listed' := #[true, true, true, true, true, true, true, true, true, true, true, false, false, false, true, false, false]) [] rfl (Y.index_arr (α := Wrd) ka101 (Can.own 0 rfl) H10 rfl rfl) rfl rfl rfl rfl rfl ?_
          refine TA.one 11 (by kernel_rfl) ?_
          refine TX.y (listed' := #[true, true, true, true, true, true, true, true, true, true, true, true, false, false, true, false, false]) [] rfl (Y.load_el (us := [.int .u32 E9.v]) (u := .int .u32 E9.v) kk100 rfl (Can.own 0 rfl) (idx_get H10).2.2 rfl rfl rfl rfl rfl) rfl rfl rfl rfl rfl ?_
          refine TA.y (listed' := #[true, true, true, true, true, true, true, true, true, true, true, true, true, false, true, false, false]) 12 [] rfl (Y.xor rfl rfl) rfl rfl rfl (by kernel_rfl) (by kernel_rfl) (by kernel_rfl) rfl rfl ?_
          refine TA.one 13 (by kernel_rfl) ?_
          refine TX.ef (listed' := #[true, true, true, true, true, true, true, true, true, true, true, true, true, true, true, false, false]) [] rfl (Ef.call (rest := [.own (arrS B_w_ 16) (lc (w_.set a.toNat (Wrd.mk (IntKind.u32.wrap (E1.v + E3.v)))))]) [0] (math_bits_RotateLeft32_con (ixor .u32 E7.v E9.v) (16 : Int)  R11 H12) kc77 rfl rfl trivial) rfl rfl rfl rfl (fun _ => rfl) (fun _ => ?_)
          refine TA.one 15 (by kernel_rfl) ?_
          refine TX.y (listed' := #[true, true, true, true, true, true, true, true, true, true, true, true, true, true, true, true, false]) [] rfl (Y.index_arr (α := Wrd) ka101 (Can.own 0 rfl) H8 rfl rfl) rfl rfl rfl rfl rfl ?_
          refine TA.one 16 (by kernel_rfl) ?_
          refine TX.ef0 (listed' := #[true, true, true, true, true, true, true, true, true, true, true, true, true, true, true, true, true]) [] rfl (Ef.store_el (us := [.int .u32 R11]) (is' := [.own (arrS B_w_ 16) (lc ((w_.set a.toNat (Wrd.mk (IntKind.u32.wrap (E1.v + E3.v)))).set d.toNat (Wrd.mk R11)))]) (Wrd.mk R11) 0 kk100 rfl rfl (idx_get H8).2.2 rfl rfl (Cel.plain rfl rfl) rfl rfl rfl rfl) rfl rfl rfl (fun _ => rfl) (fun _ => ?_)
          refine TA.nil (by kernel_rfl) ?_
          exact TE.jb_go () [0] ⟨rfl, rfl, rfl, rfl, rfl, trivial⟩ rfl
        · refine TX.y (listed' := #[true, true, true, true, true, true, false, true, true, true, true, false, false, false, true, false, false]) [] rfl (Y.index_arr (α := Wrd) ka101 (Can.own 0 rfl) H10 rfl rfl) rfl rfl rfl rfl rfl ?_
          refine TA.two 6 11 (by kernel_rfl) ?_ ?_
          · refine TX.y (listed' := #[true, true, true, true, true, true, true, true, true, true, true, false, false, false, true, false, false]) [] rfl (Y.load_el (us := [.int .u32 E7.v]) (u := .int .u32 E7.v) kk100 rfl (Can.own 0 rfl) (idx_get H8).2.2 rfl rfl rfl rfl rfl) rfl rfl rfl rfl rfl ?_
            refine TA.one 11 (by kernel_rfl) ?_
            refine TX.y (listed' := #[true, true, true, true, true, true, true, true, true, true, true, true, false, false, true, false, false]) [] rfl (Y.load_el (us := [.int .u32 E9.v]) (u := .int .u32 E9.v) kk100 rfl (Can.own 0 rfl) (idx_get H10).2.2 rfl rfl rfl rfl rfl) rfl rfl rfl rfl rfl ?_
            refine TA.y (listed' := #[true, true, true, true, true, true, true, true, true, true, true, true, true, false, true, false, false]) 12 [] rfl (Y.xor rfl rfl) rfl rfl rfl (by kernel_rfl) (by kernel_rfl) (by kernel_rfl) rfl rfl ?_
            refine TA.one 13 (by kernel_rfl) ?_
            refine TX.ef (listed' := #[true, true, true, true, true, true, true, true, true, true, true, true, true, true, true, false, false]) [] rfl (Ef.call (rest := [.own (arrS B_w_ 16) (lc (w_.set a.toNat (Wrd.mk (IntKind.u32.wrap (E1.v + E3.v)))))]) [0] (math_bits_RotateLeft32_con (ixor .u32 E7.v E9.v) (16 : Int)  R11 H12) kc77 rfl rfl trivial) rfl rfl rfl rfl (fun _ => rfl) (fun _ => ?_)
            refine TA.one 15 (by kernel_rfl) ?_
            refine TX.y (listed' := #[true, true, true, true, true, true, true, true, true, true, true, true, true, true, true, true, false]) [] rfl (Y.index_arr (α := Wrd) ka101 (Can.own 0 rfl) H8 rfl rfl) rfl rfl rfl rfl rfl ?_
            refine TA.one 16 (by kernel_rfl) ?_
            refine TX.ef0 (listed' := #[true, true, true, true, true, true, true, true, true, true, true, true, true, true, true, true, true]) [] rfl (Ef.store_el (us := [.int .u32 R11]) (is' := [.own (arrS B_w_ 16) (lc ((w_.set a.toNat (Wrd.mk (IntKind.u32.wrap (E1.v + E3.v)))).set d.toNat (Wrd.mk R11)))]) (Wrd.mk R11) 0 kk100 rfl rfl (idx_get H8).2.2 rfl rfl (Cel.plain rfl rfl) rfl rfl rfl rfl) rfl rfl rfl (fun _ => rfl) (fun _ => ?_)
            refine TA.nil (by kernel_rfl) ?_
            exact TE.jb_go () [0] ⟨rfl, rfl, rfl, rfl, rfl, trivial⟩ rfl
          · refine TX.y (listed' := #[true, true, true, true, true, true, false, true, true, true, true, true, false, false, true, false, false]) [] rfl (Y.load_el (us := [.int .u32 E9.v]) (u := .int .u32 E9.v) kk100 rfl (Can.own 0 rfl) (idx_get H10).2.2 rfl rfl rfl rfl rfl) rfl rfl rfl rfl rfl ?_
            refine TA.one 6 (by kernel_rfl) ?_
            refine TX.y (listed' := #[true, true, true, true, true, true, true, true, true, true, true, true, false, false, true, false, false]) [] rfl (Y.load_el (us := [.int .u32 E7.v]) (u := .int .u32 E7.v) kk100 rfl (Can.own 0 rfl) (idx_get H8).2.2 rfl rfl rfl rfl rfl) rfl rfl rfl rfl rfl ?_
            refine TA.y (listed' := #[true, true, true, true, true, true, true, true, true, true, true, true, true, false, true, false, false]) 12 [] rfl (Y.xor rfl rfl) rfl rfl rfl (by kernel_rfl) (by kernel_rfl) (by kernel_rfl) rfl rfl ?_
            refine TA.one 13 (by kernel_rfl) ?_
            refine TX.ef (listed' := #[true, true, true, true, true, true, true, true, true, true, true, true, true, true, true, false, false]) [] rfl (Ef.call (rest := [.own (arrS B_w_ 16) (lc (w_.set a.toNat (Wrd.mk (IntKind.u32.wrap (E1.v + E3.v)))))]) [0] (math_bits_RotateLeft32_con (ixor .u32 E7.v E9.v) (16 : Int)  R11 H12) kc77 rfl rfl trivial) rfl rfl rfl rfl (fun _ => rfl) (fun _ => ?_)
            refine TA.one 15 (by kernel_rfl) ?_
            refine TX.y (listed' := #[true, true, true, true, true, true, true, true, true, true, true, true, true, true, true, true, false]) [] rfl (Y.index_arr (α := Wrd) ka101 (Can.own 0 rfl) H8 rfl rfl) rfl rfl rfl rfl rfl ?_
            refine TA.one 16 (by kernel_rfl) ?_
            refine TX.ef0 (listed' := #[true, true, true, true, true, true, true, true, true, true, true, true, true, true, true, true, true]) [] rfl (Ef.store_el (us := [.int .u32 R11]) (is' := [.own (arrS B_w_ 16) (lc ((w_.set a.toNat (Wrd.mk (IntKind.u32.wrap (E1.v + E3.v)))).set d.toNat (Wrd.mk R11)))]) (Wrd.mk R11) 0 kk100 rfl rfl (idx_get H8).2.2 rfl rfl (Cel.plain rfl rfl) rfl rfl rfl rfl) rfl rfl rfl (fun _ => rfl) (fun _ => ?_)
            refine TA.nil (by kernel_rfl) ?_
            exact TE.jb_go () [0] ⟨rfl, rfl, rfl, rfl, rfl, trivial⟩ rfl
      · refine TX.y (listed' := #[true, true, true, true, true, false, false, true, true, true, true, false, false, false, true, false, false]) [] rfl (Y.index_arr (α := Wrd) ka101 (Can.own 0 rfl) H10 rfl rfl) rfl rfl rfl rfl rfl ?_
        refine TA.two 5 11 (by kernel_rfl) ?_ ?_
        · refine TX.y (listed' := #[true, true, true, true, true, true, false, true, true, true, true, false, false, false, true, false, false]) [] rfl (Y.index_arr (α := Wrd) ka101 (Can.own 0 rfl) H8 rfl rfl) rfl rfl rfl rfl rfl ?_
          refine TA.two 6 11 (by kernel_rfl) ?_ ?_
          · refine TX.y (listed' := #[true, true, true, true, true, true, true, true, true, true, true, false, false, false, true, false, false]) [] rfl (Y.load_el (us := [.int .u32 E7.v]) (u := .int .u32 E7.v) kk100 rfl (Can.own 0 rfl) (idx_get H8).2.2 rfl rfl rfl rfl rfl) rfl rfl rfl rfl rfl ?_
            refine TA.one 11 (by kernel_rfl) ?_
            refine TX.y (listed' := #[true, true, true, true, true, true, true, true, true, true, true, true, false, false, true, false, false]) [] rfl (Y.load_el (us := [.int .u32 E9.v]) (u := .int .u32 E9.v) kk100 rfl (Can.own 0 rfl) (idx_get H10).2.2 rfl rfl rfl rfl rfl) rfl rfl rfl rfl rfl ?_
            refine TA.y (listed' := #[true, true, true, true, true, true, true, true, true, true, true, true, true, false, true, false, false]) 12 [] rfl (Y.xor rfl rfl) rfl rfl rfl (by kernel_rfl) (by kernel_rfl) (by kernel_rfl) rfl rfl ?_
            refine TA.one 13 (by kernel_rfl) ?_
            refine TX.ef (listed' := #[true, true, true, true, true, true, true, true, true, true, true, true, true, true, true, false, false]) [] rfl (Ef.call (rest := [.own (arrS B_w_ 16) (lc (w_.set a.toNat (Wrd.mk (IntKind.u32.wrap (E1.v + E3.v)))))]) [0] (math_bits_RotateLeft32_con (ixor .u32 E7.v E9.v) (16 : Int)  R11 H12) kc77 rfl rfl trivial) rfl rfl rfl rfl (fun _ => rfl) (fun _ => ?_)
            refine TA.one 15 (by kernel_rfl) ?_
            refine TX.y (listed' := #[true, true, true, true, true, true, true, true, true, true, true, true, true, true, true, true, false]) [] rfl (Y.index_arr (α := Wrd) ka101 (Can.own 0 rfl) H8 rfl rfl) rfl rfl rfl rfl rfl ?_
            refine TA.one 16 (by kernel_rfl) ?_
            refine TX.ef0 (listed' := #[true, true, true, true, true, true, true, true, true, true, true, true, true, true, true, true, true]) [] rfl (Ef.store_el (us := [.int .u32 R11]) (is' := [.own (arrS B_w_ 16) (lc ((w_.set a.toNat (Wrd.mk (IntKind.u32.wrap (E1.v + E3.v)))).set d.toNat (Wrd.mk R11)))]) (Wrd.mk R11) 0 kk100 rfl rfl (idx_get H8).2.2 rfl rfl (Cel.plain rfl rfl) rfl rfl rfl rfl) rfl rfl rfl (fun _ => rfl) (fun _ => ?_)
            refine TA.nil (by kernel_rfl) ?_
            exact TE.jb_go () [0] ⟨rfl, rfl, rfl, rfl, rfl, trivial⟩ rfl
          · refine TX.y (listed' := #[true, true, true, true, true, true, false, true, true, true, true, true, false, false, true, false, false]) [] rfl (Y.load_el (us := [.int .u32 E9.v]) (u := .int .u32 E9.v) kk100 rfl (Can.own 0 rfl) (idx_get H10).2.2 rfl rfl rfl rfl rfl) rfl rfl rfl rfl rfl ?_
            refine TA.one 6 (by kernel_rfl) ?_
            refine TX.y (listed' := #[true, true, true, true, true, true, true, true, true, true, true, true, false, false, true, false, false]) [] rfl (Y.load_el (us := [.int .u32 E7.v]) (u := .int .u32 E7.v) kk100 rfl (Can.own 0 rfl) (idx_get H8).2.2 rfl rfl rfl rfl rfl) rfl rfl rfl rfl rfl ?_
            refine TA.y (listed' := #[true, true, true, true, true, true, true, true, true, true, true, true, true, false, true, false, false]) 12 [] rfl (Y.xor rfl rfl) rfl rfl rfl (by kernel_rfl) (by kernel_rfl) (by kernel_rfl) rfl rfl ?_
            refine TA.one 13 (by kernel_rfl) ?_
            refine TX.ef (listed' := #[true, true, true, true, true, true, true, true, true, true, true, true, true, true, true, false, false]) [] rfl (Ef.call (rest := [.own (arrS B_w_ 16) (lc (w_.set a.toNat (Wrd.mk (IntKind.u32.wrap (E1.v + E3.v)))))]) [0] (math_bits_RotateLeft32_con (ixor .u32 E7.v E9.v) (16 : Int)  R11 H12) kc77 rfl rfl trivial) rfl rfl rfl rfl (fun _ => rfl) (fun _ => ?_)
            refine TA.one 15 (by kernel_rfl) ?_
            refine TX.y (listed' := #[true, true, true, true, true, true, true, true, true, true, true, true, true, true, true, true, false]) [] rfl (Y.index_arr (α := Wrd) ka101 (Can.own 0 rfl) H8 rfl rfl) rfl rfl rfl rfl rfl ?_
            refine TA.one 16 (by kernel_rfl) ?_
            refine TX.ef0 (listed' := #[true, true, true, true, true, true, true, true, true, true, true, true, true, true, true, true, true]) [] rfl (Ef.store_el (us := [.int .u32 R11]) (is' := [.own (arrS B_w_ 16) (lc ((w_.set a.toNat (Wrd.mk (IntKind.u32.wrap (E1.v + E3.v)))).set d.toNat (Wrd.mk R11)))]) (Wrd.mk R11) 0 kk100 rfl rfl (idx_get H8).2.2 rfl rfl (Cel.plain rfl rfl) rfl rfl rfl rfl) rfl rfl rfl (fun _ => rfl) (fun _ => ?_)
            refine TA.nil (by kernel_rfl) ?_
            exact TE.jb_go () [0] ⟨rfl, rfl, rfl, rfl, rfl, trivial⟩ rfl
        · refine TX.y (listed' := #[true, true, true, true, true, false, false, true, true, true, true, true, false, false, true, false, false]) [] rfl (Y.load_el (us := [.int .u32 E9.v]) (u := .int .u32 E9.v) kk100 rfl (Can.own 0 rfl) (idx_get H10).2.2 rfl rfl rfl rfl rfl) rfl rfl rfl rfl rfl ?_
          refine TA.one 5 (by kernel_rfl) ?_
          refine TX.y (listed' := #[true, true, true, true, true, true, false, true, true, true, true, true, false, false, true, false, false]) [] rfl (Y.index_arr (α := Wrd) ka101 (Can.own 0 rfl) H8 rfl rfl) rfl rfl rfl rfl rfl ?_
          refine TA.one 6 (by kernel_rfl) ?_
          refine TX.y (listed' := #[true, true, true, true, true, true, true, true, true, true, true, true, false, false, true, false, false]) [] rfl (Y.load_el (us := [.int .u32 E7.v]) (u := .int .u32 E7.v) kk100 rfl (Can.own 0 rfl) (idx_get H8).2.2 rfl rfl rfl rfl rfl) rfl rfl rfl rfl rfl ?_
          refine TA.y (listed' := #[true, true, true, true, true, true, true, true, true, true, true, true, true, false, true, false, false]) 12 [] rfl (Y.xor rfl rfl) rfl rfl rfl (by kernel_rfl) (by kernel_rfl) (by kernel_rfl) rfl rfl ?_
          refine TA.one 13 (by kernel_rfl) ?_
          refine TX.ef (listed' := #[true, true, true, true, true, true, true, true, true, true, true, true, true, true, true, false, false]) [] rfl (Ef.call (rest := [.own (arrS B_w_ 16) (lc (w_.set a.toNat (Wrd.mk (IntKind.u32.wrap (E1.v + E3.v)))))]) [0] (math_bits_RotateLeft32_con (ixor .u32 E7.v E9.v) (16 : Int)  R11 H12) kc77 rfl rfl trivial) rfl rfl rfl rfl (fun _ => rfl) (fun _ => ?_)
          refine TA.one 15 (by kernel_rfl) ?_
          refine TX.y (listed' := #[true, true, true, true, true, true, true, true, true, true, true, true, true, true, true, true, false]) [] rfl (Y.index_arr (α := Wrd) ka101 (Can.own 0 rfl) H8 rfl rfl) rfl rfl rfl rfl rfl ?_
          refine TA.one 16 (by kernel_rfl) ?_
          refine TX.ef0 (listed' := #[true, true, true, true, true, true, true, true, true, true, true, true, true, true, true, true, true]) [] rfl (Ef.store_el (us := [.int .u32 R11]) (is' := [.own (arrS B_w_ 16) (lc ((w_.set a.toNat (Wrd.mk (IntKind.u32.wrap (E1.v + E3.v)))).set d.toNat (Wrd.mk R11)))]) (Wrd.mk R11) 0 kk100 rfl rfl (idx_get H8).2.2 rfl rfl (Cel.plain rfl rfl) rfl rfl rfl rfl) rfl rfl rfl (fun _ => rfl) (fun _ => ?_)
          refine TA.nil (by kernel_rfl) ?_
          exact TE.jb_go () [0] ⟨rfl, rfl, rfl, rfl, rfl, trivial⟩ rfl
    · refine TE.next ?_
      refine TW.seq ?_
      refine TW.bind fun E16 H17 => ?_
      refine TW.bind fun E18 H19 => ?_
      refine TW.joinU (X := Unit) (fun _ _ => [(0, .pointer (some ⟨B_w_, 0, none⟩)), (1, .int .i64 a), (2, .int .i64 b), (3, .int .i64 c), (4, .int .i64 d)]) (fun _ _ => [.own (arrS B_w_ 16) (lc (((w_.set a.toNat (Wrd.mk (IntKind.u32.wrap (E1.v + E3.v)))).set d.toNat (Wrd.mk R11)).set c.toNat (Wrd.mk (IntKind.u32.wrap (E16.v + E18.v)))))]) ?_ (fun _ X21 => ?_)
      · refine TW.draw (isH := []) hMix ?_
        refine TA.y (listed' := #[true, false, false, false, false, false, false, false, false, false, false, false, false, false]) 0 [] rfl (Y.move rfl) rfl rfl rfl (by kernel_rfl) (by kernel_rfl) (by kernel_rfl) rfl rfl ?_
        refine TA.y (listed' := #[true, true, false, false, false, false, false, false, false, false, false, false, false, false]) 1 [] rfl (Y.move rfl) rfl rfl rfl (by kernel_rfl) (by kernel_rfl) (by kernel_rfl) rfl rfl ?_
        refine TA.y (listed' := #[true, true, true, false, false, false, false, false, false, false, false, false, false, false]) 2 [] rfl (Y.nilCheck rfl) rfl rfl rfl (by kernel_rfl) (by kernel_rfl) (by kernel_rfl) rfl rfl ?_
        refine TA.y (listed' := #[true, true, true, false, false, true, false, false, false, false, false, false, false, false]) 5 [] rfl (Y.move rfl) rfl rfl rfl (by kernel_rfl) (by kernel_rfl) (by kernel_rfl) rfl rfl ?_
        refine TA.y (listed' := #[true, true, true, false, false, true, true, false, false, false, false, false, false, false]) 6 [] rfl (Y.move rfl) rfl rfl rfl (by kernel_rfl) (by kernel_rfl) (by kernel_rfl) rfl rfl ?_
        refine TA.y (listed' := #[true, true, true, false, false, true, true, true, false, false, false, false, false, false]) 7 [] rfl (Y.nilCheck rfl) rfl rfl rfl (by kernel_rfl) (by kernel_rfl) (by kernel_rfl) rfl rfl ?_
        refine TA.y (listed' := #[true, true, true, false, false, true, true, true, false, false, false, true, false, false]) 11 [] rfl (Y.nilCheck rfl) rfl rfl rfl (by kernel_rfl) (by kernel_rfl) (by kernel_rfl) rfl rfl ?_
        refine TA.two 3 8 (by kernel_rfl) ?_ ?_
        · refine TX.y (listed' := #[true, true, true, true, false, true, true, true, false, false, false, true, false, false]) [] rfl (Y.index_arr (α := Wrd) ka101 (Can.own 0 rfl) H17 rfl rfl) rfl rfl rfl rfl rfl ?_
          refine TA.two 4 8 (by kernel_rfl) ?_ ?_
          · refine TX.y (listed' := #[true, true, true, true, true, true, true, true, false, false, false, true, false, false]) [] rfl (Y.load_el (us := [.int .u32 E16.v]) (u := .int .u32 E16.v) kk100 rfl (Can.own 0 rfl) (idx_get H17).2.2 rfl rfl rfl rfl rfl) rfl rfl rfl rfl rfl ?_
            refine TA.one 8 (by kernel_rfl) ?_
            refine TX.y (listed' := #[true, true, true, true, true, true, true, true, true, false, false, true, false, false]) [] rfl (Y.index_arr (α := Wrd) ka101 (Can.own 0 rfl) H19 rfl rfl) rfl rfl rfl rfl rfl ?_
            refine TA.one 9 (by kernel_rfl) ?_
            refine TX.y (listed' := #[true, true, true, true, true, true, true, true, true, true, false, true, false, false]) [] rfl (Y.load_el (us := [.int .u32 E18.v]) (u := .int .u32 E18.v) kk100 rfl (Can.own 0 rfl) (idx_get H19).2.2 rfl rfl rfl rfl rfl) rfl rfl rfl rfl rfl ?_
            refine TA.y (listed' := #[true, true, true, true, true, true, true, true, true, true, true, true, false, false]) 10 [] rfl (Y.add rfl rfl) rfl rfl rfl (by kernel_rfl) (by kernel_rfl) (by kernel_rfl) rfl rfl ?_
            refine TA.one 12 (by kernel_rfl) ?_
            refine TX.y (listed' := #[true, true, true, true, true, true, true, true, true, true, true, true, true, false]) [] rfl (Y.index_arr (α := Wrd) ka101 (Can.own 0 rfl) H17 rfl rfl) rfl rfl rfl rfl rfl ?_
            refine TA.one 13 (by kernel_rfl) ?_
            refine TX.ef0 (listed' := #[true, true, true, true, true, true, true, true, true, true, true, true, true, true]) [] rfl (Ef.store_el (us := [.int .u32 (IntKind.u32.wrap (E16.v + E18.v))]) (is' := [.own (arrS B_w_ 16) (lc (((w_.set a.toNat (Wrd.mk (IntKind.u32.wrap (E1.v + E3.v)))).set d.toNat (Wrd.mk R11)).set c.toNat (Wrd.mk (IntKind.u32.wrap (E16.v + E18.v)))))]) (Wrd.mk (IntKind.u32.wrap (E16.v + E18.v))) 0 kk100 rfl rfl (idx_get H17).2.2 rfl rfl (Cel.plain rfl rfl) rfl rfl rfl rfl) rfl rfl rfl (fun _ => rfl) (fun _ => ?_)
            refine TA.nil (by kernel_rfl) ?_
            exact TE.jb_go () [0] ⟨rfl, rfl, rfl, rfl, rfl, trivial⟩ rfl
          · refine TX.y (listed' := #[true, true, true, true, false, true, true, true, true, false, false, true, false, false]) [] rfl (Y.index_arr (α := Wrd) ka101 (Can.own 0 rfl) H19 rfl rfl) rfl rfl rfl rfl rfl ?_
            refine TA.two 4 9 (by kernel_rfl) ?_ ?_
            · refine TX.y (listed' := #[true, true, true, true, true, true, true, true, true, false, false, true, false, false]) [] rfl (Y.load_el (us := [.int .u32 E16.v]) (u := .int .u32 E16.v) kk100 rfl (Can.own 0 rfl) (idx_get H17).2.2 rfl rfl rfl rfl rfl) rfl rfl rfl rfl rfl ?_
              refine TA.one 9 (by kernel_rfl) ?_
              refine TX.y (listed' := #[true, true, true, true, true, true, true, true, true, true, false, true, false, false]) [] rfl (Y.load_el (us := [.int .u32 E18.v]) (u := .int .u32 E18.v) kk100 rfl (Can.own 0 rfl) (idx_get H19).2.2 rfl rfl rfl rfl rfl) rfl rfl rfl rfl rfl ?_
              refine TA.y (listed' := #[true, true, true, true, true, true, true, true, true, true, true, true, false, false]) 10 [] rfl (Y.add rfl rfl) rfl rfl rfl (by kernel_rfl) (by kernel_rfl) (by kernel_rfl) rfl rfl ?_
              refine TA.one 12 (by kernel_rfl) ?_
              refine TX.y (listed' := #[true, true, true, true, true, true, true, true, true, true, true, true, true, false]) [] rfl (Y.index_arr (α := Wrd) ka101 (Can.own 0 rfl) H17 rfl rfl) rfl rfl rfl rfl rfl ?_
              refine TA.one 13 (by kernel_rfl) ?_
              refine TX.ef0 (listed' := #[true, true, true, true, true, true, true, true, true, true, true, true, true, true]) [] rfl (Ef.store_el (us := [.int .u32 (IntKind.u32.wrap (E16.v + E18.v))]) (is' := [.own (arrS B_w_ 16) (lc (((w_.set a.toNat (Wrd.mk (IntKind.u32.wrap (E1.v + E3.v)))).set d.toNat (Wrd.mk R11)).set c.toNat (Wrd.mk (IntKind.u32.wrap (E16.v + E18.v)))))]) (Wrd.mk (IntKind.u32.wrap (E16.v + E18.v))) 0 kk100 rfl rfl (idx_get H17).2.2 rfl rfl (Cel.plain rfl rfl) rfl rfl rfl rfl) rfl rfl rfl (fun _ => rfl) (fun _ => ?_)
              refine TA.nil (by kernel_rfl) ?_
              exact TE.jb_go () [0] ⟨rfl, rfl, rfl, rfl, rfl, trivial⟩ rfl
            · refine TX.y (listed' := #[true, true, true, true, false, true, true, true, true, true, false, true, false, false]) [] rfl (Y.load_el (us := [.int .u32 E18.v]) (u := .int .u32 E18.v) kk100 rfl (Can.own 0 rfl) (idx_get H19).2.2 rfl rfl rfl rfl rfl) rfl rfl rfl rfl rfl ?_
              refine TA.one 4 (by kernel_rfl) ?_
              refine TX.y (listed' := #[true, true, true, true, true, true, true, true, true, true, false, true, false, false]) [] rfl (Y.load_el (us := [.int .u32 E16.v]) (u := .int .u32 E16.v) kk100 rfl (Can.own 0 rfl) (idx_get H17).2.2 rfl rfl rfl rfl rfl) rfl rfl rfl rfl rfl ?_
              refine TA.y (listed' := #[true, true, true, true, true, true, true, true, true, true, true, true, false, false]) 10 [] rfl (Y.add rfl rfl) rfl rfl rfl (by kernel_rfl) (by kernel_rfl) (by kernel_rfl) rfl rfl ?_
              refine TA.one 12 (by kernel_rfl) ?_
              refine TX.y (listed' := #[true, true, true, true, true, true, true, true, true, true, true, true, true, false]) [] rfl (Y.index_arr (α := Wrd) ka101 (Can.own 0 rfl) H17 rfl rfl) rfl rfl rfl rfl rfl ?_
              refine TA.one 13 (by kernel_rfl) ?_
              refine TX.ef0 (listed' := #[true, true, true, true, true, true, true, true, true, true, true, true, true, true]) [] rfl (Ef.store_el (us := [.int .u32 (IntKind.u32.wrap (E16.v + E18.v))]) (is' := [.own (arrS B_w_ 16) (lc (((w_.set a.toNat (Wrd.mk (IntKind.u32.wrap (E1.v + E3.v)))).set d.toNat (Wrd.mk R11)).set c.toNat (Wrd.mk (IntKind.u32.wrap (E16.v + E18.v)))))]) (Wrd.mk (IntKind.u32.wrap (E16.v + E18.v))) 0 kk100 rfl rfl (idx_get H17).2.2 rfl rfl (Cel.plain rfl rfl) rfl rfl rfl rfl) rfl rfl rfl (fun _ => rfl) (fun _ => ?_)
              refine TA.nil (by kernel_rfl) ?_
              exact TE.jb_go () [0] ⟨rfl, rfl, rfl, rfl, rfl, trivial⟩ rfl
        · refine TX.y (listed' := #[true, true, true, false, false, true, true, true, true, false, false, true, false, false]) [] rfl (Y.index_arr (α := Wrd) ka101 (Can.own 0 rfl) H19 rfl rfl) rfl rfl rfl rfl rfl ?_
          refine TA.two 3 9 (by kernel_rfl) ?_ ?_
          · refine TX.y (listed' := #[true, true, true, true, false, true, true, true, true, false, false, true, false, false]) [] rfl (Y.index_arr (α := Wrd) ka101 (Can.own 0 rfl) H17 rfl rfl) rfl rfl rfl rfl rfl ?_
            refine TA.two 4 9 (by kernel_rfl) ?_ ?_
            · refine TX.y (listed' := #[true, true, true, true, true, true, true, true, true, false, false, true, false, false]) [] rfl (Y.load_el (us := [.int .u32 E16.v]) (u := .int .u32 E16.v) kk100 rfl (Can.own 0 rfl) (idx_get H17).2.2 rfl rfl rfl rfl rfl) rfl rfl rfl rfl rfl ?_
              refine TA.one 9 (by kernel_rfl) ?_
              refine TX.y (listed' := #[true, true, true, true, true, true, true, true, true, true, false, true, false, false]) [] rfl (Y.load_el (us := [.int .u32 E18.v]) (u := .int .u32 E18.v) kk100 rfl (Can.own 0 rfl) (idx_get H19).2.2 rfl rfl rfl rfl rfl) rfl rfl rfl rfl rfl ?_
              refine TA.y (listed' := #[true, true, true, true, true, true, true, true, true, true, true, true, false, false]) 10 [] rfl (Y.add rfl rfl) rfl rfl rfl (by kernel_rfl) (by kernel_rfl) (by kernel_rfl) rfl rfl ?_
              refine TA.one 12 (by kernel_rfl) ?_
              refine TX.y (listed' := #[true, true, true, true, true, true, true, true, true, true, true, true, true, false]) [] rfl (Y.index_arr (α := Wrd) ka101 (Can.own 0 rfl) H17 rfl rfl) rfl rfl rfl rfl rfl ?_
              refine TA.one 13 (by kernel_rfl) ?_
              refine TX.ef0 (listed' := #[true, true, true, true, true, true, true, true, true, true, true, true, true, true]) [] rfl (Ef.store_el (us := [.int .u32 (IntKind.u32.wrap (E16.v + E18.v))]) (is' := [.own (arrS B_w_ 16) (lc (((w_.set a.toNat (Wrd.mk (IntKind.u32.wrap (E1.v + E3.v)))).set d.toNat (Wrd.mk R11)).set c.toNat (Wrd.mk (IntKind.u32.wrap (E16.v + E18.v)))))]) (Wrd.mk (IntKind.u32.wrap (E16.v + E18.v))) 0 kk100 rfl rfl (idx_get H17).2.2 rfl rfl (Cel.plain rfl rfl) rfl rfl rfl rfl) rfl rfl rfl (fun _ => rfl) (fun _ => ?_)
              refine TA.nil (by kernel_rfl) ?_
              exact TE.jb_go () [0] ⟨rfl, rfl, rfl, rfl, rfl, trivial⟩ rfl
            · refine TX.y (listed' := #[true, true, true, true, false, true, true, true, true, true, false, true, false, false]) [] rfl (Y.load_el (us := [.int .u32 E18.v]) (u := .int .u32 E18.v) kk100 rfl (Can.own 0 rfl) (idx_get H19).2.2 rfl rfl rfl rfl rfl) rfl rfl rfl rfl rfl ?_
              refine TA.one 4 (by kernel_rfl) ?_
              refine TX.y (listed' := #[true, true, true, true, true, true, true, true, true, true, false, true, false, false]) [] rfl (Y.load_el (us := [.int .u32 E16.v]) (u := .int .u32 E16.v) kk100 rfl (Can.own 0 rfl) (idx_get H17).2.2 rfl rfl rfl rfl rfl) rfl rfl rfl rfl rfl ?_
              refine TA.y (listed' := #[true, true, true, true, true, true, true, true, true, true, true, true, false, false]) 10 [] rfl (Y.add rfl rfl) rfl rfl rfl (by kernel_rfl) (by kernel_rfl) (by kernel_rfl) rfl rfl ?_
              refine TA.one 12 (by kernel_rfl) ?_
              refine TX.y (listed' := #[true, true, true, true, true, true, true, true, true, true, true, true, true, false]) [] rfl (Y.index_arr (α := Wrd) ka101 (Can.own 0 rfl) H17 rfl rfl) rfl rfl rfl rfl rfl ?_
              refine TA.one 13 (by kernel_rfl) ?_
              refine TX.ef0 (listed' := #[true, true, true, true, true, true, true, true, true, true, true, true, true, true]) [] rfl (Ef.store_el (us := [.int .u32 (IntKind.u32.wrap (E16.v + E18.v))]) (is' := [.own (arrS B_w_ 16) (lc (((w_.set a.toNat (Wrd.mk (IntKind.u32.wrap (E1.v + E3.v)))).set d.toNat (Wrd.mk R11)).set c.toNat (Wrd.mk (IntKind.u32.wrap (E16.v + E18.v)))))]) (Wrd.mk (IntKind.u32.wrap (E16.v + E18.v))) 0 kk100 rfl rfl (idx_get H17).2.2 rfl rfl (Cel.plain rfl rfl) rfl rfl rfl rfl) rfl rfl rfl (fun _ => rfl) (fun _ => ?_)
              refine TA.nil (by kernel_rfl) ?_
              exact TE.jb_go () [0] ⟨rfl, rfl, rfl, rfl, rfl, trivial⟩ rfl
          · refine TX.y (listed' := #[true, true, true, false, false, true, true, true, true, true, false, true, false, false]) [] rfl (Y.load_el (us := [.int .u32 E18.v]) (u := .int .u32 E18.v) kk100 rfl (Can.own 0 rfl) (idx_get H19).2.2 rfl rfl rfl rfl rfl) rfl rfl rfl rfl rfl ?_
            refine TA.one 3 (by kernel_rfl) ?_
            refine TX.y (listed' := #[true, true, true, true, false, true, true, true, true, true, false, true, false, false]) [] rfl (Y.index_arr (α := Wrd) ka101 (Can.own 0 rfl) H17 rfl rfl) rfl rfl rfl rfl rfl ?_
            refine TA.one 4 (by kernel_rfl) ?_
            refine TX.y (listed' := #[true, true, true, true, true, true, true, true, true, true, false, true, false, false]) [] rfl (Y.load_el (us := [.int .u32 E16.v]) (u := .int .u32 E16.v) kk100 rfl (Can.own 0 rfl) (idx_get H17).2.2 rfl rfl rfl rfl rfl) rfl rfl rfl rfl rfl ?_
            refine TA.y (listed' := #[true, true, true, true, true, true, true, true, true, true, true, true, false, false]) 10 [] rfl (Y.add rfl rfl) rfl rfl rfl (by kernel_rfl) (by kernel_rfl) (by kernel_rfl) rfl rfl ?_
            refine TA.one 12 (by kernel_rfl) ?_
            refine TX.y (listed' := #[true, true, true, true, true, true, true, true, true, true, true, true, true, false]) [] rfl (Y.index_arr (α := Wrd) ka101 (Can.own 0 rfl) H17 rfl rfl) rfl rfl rfl rfl rfl ?_
            refine TA.one 13 (by kernel_rfl) ?_
            refine TX.ef0 (listed' := #[true, true, true, true, true, true, true, true, true, true, true, true, true, true]) [] rfl (Ef.store_el (us := [.int .u32 (IntKind.u32.wrap (E16.v + E18.v))]) (is' := [.own (arrS B_w_ 16) (lc (((w_.set a.toNat (Wrd.mk (IntKind.u32.wrap (E1.v + E3.v)))).set d.toNat (Wrd.mk R11)).set c.toNat (Wrd.mk (IntKind.u32.wrap (E16.v + E18.v)))))]) (Wrd.mk (IntKind.u32.wrap (E16.v + E18.v))) 0 kk100 rfl rfl (idx_get H17).2.2 rfl rfl (Cel.plain rfl rfl) rfl rfl rfl rfl) rfl rfl rfl (fun _ => rfl) (fun _ => ?_)
            refine TA.nil (by kernel_rfl) ?_
            exact TE.jb_go () [0] ⟨rfl, rfl, rfl, rfl, rfl, trivial⟩ rfl
      · refine TE.next ?_
        refine TW.seq ?_
        refine TW.bind fun E22 H23 => ?_
        refine TW.bind fun E24 H25 => ?_
        refine TW.bind fun R26 H27 => ?_
        refine TW.joinU (X := Unit) (fun _ _ => [(0, .pointer (some ⟨B_w_, 0, none⟩)), (1, .int .i64 a), (2, .int .i64 b), (3, .int .i64 c), (4, .int .i64 d)]) (fun _ _ => [.own (arrS B_w_ 16) (lc ((((w_.set a.toNat (Wrd.mk (IntKind.u32.wrap (E1.v + E3.v)))).set d.toNat (Wrd.mk R11)).set c.toNat (Wrd.mk (IntKind.u32.wrap (E16.v + E18.v)))).set b.toNat (Wrd.mk R26)))]) ?_ (fun _ X30 => ?_)
        · refine TW.draw (isH := []) hMix ?_
          refine TA.y (listed' := #[true, false, false, false, false, false, false, false, false, false, false, false, false, false, false, false, false]) 0 [] rfl (Y.move rfl) rfl rfl rfl (by kernel_rfl) (by kernel_rfl) (by kernel_rfl) rfl rfl ?_
          refine TA.y (listed' := #[true, true, false, false, false, false, false, false, false, false, false, false, false, false, false, false, false]) 1 [] rfl (Y.move rfl) rfl rfl rfl (by kernel_rfl) (by kernel_rfl) (by kernel_rfl) rfl rfl ?_
          refine TA.y (listed' := #[true, true, true, false, false, false, false, false, false, false, false, false, false, false, false, false, false]) 2 [] rfl (Y.move rfl) rfl rfl rfl (by kernel_rfl) (by kernel_rfl) (by kernel_rfl) rfl rfl ?_
          refine TA.y (listed' := #[true, true, true, true, false, false, false, false, false, false, false, false, false, false, false, false, false]) 3 [] rfl (Y.move rfl) rfl rfl rfl (by kernel_rfl) (by kernel_rfl) (by kernel_rfl) rfl rfl ?_
          refine TA.y (listed' := #[true, true, true, true, true, false, false, false, false, false, false, false, false, false, false, false, false]) 4 [] rfl (Y.nilCheck rfl) rfl rfl rfl (by kernel_rfl) (by kernel_rfl) (by kernel_rfl) rfl rfl ?_
          refine TA.y (listed' := #[true, true, true, true, true, false, false, true, false, false, false, false, false, false, false, false, false]) 7 [] rfl (Y.move rfl) rfl rfl rfl (by kernel_rfl) (by kernel_rfl) (by kernel_rfl) rfl rfl ?_
          refine TA.y (listed' := #[true, true, true, true, true, false, false, true, true, false, false, false, false, false, false, false, false]) 8 [] rfl (Y.move rfl) rfl rfl rfl (by kernel_rfl) (by kernel_rfl) (by kernel_rfl) rfl rfl ?_
          refine TA.y (listed' := #[true, true, true, true, true, false, false, true, true, true, false, false, false, false, false, false, false]) 9 [] rfl (Y.nilCheck rfl) rfl rfl rfl (by kernel_rfl) (by kernel_rfl) (by kernel_rfl) rfl rfl ?_
          refine TA.y (listed' := #[true, true, true, true, true, false, false, true, true, true, false, false, false, false, true, false, false]) 14 [] rfl (Y.nilCheck rfl) rfl rfl rfl (by kernel_rfl) (by kernel_rfl) (by kernel_rfl) rfl rfl ?_
          refine TA.two 5 10 (by kernel_rfl) ?_ ?_
          · refine TX.y (listed' := #[true, true, true, true, true, true, false, true, true, true, false, false, false, false, true, false, false]) [] rfl (Y.index_arr (α := Wrd) ka101 (Can.own 0 rfl) H23 rfl rfl) rfl rfl rfl rfl rfl ?_
            refine TA.two 6 10 (by kernel_rfl) ?_ ?_
            · refine TX.y (listed' := #[true, true, true, true, true, true, true, true, true, true, false, false, false, false, true, false, false]) [] rfl (Y.load_el (us := [.int .u32 E22.v]) (u := .int .u32 E22.v) kk100 rfl (Can.own 0 rfl) (idx_get H23).2.2 rfl rfl rfl rfl rfl) rfl rfl rfl rfl rfl ?_
              refine TA.one 10 (by kernel_rfl) ?_
              refine TX.y (listed' := #[true, true, true, true, true, true, true, true, true, true, true, false, false, false, true, false, false]) [] rfl (Y.index_arr (α := Wrd) ka101 (Can.own 0 rfl) H25 rfl rfl) rfl rfl rfl rfl rfl ?_
              refine TA.one 11 (by kernel_rfl) ?_
              refine TX.y (listed' := #[true, true, true, true, true, true, true, true, true, true, true, true, false, false, true, false, false]) [] rfl (Y.load_el (us := [.int .u32 E24.v]) (u := .int .u32 E24.v) kk100 rfl (Can.own 0 rfl) (idx_get H25).2.2 rfl rfl rfl rfl rfl) rfl rfl rfl rfl rfl ?_
              refine TA.y (listed' := #[true, true, true, true, true, true, true, true, true, true, true, true, true, false, true, false, false]) 12 [] rfl (Y.xor rfl rfl) rfl rfl rfl (by kernel_rfl) (by kernel_rfl) (by kernel_rfl) rfl rfl ?_
              refine TA.one 13 (by kernel_rfl) ?_
              refine TX.ef (listed' := #[true, true, true, true, true, true, true, true, true, true, true, true, true, true, true, false, false]) [] rfl (Ef.call (rest := [.own (arrS B_w_ 16) (lc (((w_.set a.toNat (Wrd.mk (IntKind.u32.wrap (E1.v + E3.v)))).set d.toNat (Wrd.mk R11)).set c.toNat (Wrd.mk (IntKind.u32.wrap (E16.v + E18.v)))))]) [0] (math_bits_RotateLeft32_con (ixor .u32 E22.v E24.v) (12 : Int)  R26 H27) kc77 rfl rfl trivial) rfl rfl rfl rfl (fun _ => rfl) (fun _ => ?_)
              refine TA.one 15 (by kernel_rfl) ?_
              refine TX.y (listed' := #[true, true, true, true, true, true, true, true, true, true, true, true, true, true, true, true, false]) [] rfl (Y.index_arr (α := Wrd) ka101 (Can.own 0 rfl) H23 rfl rfl) rfl rfl rfl rfl rfl ?_
              refine TA.one 16 (by kernel_rfl) ?_
              refine TX.ef0 (listed' := #[true, true, true, true, true, true, true, true, true, true, true, true, true, true, true, true, true]) [] rfl (Ef.store_el (us := [.int .u32 R26]) (is' := [.own (arrS B_w_ 16) (lc ((((w_.set a.toNat (Wrd.mk (IntKind.u32.wrap (E1.v + E3.v)))).set d.toNat (Wrd.mk R11)).set c.toNat (Wrd.mk (IntKind.u32.wrap (E16.v + E18.v)))).set b.toNat (Wrd.mk R26)))]) (Wrd.mk R26) 0 kk100 rfl rfl (idx_get H23).2.2 rfl rfl (Cel.plain rfl rfl) rfl rfl rfl rfl) rfl rfl rfl (fun _ => rfl) (fun _ => ?_)
              refine TA.nil (by kernel_rfl) ?_
              exact TE.jb_go () [0] ⟨rfl, rfl, rfl, rfl, rfl, trivial⟩ rfl
            · refine TX.y (listed' := #[true, true, true, true, true, true, false, true, true, true, true, false, false, false, true, false, false]) [] rfl (Y.index_arr (α := Wrd) ka101 (Can.own 0 rfl) H25 rfl rfl) rfl rfl rfl rfl rfl ?_
              refine TA.two 6 11 (by kernel_rfl) ?_ ?_
              · refine TX.y (listed' := #[true, true, true, true, true, true, true, true, true, true, true, false, false, false, true, false, false]) [] rfl (Y.load_el (us := [.int .u32 E22.v]) (u := .int .u32 E22.v) kk100 rfl (Can.own 0 rfl) (idx_get H23).2.2 rfl rfl rfl rfl rfl) rfl rfl rfl rfl rfl ?_
                refine TA.one 11 (by kernel_rfl) ?_
                refine TX.y (listed' := #[true, true, true, true, true, true, true, true, true, true, true, true, false, false, true, false, false]) [] rfl (Y.load_el (us := [.int .u32 E24.v]) (u := .int .u32 E24.v) kk100 rfl (Can.own 0 rfl) (idx_get H25).2.2 rfl rfl rfl rfl rfl) rfl rfl rfl rfl rfl ?_
                refine TA.y (listed' := #[true, true, true, true, true, true, true, true, true, true, true, true, true, false, true, false, false]) 12 [] rfl (Y.xor rfl rfl) rfl rfl rfl (by kernel_rfl) (by kernel_rfl) (by kernel_rfl) rfl rfl ?_
                refine TA.one 13 (by kernel_rfl) ?_
                refine TX.ef (listed' := #[true, true, true, true, true, true, true, true, true, true, true, true, true, true, true, false, false]) [] rfl (Ef.call (rest := [.own (arrS B_w_ 16) (lc (((w_.set a.toNat (Wrd.mk (IntKind.u32.wrap (E1.v + E3.v)))).set d.toNat (Wrd.mk R11)).set c.toNat (Wrd.mk (IntKind.u32.wrap (E16.v + E18.v)))))]) [0] (math_bits_RotateLeft32_con (ixor .u32 E22.v E24.v) (12 : Int)  R26 H27) kc77 rfl rfl trivial) rfl rfl rfl rfl (fun _ => rfl) (fun _ => ?_)
                refine TA.one 15 (by kernel_rfl) ?_
                refine TX.y (listed' := #[true, true, true, true, true, true, true, true, true, true, true, true, true, true, true, true, false]) [] rfl (Y.index_arr (α := Wrd) ka101 (Can.own 0 rfl) H23 rfl rfl) rfl rfl rfl rfl rfl ?_
                refine TA.one 16 (by kernel_rfl) ?_
                refine TX.ef0 (listed' := #[true, true, true, true, true, true, true, true, true, true, true, true, true, true, true, true, true]) [] rfl (Ef.store_el (us := [.int .u32 R26]) (is' := [.own (arrS B_w_ 16) (lc ((((w_.set a.toNat (Wrd.mk (IntKind.u32.wrap (E1.v + E3.v)))).set d.toNat (Wrd.mk R11)).set c.toNat (Wrd.mk (IntKind.u32.wrap (E16.v + E18.v)))).set b.toNat (Wrd.mk R26)))]) (Wrd.mk R26) 0 kk100 rfl rfl (idx_get H23).2.2 rfl rfl (Cel.plain rfl rfl) rfl rfl rfl rfl) rfl rfl rfl (fun _ => rfl) (fun _ => ?_)
                refine TA.nil (by kernel_rfl) ?_
                exact TE.jb_go () [0] ⟨rfl, rfl, rfl, rfl, rfl, trivial⟩ rfl
              · refine TX.y (listed' := #[true, true, true, true, true, true, false, true, true, true, true, true, false, false, true, false, false]) [] rfl (Y.load_el (us := [.int .u32 E24.v]) (u := .int .u32 E24.v) kk100 rfl (Can.own 0 rfl) (idx_get H25).2.2 rfl rfl rfl rfl rfl) rfl rfl rfl rfl rfl ?_
                refine TA.one 6 (by kernel_rfl) ?_
                refine TX.y (listed' := #[true, true, true, true, true, true, true, true, true, true, true, true, false, false, true, false, false]) [] rfl (Y.load_el (us := [.int .u32 E22.v]) (u := .int .u32 E22.v) kk100 rfl (Can.own 0 rfl) (idx_get H23).2.2 rfl rfl rfl rfl rfl) rfl rfl rfl rfl rfl ?_
                refine TA.y (listed' := #[true, true, true, true, true, true, true, true, true, true, true, true, true, false, true, false, false]) 12 [] rfl (Y.xor rfl rfl) rfl rfl rfl (by kernel_rfl) (by kernel_rfl) (by kernel_rfl) rfl rfl ?_
                refine TA.one 13 (by kernel_rfl) ?_
                refine TX.ef (listed' := #[true, true, true, true, true, true, true, true, true, true, true, true, true, true, true, false, false]) [] rfl (Ef.call (rest := [.own (arrS B_w_ 16) (lc (((w_.set a.toNat (Wrd.mk (IntKind.u32.wrap (E1.v + E3.v)))).set d.toNat (Wrd.mk R11)).set c.toNat (Wrd.mk (IntKind.u32.wrap (E16.v + E18.v)))))]) [0] (math_bits_RotateLeft32_con (ixor .u32 E22.v E24.v) (12 : Int)  R26 H27) kc77 rfl rfl trivial) rfl rfl rfl rfl (fun _ => rfl) (fun _ => ?_)
                refine TA.one 15 (by kernel_rfl) ?_
                refine TX.y (listed' := #[true, true, true, true, true, true, true, true, true, true, true, true, true, true, true, true, false]) [] rfl (Y.index_arr (α := Wrd) ka101 (Can.own 0 rfl) H23 rfl rfl) rfl rfl rfl rfl rfl ?_
                refine TA.one 16 (by kernel_rfl) ?_
                refine TX.ef0 (listed' := #[true, true, true, true, true, true, true, true, true, true, true, true, true, true, true, true, true]) [] rfl (Ef.store_el (us := [.int .u32 R26]) (is' := [.own (arrS B_w_ 16) (lc ((((w_.set a.toNat (Wrd.mk (IntKind.u32.wrap (E1.v + E3.v)))).set d.toNat (Wrd.mk R11)).set c.toNat (Wrd.mk (IntKind.u32.wrap (E16.v + E18.v)))).set b.toNat (Wrd.mk R26)))]) (Wrd.mk R26) 0 kk100 rfl rfl (idx_get H23).2.2 rfl rfl (Cel.plain rfl rfl) rfl rfl rfl rfl) rfl rfl rfl (fun _ => rfl) (fun _ => ?_)
                refine TA.nil (by kernel_rfl) ?_
                exact TE.jb_go () [0] ⟨rfl, rfl, rfl, rfl, rfl, trivial⟩ rfl
          · refine TX.y (listed' := #[true, true, true, true, true, false, false, true, true, true, true, false, false, false, true, false, false]) [] rfl (Y.index_arr (α := Wrd) ka101 (Can.own 0 rfl) H25 rfl rfl) rfl rfl rfl rfl rfl ?_
            refine TA.two 5 11 (by kernel_rfl) ?_ ?_
            · refine TX.y (listed' := #[true, true, true, true, true, true, false, true, true, true, true, false, false, false, true, false, false]) [] rfl (Y.index_arr (α := Wrd) ka101 (Can.own 0 rfl) H23 rfl rfl) rfl rfl rfl rfl rfl ?_
              refine TA.two 6 11 (by kernel_rfl) ?_ ?_
              · refine TX.y (listed' := #[true, true, true, true, true, true, true, true, true, true, true, false, false, false, true, false, false]) [] rfl (Y.load_el (us := [.int .u32 E22.v]) (u := .int .u32 E22.v) kk100 rfl (Can.own 0 rfl) (idx_get H23).2.2 rfl rfl rfl rfl rfl) rfl rfl rfl rfl rfl ?_
                refine TA.one 11 (by kernel_rfl) ?_
                refine TX.y (listed' := #[true, true, true, true, true, true, true, true, true, true, true, true, false, false, true, false, false]) [] rfl (Y.load_el (us := [.int .u32 E24.v]) (u := .int .u32 E24.v) kk100 rfl (Can.own 0 rfl) (idx_get H25).2.2 rfl rfl rfl rfl rfl) rfl rfl rfl rfl rfl ?_
                refine TA.y (listed' := #[true, true, true, true, true, true, true, true, true, true, true, true, true, false, true, false, false]) 12 [] rfl (Y.xor rfl rfl) rfl rfl rfl (by kernel_rfl) (by kernel_rfl) (by kernel_rfl) rfl rfl ?_
                refine TA.one 13 (by kernel_rfl) ?_
                refine TX.ef (listed' := #[true, true, true, true, true, true, true, true, true, true, true, true, true, true, true, false, false]) [] rfl (Ef.call (rest := [.own (arrS B_w_ 16) (lc (((w_.set a.toNat (Wrd.mk (IntKind.u32.wrap (E1.v + E3.v)))).set d.toNat (Wrd.mk R11)).set c.toNat (Wrd.mk (IntKind.u32.wrap (E16.v + E18.v)))))]) [0] (math_bits_RotateLeft32_con (ixor .u32 E22.v E24.v) (12 : Int)  R26 H27) kc77 rfl rfl trivial) rfl rfl rfl rfl (fun _ => rfl) (fun _ => ?_)
                refine TA.one 15 (by kernel_rfl) ?_
                refine TX.y (listed' := #[true, true, true, true, true, true, true, true, true, true, true, true, true, true, true, true, false]) [] rfl (Y.index_arr (α := Wrd) ka101 (Can.own 0 rfl) H23 rfl rfl) rfl rfl rfl rfl rfl ?_
                refine TA.one 16 (by kernel_rfl) ?_
                refine TX.ef0 (listed' := #[true, true, true, true, true, true, true, true, true, true, true, true, true, true, true, true, true]) [] rfl (Ef.store_el (us := [.int .u32 R26]) (is' := [.own (arrS B_w_ 16) (lc ((((w_.set a.toNat (Wrd.mk (IntKind.u32.wrap (E1.v + E3.v)))).set d.toNat (Wrd.mk R11)).set c.toNat (Wrd.mk (IntKind.u32.wrap (E16.v + E18.v)))).set b.toNat (Wrd.mk R26)))]) (Wrd.mk R26) 0 kk100 rfl rfl (idx_get H23).2.2 rfl rfl (Cel.plain rfl rfl) rfl rfl rfl rfl) rfl rfl rfl (fun _ => rfl) (fun _ => ?_)
                refine TA.nil (by kernel_rfl) ?_
                exact TE.jb_go () [0] ⟨rfl, rfl, rfl, rfl, rfl, trivial⟩ rfl
              · refine TX.y (listed' := #[true, true, true, true, true, true, false, true, true, true, true, true, false, false, true, false, false]) [] rfl (Y.load_el (us := [.int .u32 E24.v]) (u := .int .u32 E24.v) kk100 rfl (Can.own 0 rfl) (idx_get H25).2.2 rfl rfl rfl rfl rfl) rfl rfl rfl rfl rfl ?_
                refine TA.one 6 (by kernel_rfl) ?_
                refine TX.y (listed' := #[true, true, true, true, true, true, true, true, true, true, true, true, false, false, true, false, false]) [] rfl (Y.load_el (us := [.int .u32 E22.v]) (u := .int .u32 E22.v) kk100 rfl (Can.own 0 rfl) (idx_get H23).2.2 rfl rfl rfl rfl rfl) rfl rfl rfl rfl rfl ?_
                refine TA.y (listed' := #[true, true, true, true, true, true, true, true, true, true, true, true, true, false, true, false, false]) 12 [] rfl (Y.xor rfl rfl) rfl rfl rfl (by kernel_rfl) (by kernel_rfl) (by kernel_rfl) rfl rfl ?_
                refine TA.one 13 (by kernel_rfl) ?_
                refine TX.ef (listed' := #[true, true, true, true, true, true, true, true, true, true, true, true, true, true, true, false, false]) [] rfl (Ef.call (rest := [.own (arrS B_w_ 16) (lc (((w_.set a.toNat (Wrd.mk (IntKind.u32.wrap (E1.v + E3.v)))).set d.toNat (Wrd.mk R11)).set c.toNat (Wrd.mk (IntKind.u32.wrap (E16.v + E18.v)))))]) [0] (math_bits_RotateLeft32_con (ixor .u32 E22.v E24.v) (12 : Int)  R26 H27) kc77 rfl rfl trivial) rfl rfl rfl rfl (fun _ => rfl) (fun _ => ?_)
                refine TA.one 15 (by kernel_rfl) ?_
                refine TX.y (listed' := #[true, true, true, true, true, true, true, true, true, true, true, true, true, true, true, true, false]) [] rfl (Y.index_arr (α := Wrd) ka101 (Can.own 0 rfl) H23 rfl rfl) rfl rfl rfl rfl rfl ?_
                refine TA.one 16 (by kernel_rfl) ?_
                refine TX.ef0 (listed' := #[true, true, true, true, true, true, true, true, true, true, true, true, true, true, true, true, true]) [] rfl (Ef.store_el (us := [.int .u32 R26]) (is' := [.own (arrS B_w_ 16) (lc ((((w_.set a.toNat (Wrd.mk (IntKind.u32.wrap (E1.v + E3.v)))).set d.toNat (Wrd.mk R11)).set c.toNat (Wrd.mk (IntKind.u32.wrap (E16.v + E18.v)))).set b.toNat (Wrd.mk R26)))]) (Wrd.mk R26) 0 kk100 rfl rfl (idx_get H23).2.2 rfl rfl (Cel.plain rfl rfl) rfl rfl rfl rfl) rfl rfl rfl (fun _ => rfl) (fun _ => ?_)
                refine TA.nil (by kernel_rfl) ?_
                exact TE.jb_go () [0] ⟨rfl, rfl, rfl, rfl, rfl, trivial⟩ rfl
            · refine TX.y (listed' := #[true, true, true, true, true, false, false, true, true, true, true, true, false, false, true, false, false]) [] rfl (Y.load_el (us := [.int .u32 E24.v]) (u := .int .u32 E24.v) kk100 rfl (Can.own 0 rfl) (idx_get H25).2.2 rfl rfl rfl rfl rfl) rfl rfl rfl rfl rfl ?_
              refine TA.one 5 (by kernel_rfl) ?_
              refine TX.y (listed' := #[true, true, true, true, true, true, false, true, true, true, true, true, false, false, true, false, false]) [] rfl (Y.index_arr (α := Wrd) ka101 (Can.own 0 rfl) H23 rfl rfl) rfl rfl rfl rfl rfl ?_
              refine TA.one 6 (by kernel_rfl) ?_
              refine TX.y (listed' := #[true, true, true, true, true, true, true, true, true, true, true, true, false, false, true, false, false]) [] rfl (Y.load_el (us := [.int .u32 E22.v]) (u := .int .u32 E22.v) kk100 rfl (Can.own 0 rfl) (idx_get H23).2.2 rfl rfl rfl rfl rfl) rfl rfl rfl rfl rfl ?_
              refine TA.y (listed' := #[true, true, true, true, true, true, true, true, true, true, true, true, true, false, true, false, false]) 12 [] rfl (Y.xor rfl rfl) rfl rfl rfl (by kernel_rfl) (by kernel_rfl) (by kernel_rfl) rfl rfl ?_
              refine TA.one 13 (by kernel_rfl) ?_
              refine TX.ef (listed' := #[true, true, true, true, true, true, true, true, true, true, true, true, true, true, true, false, false]) [] rfl (Ef.call (rest := [.own (arrS B_w_ 16) (lc (((w_.set a.toNat (Wrd.mk (IntKind.u32.wrap (E1.v + E3.v)))).set d.toNat (Wrd.mk R11)).set c.toNat (Wrd.mk (IntKind.u32.wrap (E16.v + E18.v)))))]) [0] (math_bits_RotateLeft32_con (ixor .u32 E22.v E24.v) (12 : Int)  R26 H27) kc77 rfl rfl trivial) rfl rfl rfl rfl (fun _ => rfl) (fun _ => ?_)
              refine TA.one 15 (by kernel_rfl) ?_
              refine TX.y (listed' := #[true, true, true, true, true, true, true, true, true, true, true, true, true, true, true, true, false]) [] rfl (Y.index_arr (α := Wrd) ka101 (Can.own 0 rfl) H23 rfl rfl) rfl rfl rfl rfl rfl ?_
              refine TA.one 16 (by kernel_rfl) ?_
              refine TX.ef0 (listed' := #[true, true, true, true, true, true, true, true, true, true, true, true, true, true, true, true, true]) [] rfl (Ef.store_el (us := [.int .u32 R26]) (is' := [.own (arrS B_w_ 16) (lc ((((w_.set a.toNat (Wrd.mk (IntKind.u32.wrap (E1.v + E3.v)))).set d.toNat (Wrd.mk R11)).set c.toNat (Wrd.mk (IntKind.u32.wrap (E16.v + E18.v)))).set b.toNat (Wrd.mk R26)))]) (Wrd.mk R26) 0 kk100 rfl rfl (idx_get H23).2.2 rfl rfl (Cel.plain rfl rfl) rfl rfl rfl rfl) rfl rfl rfl (fun _ => rfl) (fun _ => ?_)
              refine TA.nil (by kernel_rfl) ?_
              exact TE.jb_go () [0] ⟨rfl, rfl, rfl, rfl, rfl, trivial⟩ rfl
        · refine TE.next ?_
          refine TW.seq ?_
          refine TW.bind fun E31 H32 => ?_
          refine TW.bind fun E33 H34 => ?_
          refine TW.joinU (X := Unit) (fun _ _ => [(0, .pointer (some ⟨B_w_, 0, none⟩)), (1, .int .i64 a), (2, .int .i64 b), (3, .int .i64 c), (4, .int .i64 d)]) (fun _ _ => [.own (arrS B_w_ 16) (lc (((((w_.set a.toNat (Wrd.mk (IntKind.u32.wrap (E1.v + E3.v)))).set d.toNat (Wrd.mk R11)).set c.toNat (Wrd.mk (IntKind.u32.wrap (E16.v + E18.v)))).set b.toNat (Wrd.mk R26)).set a.toNat (Wrd.mk (IntKind.u32.wrap (E31.v + E33.v)))))]) ?_ (fun _ X36 => ?_)
          · refine TW.draw (isH := []) hMix ?_
            refine TA.y (listed' := #[true, false, false, false, false, false, false, false, false, false, false, false, false, false]) 0 [] rfl (Y.move rfl) rfl rfl rfl (by kernel_rfl) (by kernel_rfl) (by kernel_rfl) rfl rfl ?_
            refine TA.y (listed' := #[true, true, false, false, false, false, false, false, false, false, false, false, false, false]) 1 [] rfl (Y.move rfl) rfl rfl rfl (by kernel_rfl) (by kernel_rfl) (by kernel_rfl) rfl rfl ?_
            refine TA.y (listed' := #[true, true, true, false, false, false, false, false, false, false, false, false, false, false]) 2 [] rfl (Y.nilCheck rfl) rfl rfl rfl (by kernel_rfl) (by kernel_rfl) (by kernel_rfl) rfl rfl ?_
            refine TA.y (listed' := #[true, true, true, false, false, true, false, false, false, false, false, false, false, false]) 5 [] rfl (Y.move rfl) rfl rfl rfl (by kernel_rfl) (by kernel_rfl) (by kernel_rfl) rfl rfl ?_
            refine TA.y (listed' := #[true, true, true, false, false, true, true, false, false, false, false, false, false, false]) 6 [] rfl (Y.move rfl) rfl rfl rfl (by kernel_rfl) (by kernel_rfl) (by kernel_rfl) rfl rfl ?_
            refine TA.y (listed' := #[true, true, true, false, false, true, true, true, false, false, false, false, false, false]) 7 [] rfl (Y.nilCheck rfl) rfl rfl rfl (by kernel_rfl) (by kernel_rfl) (by kernel_rfl) rfl rfl ?_
            refine TA.y (listed' := #[true, true, true, false, false, true, true, true, false, false, false, true, false, false]) 11 [] rfl (Y.nilCheck rfl) rfl rfl rfl (by kernel_rfl) (by kernel_rfl) (by kernel_rfl) rfl rfl ?_
            refine TA.two 3 8 (by kernel_rfl) ?_ ?_
            · refine TX.y (listed' := #[true, true, true, true, false, true, true, true, false, false, false, true, false, false]) [] rfl (Y.index_arr (α := Wrd) ka101 (Can.own 0 rfl) H32 rfl rfl) rfl rfl rfl rfl rfl ?_
              refine TA.two 4 8 (by kernel_rfl) ?_ ?_
              · refine TX.y (listed' := #[true, true, true, true, true, true, true, true, false, false, false, true, false, false]) [] rfl (Y.load_el (us := [.int .u32 E31.v]) (u := .int .u32 E31.v) kk100 rfl (Can.own 0 rfl) (idx_get H32).2.2 rfl rfl rfl rfl rfl) rfl rfl rfl rfl rfl ?_
                refine TA.one 8 (by kernel_rfl) ?_
                refine TX.y (listed' := #[true, true, true, true, true, true, true, true, true, false, false, true, false, false]) [] rfl (Y.index_arr (α := Wrd) ka101 (Can.own 0 rfl) H34 rfl rfl) rfl rfl rfl rfl rfl ?_
                refine TA.one 9 (by kernel_rfl) ?_
                refine TX.y (listed' := #[true, true, true, true, true, true, true, true, true, true, false, true, false, false]) [] rfl (Y.load_el (us := [.int .u32 E33.v]) (u := .int .u32 E33.v) kk100 rfl (Can.own 0 rfl) (idx_get H34).2.2 rfl rfl rfl rfl rfl) rfl rfl rfl rfl rfl ?_
                refine TA.y (listed' := #[true, true, true, true, true, true, true, true, true, true, true, true, false, false]) 10 [] rfl (Y.add rfl rfl) rfl rfl rfl (by kernel_rfl) (by kernel_rfl) (by kernel_rfl) rfl rfl ?_
                refine TA.one 12 (by kernel_rfl) ?_
                refine TX.y (listed' := #[true, true, true, true, true, true, true, true, true, true, true, true, true, false]) [] rfl (Y.index_arr (α := Wrd) ka101 (Can.own 0 rfl) H32 rfl rfl) rfl rfl rfl rfl rfl ?_
                refine TA.one 13 (by kernel_rfl) ?_
                refine TX.ef0 (listed' := #[true, true, true, true, true, true, true, true, true, true, true, true, true, true]) [] rfl (Ef.store_el (us := [.int .u32 (IntKind.u32.wrap (E31.v + E33.v))]) (is' := [.own (arrS B_w_ 16) (lc (((((w_.set a.toNat (Wrd.mk (IntKind.u32.wrap (E1.v + E3.v)))).set d.toNat (Wrd.mk R11)).set c.toNat (Wrd.mk (IntKind.u32.wrap (E16.v + E18.v)))).set b.toNat (Wrd.mk R26)).set a.toNat (Wrd.mk (IntKind.u32.wrap (E31.v + E33.v)))))]) (Wrd.mk (IntKind.u32.wrap (E31.v + E33.v))) 0 kk100 rfl rfl (idx_get H32).2.2 rfl rfl (Cel.plain rfl rfl) rfl rfl rfl rfl) rfl rfl rfl (fun _ => rfl) (fun _ => ?_)
                refine TA.nil (by kernel_rfl) ?_
                exact TE.jb_go () [0] ⟨rfl, rfl, rfl, rfl, rfl, trivial⟩ rfl
              · refine TX.y (listed' := #[true, true, true, true, false, true, true, true, true, false, false, true, false, false]) [] rfl (Y.index_arr (α := Wrd) ka101 (Can.own 0 rfl) H34 rfl rfl) rfl rfl rfl rfl rfl ?_
                refine TA.two 4 9 (by kernel_rfl) ?_ ?_
                · refine TX.y (listed' := #[true, true, true, true, true, true, true, true, true, false, false, true, false, false]) [] rfl (Y.load_el (us := [.int .u32 E31.v]) (u := .int .u32 E31.v) kk100 rfl (Can.own 0 rfl) (idx_get H32).2.2 rfl rfl rfl rfl rfl) rfl rfl rfl rfl rfl ?_
                  refine TA.one 9 (by kernel_rfl) ?_
                  refine TX.y (listed' := #[true, true, true, true, true, true, true, true, true, true, false, true, false, false]) [] rfl (Y.load_el (us := [.int .u32 E33.v]) (u := .int .u32 E33.v) kk100 rfl (Can.own 0 rfl) (idx_get H34).2.2 rfl rfl rfl rfl rfl) rfl rfl rfl rfl rfl ?_
                  refine TA.y (listed' := #[true, true, true, true, true, true, true, true, true, true, true, true, false, false]) 10 [] rfl (Y.add rfl rfl) rfl rfl rfl (by kernel_rfl) (by kernel_rfl) (by kernel_rfl) rfl rfl ?_
                  refine TA.one 12 (by kernel_rfl) ?_
                  refine TX.y (listed' := #[true, true, true, true, true, true, true, true, true, true, true, true, true, false]) [] rfl (Y.index_arr (α := Wrd) ka101 (Can.own 0 rfl) H32 rfl rfl) rfl rfl rfl rfl rfl ?_
                  refine TA.one 13 (by kernel_rfl) ?_
                  refine TX.ef0 (listed' := #[true, true, true, true, true, true, true, true, true, true, true, true, true, true]) [] rfl (Ef.store_el (us := [.int .u32 (IntKind.u32.wrap (E31.v + E33.v))]) (is' := [.own (arrS B_w_ 16) (lc (((((w_.set a.toNat (Wrd.mk (IntKind.u32.wrap (E1.v + E3.v)))).set d.toNat (Wrd.mk R11)).set c.toNat (Wrd.mk (IntKind.u32.wrap (E16.v + E18.v)))).set b.toNat (Wrd.mk R26)).set a.toNat (Wrd.mk (IntKind.u32.wrap (E31.v + E33.v)))))]) (Wrd.mk (IntKind.u32.wrap (E31.v + E33.v))) 0 kk100 rfl rfl (idx_get H32).2.2 rfl rfl (Cel.plain rfl rfl) rfl rfl rfl rfl) rfl rfl rfl (fun _ => rfl) (fun _ => ?_)
                  refine TA.nil (by kernel_rfl) ?_
                  exact TE.jb_go () [0] ⟨rfl, rfl, rfl, rfl, rfl, trivial⟩ rfl
                · refine TX.y (listed' := #[true, true, true, true, false, true, true, true, true, true, false, true, false, false]) [] rfl (Y.load_el (us := [.int .u32 E33.v]) (u := .int .u32 E33.v) kk100 rfl (Can.own 0 rfl) (idx_get H34).2.2 rfl rfl rfl rfl rfl) rfl rfl rfl rfl rfl ?_
                  refine TA.one 4 (by kernel_rfl) ?_
                  refine TX.y (listed' := #[true, true, true, true, true, true, true, true, true, true, false, true, false, false]) [] rfl (Y.load_el (us := [.int .u32 E31.v]) (u := .int .u32 E31.v) kk100 rfl (Can.own 0 rfl) (idx_get H32).2.2 rfl rfl rfl rfl rfl) rfl rfl rfl rfl rfl ?_
                  refine TA.y (listed' := #[true, true, true, true, true, true, true, true, true, true, true, true, false, false]) 10 [] rfl (Y.add rfl rfl) rfl rfl rfl (by kernel_rfl) (by kernel_rfl) (by kernel_rfl) rfl rfl ?_
                  refine TA.one 12 (by kernel_rfl) ?_
                  refine TX.y (listed' := #[true, true, true, true, true, true, true, true, true, true, true, true, true, false]) [] rfl (Y.index_arr (α := Wrd) ka101 (Can.own 0 rfl) H32 rfl rfl) rfl rfl rfl rfl rfl ?_
                  refine TA.one 13 (by kernel_rfl) ?_
                  refine TX.ef0 (listed' := #[true, true, true, true, true, true, true, true, true, true, true, true, true, true]) [] rfl (Ef.store_el (us := [.int .u32 (IntKind.u32.wrap (E31.v + E33.v))]) (is' := [.own (arrS B_w_ 16) (lc (((((w_.set a.toNat (Wrd.mk (IntKind.u32.wrap (E1.v + E3.v)))).set d.toNat (Wrd.mk R11)).set c.toNat (Wrd.mk (IntKind.u32.wrap (E16.v + E18.v)))).set b.toNat (Wrd.mk R26)).set a.toNat (Wrd.mk (IntKind.u32.wrap (E31.v + E33.v)))))]) (Wrd.mk (IntKind.u32.wrap (E31.v + E33.v))) 0 kk100 rfl rfl (idx_get H32).2.2 rfl rfl (Cel.plain rfl rfl) rfl rfl rfl rfl) rfl rfl rfl (fun _ => rfl) (fun _ => ?_)
                  refine TA.nil (by kernel_rfl) ?_
                  exact TE.jb_go () [0] ⟨rfl, rfl, rfl, rfl, rfl, trivial⟩ rfl
            · refine TX.y (listed' := #[true, true, true, false, false, true, true, true, true, false, false, true, false, false]) [] rfl (Y.index_arr (α := Wrd) ka101 (Can.own 0 rfl) H34 rfl rfl) rfl rfl rfl rfl rfl ?_
              refine TA.two 3 9 (by kernel_rfl) ?_ ?_
              · refine TX.y (listed' := #[true, true, true, true, false, true, true, true, true, false, false, true, false, false]) [] rfl (Y.index_arr (α := Wrd) ka101 (Can.own 0 rfl) H32 rfl rfl) rfl rfl rfl rfl rfl ?_
                refine TA.two 4 9 (by kernel_rfl) ?_ ?_
                · refine TX.y (listed' := #[true, true, true, true, true, true, true, true, true, false, false, true, false, false]) [] rfl (Y.load_el (us := [.int .u32 E31.v]) (u := .int .u32 E31.v) kk100 rfl (Can.own 0 rfl) (idx_get H32).2.2 rfl rfl rfl rfl rfl) rfl rfl rfl rfl rfl ?_
                  refine TA.one 9 (by kernel_rfl) ?_
                  refine TX.y (listed' := #[true, true, true, true, true, true, true, true, true, true, false, true, false, false]) [] rfl (Y.load_el (us := [.int .u32 E33.v]) (u := .int .u32 E33.v) kk100 rfl (Can.own 0 rfl) (idx_get H34).2.2 rfl rfl rfl rfl rfl) rfl rfl rfl rfl rfl ?_
                  refine TA.y (listed' := #[true, true, true, true, true, true, true, true, true, true, true, true, false, false]) 10 [] rfl (Y.add rfl rfl) rfl rfl rfl (by kernel_rfl) (by kernel_rfl) (by kernel_rfl) rfl rfl ?_
                  refine TA.one 12 (by kernel_rfl) ?_
                  refine TX.y (listed' := #[true, true, true, true, true, true, true, true, true, true, true, true, true, false]) [] rfl (Y.index_arr (α := Wrd) ka101 (Can.own 0 rfl) H32 rfl rfl) rfl rfl rfl rfl rfl ?_
                  refine TA.one 13 (by kernel_rfl) ?_
                  refine TX.ef0 (listed' := #[true, true, true, true, true, true, true, true, true, true, true, true, true, true]) [] rfl (Ef.store_el (us := [.int .u32 (IntKind.u32.wrap (E31.v + E33.v))]) (is' := [.own (arrS B_w_ 16) (lc (((((w_.set a.toNat (Wrd.mk (IntKind.u32.wrap (E1.v + E3.v)))).set d.toNat (Wrd.mk R11)).set c.toNat (Wrd.mk (IntKind.u32.wrap (E16.v + E18.v)))).set b.toNat (Wrd.mk R26)).set a.toNat (Wrd.mk (IntKind.u32.wrap (E31.v + E33.v)))))]) (Wrd.mk (IntKind.u32.wrap (E31.v + E33.v))) 0 kk100 rfl rfl (idx_get H32).2.2 rfl rfl (Cel.plain rfl rfl) rfl rfl rfl rfl) rfl rfl rfl (fun _ => rfl) (fun _ => ?_)
                  refine TA.nil (by kernel_rfl) ?_
                  exact TE.jb_go () [0] ⟨rfl, rfl, rfl, rfl, rfl, trivial⟩ rfl
                · refine TX.y (listed' := #[true, true, true, true, false, true, true, true, true, true, false, true, false, false]) [] rfl (Y.load_el (us := [.int .u32 E33.v]) (u := .int .u32 E33.v) kk100 rfl (Can.own 0 rfl) (idx_get H34).2.2 rfl rfl rfl rfl rfl) rfl rfl rfl rfl rfl ?_
                  refine TA.one 4 (by kernel_rfl) ?_
                  refine TX.y (listed' := #[true, true, true, true, true, true, true, true, true, true, false, true, false, false]) [] rfl (Y.load_el (us := [.int .u32 E31.v]) (u := .int .u32 E31.v) kk100 rfl (Can.own 0 rfl) (idx_get H32).2.2 rfl rfl rfl rfl rfl) rfl rfl rfl rfl rfl ?_
                  refine TA.y (listed' := #[true, true, true, true, true, true, true, true, true, true, true, true, false, false]) 10 [] rfl (Y.add rfl rfl) rfl rfl rfl (by kernel_rfl) (by kernel_rfl) (by kernel_rfl) rfl rfl ?_
                  refine TA.one 12 (by kernel_rfl) ?_
                  refine TX.y (listed' := #[true, true, true, true, true, true, true, true, true, true, true, true, true, false]) [] rfl (Y.index_arr (α := Wrd) ka101 (Can.own 0 rfl) H32 rfl rfl) rfl rfl rfl rfl rfl ?_
                  refine TA.one 13 (by kernel_rfl) ?_
                  refine TX.ef0 (listed' := #[true, true, true, true, true, true, true, true, true, true, true, true, true, true]) [] rfl (Ef.store_el (us := [.int .u32 (IntKind.u32.wrap (E31.v + E33.v))]) (is' := [.own (arrS B_w_ 16) (lc (((((w_.set a.toNat (Wrd.mk (IntKind.u32.wrap (E1.v + E3.v)))).set d.toNat (Wrd.mk R11)).set c.toNat (Wrd.mk (IntKind.u32.wrap (E16.v + E18.v)))).set b.toNat (Wrd.mk R26)).set a.toNat (Wrd.mk (IntKind.u32.wrap (E31.v + E33.v)))))]) (Wrd.mk (IntKind.u32.wrap (E31.v + E33.v))) 0 kk100 rfl rfl (idx_get H32).2.2 rfl rfl (Cel.plain rfl rfl) rfl rfl rfl rfl) rfl rfl rfl (fun _ => rfl) (fun _ => ?_)
                  refine TA.nil (by kernel_rfl) ?_
                  exact TE.jb_go () [0] ⟨rfl, rfl, rfl, rfl, rfl, trivial⟩ rfl
              · refine TX.y (listed' := #[true, true, true, false, false, true, true, true, true, true, false, true, false, false]) [] rfl (Y.load_el (us := [.int .u32 E33.v]) (u := .int .u32 E33.v) kk100 rfl (Can.own 0 rfl) (idx_get H34).2.2 rfl rfl rfl rfl rfl) rfl rfl rfl rfl rfl ?_
                refine TA.one 3 (by kernel_rfl) ?_
                refine TX.y (listed' := #[true, true, true, true, false, true, true, true, true, true, false, true, false, false]) [] rfl (Y.index_arr (α := Wrd) ka101 (Can.own 0 rfl) H32 rfl rfl) rfl rfl rfl rfl rfl ?_
                refine TA.one 4 (by kernel_rfl) ?_
                refine TX.y (listed' := #[true, true, true, true, true, true, true, true, true, true, false, true, false, false]) [] rfl (Y.load_el (us := [.int .u32 E31.v]) (u := .int .u32 E31.v) kk100 rfl (Can.own 0 rfl) (idx_get H32).2.2 rfl rfl rfl rfl rfl) rfl rfl rfl rfl rfl ?_
                refine TA.y (listed' := #[true, true, true, true, true, true, true, true, true, true, true, true, false, false]) 10 [] rfl (Y.add rfl rfl) rfl rfl rfl (by kernel_rfl) (by kernel_rfl) (by kernel_rfl) rfl rfl ?_
                refine TA.one 12 (by kernel_rfl) ?_
                refine TX.y (listed' := #[true, true, true, true, true, true, true, true, true, true, true, true, true, false]) [] rfl (Y.index_arr (α := Wrd) ka101 (Can.own 0 rfl) H32 rfl rfl) rfl rfl rfl rfl rfl ?_
                refine TA.one 13 (by kernel_rfl) ?_
                refine TX.ef0 (listed' := #[true, true, true, true, true, true, true, true, true, true, true, true, true, true]) [] rfl (Ef.store_el (us := [.int .u32 (IntKind.u32.wrap (E31.v + E33.v))]) (is' := [.own (arrS B_w_ 16) (lc (((((w_.set a.toNat (Wrd.mk (IntKind.u32.wrap (E1.v + E3.v)))).set d.toNat (Wrd.mk R11)).set c.toNat (Wrd.mk (IntKind.u32.wrap (E16.v + E18.v)))).set b.toNat (Wrd.mk R26)).set a.toNat (Wrd.mk (IntKind.u32.wrap (E31.v + E33.v)))))]) (Wrd.mk (IntKind.u32.wrap (E31.v + E33.v))) 0 kk100 rfl rfl (idx_get H32).2.2 rfl rfl (Cel.plain rfl rfl) rfl rfl rfl rfl) rfl rfl rfl (fun _ => rfl) (fun _ => ?_)
                refine TA.nil (by kernel_rfl) ?_
                exact TE.jb_go () [0] ⟨rfl, rfl, rfl, rfl, rfl, trivial⟩ rfl
          · refine TE.next ?_
            refine TW.seq ?_
            refine TW.bind fun E37 H38 => ?_
            refine TW.bind fun E39 H40 => ?_
            refine TW.bind fun R41 H42 => ?_
            refine TW.joinU (X := Unit) (fun _ _ => [(0, .pointer (some ⟨B_w_, 0, none⟩)), (2, .int .i64 b), (3, .int .i64 c), (4, .int .i64 d)]) (fun _ _ => [.own (arrS B_w_ 16) (lc ((((((w_.set a.toNat (Wrd.mk (IntKind.u32.wrap (E1.v + E3.v)))).set d.toNat (Wrd.mk R11)).set c.toNat (Wrd.mk (IntKind.u32.wrap (E16.v + E18.v)))).set b.toNat (Wrd.mk R26)).set a.toNat (Wrd.mk (IntKind.u32.wrap (E31.v + E33.v)))).set d.toNat (Wrd.mk R41)))]) ?_ (fun _ X45 => ?_)
            · refine TW.draw (isH := []) hMix ?_
              refine TA.y (listed' := #[true, false, false, false, false, false, false, false, false, false, false, false, false, false, false, false, false]) 0 [] rfl (Y.move rfl) rfl rfl rfl (by kernel_rfl) (by kernel_rfl) (by kernel_rfl) rfl rfl ?_
              refine TA.y (listed' := #[true, true, false, false, false, false, false, false, false, false, false, false, false, false, false, false, false]) 1 [] rfl (Y.move rfl) rfl rfl rfl (by kernel_rfl) (by kernel_rfl) (by kernel_rfl) rfl rfl ?_
              refine TA.y (listed' := #[true, true, true, false, false, false, false, false, false, false, false, false, false, false, false, false, false]) 2 [] rfl (Y.move rfl) rfl rfl rfl (by kernel_rfl) (by kernel_rfl) (by kernel_rfl) rfl rfl ?_
              refine TA.y (listed' := #[true, true, true, true, false, false, false, false, false, false, false, false, false, false, false, false, false]) 3 [] rfl (Y.move rfl) rfl rfl rfl (by kernel_rfl) (by kernel_rfl) (by kernel_rfl) rfl rfl ?_
              refine TA.y (listed' := #[true, true, true, true, true, false, false, false, false, false, false, false, false, false, false, false, false]) 4 [] rfl (Y.nilCheck rfl) rfl rfl rfl (by kernel_rfl) (by kernel_rfl) (by kernel_rfl) rfl rfl ?_
              refine TA.y (listed' := #[true, true, true, true, true, false, false, true, false, false, false, false, false, false, false, false, false]) 7 [] rfl (Y.move rfl) rfl rfl rfl (by kernel_rfl) (by kernel_rfl) (by kernel_rfl) rfl rfl ?_
              refine TA.y (listed' := #[true, true, true, true, true, false, false, true, true, false, false, false, false, false, false, false, false]) 8 [] rfl (Y.move rfl) rfl rfl rfl (by kernel_rfl) (by kernel_rfl) (by kernel_rfl) rfl rfl ?_
              refine TA.y (listed' := #[true, true, true, true, true, false, false, true, true, true, false, false, false, false, false, false, false]) 9 [] rfl (Y.nilCheck rfl) rfl rfl rfl (by kernel_rfl) (by kernel_rfl) (by kernel_rfl) rfl rfl ?_
              refine TA.y (listed' := #[true, true, true, true, true, false, false, true, true, true, false, false, false, false, true, false, false]) 14 [] rfl (Y.nilCheck rfl) rfl rfl rfl (by kernel_rfl) (by kernel_rfl) (by kernel_rfl) rfl rfl ?_
              refine TA.two 5 10 (by kernel_rfl) ?_ ?_
              · refine TX.y (listed' := #[true, true, true, true, true, true, false, true, true, true, false, false, false, false, true, false, false]) [] rfl (Y.index_arr (α := Wrd) ka101 (Can.own 0 rfl) H38 rfl rfl) rfl rfl rfl rfl rfl ?_
                refine TA.two 6 10 (by kernel_rfl) ?_ ?_
                · refine TX.y (listed' := #[true, true, true, true, true, true, true, true, true, true, false, false, false, false, true, false, false]) [] rfl (Y.load_el (us := [.int .u32 E37.v]) (u := .int .u32 E37.v) kk100 rfl (Can.own 0 rfl) (idx_get H38).2.2 rfl rfl rfl rfl rfl) rfl rfl rfl rfl rfl ?_
                  refine TA.one 10 (by kernel_rfl) ?_
                  refine TX.y (listed' := #[true, true, true, true, true, true, true, true, true, true, true, false, false, false, true, false, false]) [] rfl (Y.index_arr (α := Wrd) ka101 (Can.own 0 rfl) H40 rfl rfl) rfl rfl rfl rfl rfl ?_
                  refine TA.one 11 (by kernel_rfl) ?_
                  refine TX.y (listed' := #[true, true, true, true, true, true, true, true, true, true, true, true, false, false, true, false, false]) [] rfl (Y.load_el (us := [.int .u32 E39.v]) (u := .int .u32 E39.v) kk100 rfl (Can.own 0 rfl) (idx_get H40).2.2 rfl rfl rfl rfl rfl) rfl rfl rfl rfl rfl ?_
                  refine TA.y (listed' := #[true, true, true, true, true, true, true, true, true, true, true, true, true, false, true, false, false]) 12 [] rfl (Y.xor rfl rfl) rfl rfl rfl (by kernel_rfl) (by kernel_rfl) (by kernel_rfl) rfl rfl ?_
                  refine TA.one 13 (by kernel_rfl) ?_
                  refine TX.ef (listed' := #[true, true, true, true, true, true, true, true, true, true, true, true, true, true, true, false, false]) [] rfl (Ef.call (rest := [.own (arrS B_w_ 16) (lc (((((w_.set a.toNat (Wrd.mk (IntKind.u32.wrap (E1.v + E3.v)))).set d.toNat (Wrd.mk R11)).set c.toNat (Wrd.mk (IntKind.u32.wrap (E16.v + E18.v)))).set b.toNat (Wrd.mk R26)).set a.toNat (Wrd.mk (IntKind.u32.wrap (E31.v + E33.v)))))]) [0] (math_bits_RotateLeft32_con (ixor .u32 E37.v E39.v) (8 : Int)  R41 H42) kc77 rfl rfl trivial) rfl rfl rfl rfl (fun _ => rfl) (fun _ => ?_)
                  refine TA.one 15 (by kernel_rfl) ?_
                  refine TX.y (listed' := #[true, true, true, true, true, true, true, true, true, true, true, true, true, true, true, true, false]) [] rfl (Y.index_arr (α := Wrd) ka101 (Can.own 0 rfl) H38 rfl rfl) rfl rfl rfl rfl rfl ?_
                  refine TA.one 16 (by kernel_rfl) ?_
                  refine TX.ef0 (listed' := #[true, true, true, true, true, true, true, true, true, true, true, true, true, true, true, true, true]) [] rfl (Ef.store_el (us := [.int .u32 R41]) (is' := [.own (arrS B_w_ 16) (lc ((((((w_.set a.toNat (Wrd.mk (IntKind.u32.wrap (E1.v + E3.v)))).set d.toNat (Wrd.mk R11)).set c.toNat (Wrd.mk (IntKind.u32.wrap (E16.v + E18.v)))).set b.toNat (Wrd.mk R26)).set a.toNat (Wrd.mk (IntKind.u32.wrap (E31.v + E33.v)))).set d.toNat (Wrd.mk R41)))]) (Wrd.mk R41) 0 kk100 rfl rfl (idx_get H38).2.2 rfl rfl (Cel.plain rfl rfl) rfl rfl rfl rfl) rfl rfl rfl (fun _ => rfl) (fun _ => ?_)
                  refine TA.nil (by kernel_rfl) ?_
                  exact TE.jb_go () [0] ⟨rfl, rfl, rfl, rfl, trivial⟩ rfl
                · refine TX.y (listed' := #[true, true, true, true, true, true, false, true, true, true, true, false, false, false, true, false, false]) [] rfl (Y.index_arr (α := Wrd) ka101 (Can.own 0 rfl) H40 rfl rfl) rfl rfl rfl rfl rfl ?_
                  refine TA.two 6 11 (by kernel_rfl) ?_ ?_
                  · refine TX.y (listed' := #[true, true, true, true, true, true, true, true, true, true, true, false, false, false, true, false, false]) [] rfl (Y.load_el (us := [.int .u32 E37.v]) (u := .int .u32 E37.v) kk100 rfl (Can.own 0 rfl) (idx_get H38).2.2 rfl rfl rfl rfl rfl) rfl rfl rfl rfl rfl ?_
                    refine TA.one 11 (by kernel_rfl) ?_
                    refine TX.y (listed' := #[true, true, true, true, true, true, true, true, true, true, true, true, false, false, true, false, false]) [] rfl (Y.load_el (us := [.int .u32 E39.v]) (u := .int .u32 E39.v) kk100 rfl (Can.own 0 rfl) (idx_get H40).2.2 rfl rfl rfl rfl rfl) rfl rfl rfl rfl rfl ?_
                    refine TA.y (listed' := #[true, true, true, true, true, true, true, true, true, true, true, true, true, false, true, false, false]) 12 [] rfl (Y.xor rfl rfl) rfl rfl rfl (by kernel_rfl) (by kernel_rfl) (by kernel_rfl) rfl rfl ?_
                    refine TA.one 13 (by kernel_rfl) ?_
                    refine TX.ef (listed' := #[true, true, true, true, true, true, true, true, true, true, true, true, true, true, true, false, false]) [] rfl (Ef.call (rest := [.own (arrS B_w_ 16) (lc (((((w_.set a.toNat (Wrd.mk (IntKind.u32.wrap (E1.v + E3.v)))).set d.toNat (Wrd.mk R11)).set c.toNat (Wrd.mk (IntKind.u32.wrap (E16.v + E18.v)))).set b.toNat (Wrd.mk R26)).set a.toNat (Wrd.mk (IntKind.u32.wrap (E31.v + E33.v)))))]) [0] (math_bits_RotateLeft32_con (ixor .u32 E37.v E39.v) (8 : Int)  R41 H42) kc77 rfl rfl trivial) rfl rfl rfl rfl (fun _ => rfl) (fun _ => ?_)
                    refine TA.one 15 (by kernel_rfl) ?_
                    refine TX.y (listed' := #[true, true, true, true, true, true, true, true, true, true, true, true, true, true, true, true, false]) [] rfl (Y.index_arr (α := Wrd) ka101 (Can.own 0 rfl) H38 rfl rfl) rfl rfl rfl rfl rfl ?_
                    refine TA.one 16 (by kernel_rfl) ?_
                    refine TX.ef0 (listed' := #[true, true, true, true, true, true, true, true, true, true, true, true, true, true, true, true, true]) [] rfl (Ef.store_el (us := [.int .u32 R41]) (is' := [.own (arrS B_w_ 16) (lc ((((((w_.set a.toNat (Wrd.mk (IntKind.u32.wrap (E1.v + E3.v)))).set d.toNat (Wrd.mk R11)).set c.toNat (Wrd.mk (IntKind.u32.wrap (E16.v + E18.v)))).set b.toNat (Wrd.mk R26)).set a.toNat (Wrd.mk (IntKind.u32.wrap (E31.v + E33.v)))).set d.toNat (Wrd.mk R41)))]) (Wrd.mk R41) 0 kk100 rfl rfl (idx_get H38).2.2 rfl rfl (Cel.plain rfl rfl) rfl rfl rfl rfl) rfl rfl rfl (fun _ => rfl) (fun _ => ?_)
                    refine TA.nil (by kernel_rfl) ?_
                    exact TE.jb_go () [0] ⟨rfl, rfl, rfl, rfl, trivial⟩ rfl
                  · refine TX.y (listed' := #[true, true, true, true, true, true, false, true, true, true, true, true, false, false, true, false, false]) [] rfl (Y.load_el (us := [.int .u32 E39.v]) (u := .int .u32 E39.v) kk100 rfl (Can.own 0 rfl) (idx_get H40).2.2 rfl rfl rfl rfl rfl) rfl rfl rfl rfl rfl ?_
                    refine TA.one 6 (by kernel_rfl) ?_
                    refine TX.y (listed' := #[true, true, true, true, true, true, true, true, true, true, true, true, false, false, true, false, false]) [] rfl (Y.load_el (us := [.int .u32 E37.v]) (u := .int .u32 E37.v) kk100 rfl (Can.own 0 rfl) (idx_get H38).2.2 rfl rfl rfl rfl rfl) rfl rfl rfl rfl rfl ?_
                    refine TA.y (listed' := #[true, true, true, true, true, true, true, true, true, true, true, true, true, false, true, false, false]) 12 [] rfl (Y.xor rfl rfl) rfl rfl rfl (by kernel_rfl) (by kernel_rfl) (by kernel_rfl) rfl rfl ?_
                    refine TA.one 13 (by kernel_rfl) ?_
                    refine TX.ef (listed' := #[true, true, true, true, true, true, true, true, true, true, true, true, true, true, true, false, false]) [] rfl (Ef.call (rest := [.own (arrS B_w_ 16) (lc (((((w_.set a.toNat (Wrd.mk (IntKind.u32.wrap (E1.v + E3.v)))).set d.toNat (Wrd.mk R11)).set c.toNat (Wrd.mk (IntKind.u32.wrap (E16.v + E18.v)))).set b.toNat (Wrd.mk R26)).set a.toNat (Wrd.mk (IntKind.u32.wrap (E31.v + E33.v)))))]) [0] (math_bits_RotateLeft32_con (ixor .u32 E37.v E39.v) (8 : Int)  R41 H42) kc77 rfl rfl trivial) rfl rfl rfl rfl (fun _ => rfl) (fun _ => ?_)
                    refine TA.one 15 (by kernel_rfl) ?_
                    refine TX.y (listed' := #[true, true, true, true, true, true, true, true, true, true, true, true, true, true, true, true, false]) [] rfl (Y.index_arr (α := Wrd) ka101 (Can.own 0 rfl) H38 rfl rfl) rfl rfl rfl rfl rfl ?_
                    refine TA.one 16 (by kernel_rfl) ?_
                    refine TX.ef0 (listed' := #[true, true, true, true, true, true, true, true, true, true, true, true, true, true, true, true, true]) [] rfl (Ef.store_el (us := [.int .u32 R41]) (is' := [.own (arrS B_w_ 16) (lc ((((((w_.set a.toNat (Wrd.mk (IntKind.u32.wrap (E1.v + E3.v)))).set d.toNat (Wrd.mk R11)).set c.toNat (Wrd.mk (IntKind.u32.wrap (E16.v + E18.v)))).set b.toNat (Wrd.mk R26)).set a.toNat (Wrd.mk (IntKind.u32.wrap (E31.v + E33.v)))).set d.toNat (Wrd.mk R41)))]) (Wrd.mk R41) 0 kk100 rfl rfl (idx_get H38).2.2 rfl rfl (Cel.plain rfl rfl) rfl rfl rfl rfl) rfl rfl rfl (fun _ => rfl) (fun _ => ?_)
                    refine TA.nil (by kernel_rfl) ?_
                    exact TE.jb_go () [0] ⟨rfl, rfl, rfl, rfl, trivial⟩ rfl
              · refine TX.y (listed' := #[true, true, true, true, true, false, false, true, true, true, true, false, false, false, true, false, false]) [] rfl (Y.index_arr (α := Wrd) ka101 (Can.own 0 rfl) H40 rfl rfl) rfl rfl rfl rfl rfl ?_
                refine TA.two 5 11 (by kernel_rfl) ?_ ?_
                · refine TX.y (listed' := #[true, true, true, true, true, true, false, true, true, true, true, false, false, false, true, false, false]) [] rfl (Y.index_arr (α := Wrd) ka101 (Can.own 0 rfl) H38 rfl rfl) rfl rfl rfl rfl rfl ?_
                  refine TA.two 6 11 (by kernel_rfl) ?_ ?_
                  · refine TX.y (listed' := #[true, true, true, true, true, true, true, true, true, true, true, false, false, false, true, false, false]) [] rfl (Y.load_el (us := [.int .u32 E37.v]) (u := .int .u32 E37.v) kk100 rfl (Can.own 0 rfl) (idx_get H38).2.2 rfl rfl rfl rfl rfl) rfl rfl rfl rfl rfl ?_
                    refine TA.one 11 (by kernel_rfl) ?_
                    refine TX.y (listed' := #[true, true, true, true, true, true, true, true, true, true, true, true, false, false, true, false, false]) [] rfl (Y.load_el (us := [.int .u32 E39.v]) (u := .int .u32 E39.v) kk100 rfl (Can.own 0 rfl) (idx_get H40).2.2 rfl rfl rfl rfl rfl) rfl rfl rfl rfl rfl ?_
                    refine TA.y (listed' := #[true, true, true, true, true, true, true, true, true, true, true, true, true, false, true, false, false]) 12 [] rfl (Y.xor rfl rfl) rfl rfl rfl (by kernel_rfl) (by kernel_rfl) (by kernel_rfl) rfl rfl ?_
                    refine TA.one 13 (by kernel_rfl) ?_
                    refine TX.ef (listed' := #[true, true, true, true, true, true, true, true, true, true, true, true, true, true, true, false, false]) [] rfl (Ef.call (rest := [.own (arrS B_w_ 16) (lc (((((w_.set a.toNat (Wrd.mk (IntKind.u32.wrap (E1.v + E3.v)))).set d.toNat (Wrd.mk R11)).set c.toNat (Wrd.mk (IntKind.u32.wrap (E16.v + E18.v)))).set b.toNat (Wrd.mk R26)).set a.toNat (Wrd.mk (IntKind.u32.wrap (E31.v + E33.v)))))]) [0] (math_bits_RotateLeft32_con (ixor .u32 E37.v E39.v) (8 : Int)  R41 H42) kc77 rfl rfl trivial) rfl rfl rfl rfl (fun _ => rfl) (fun _ => ?_)
                    refine TA.one 15 (by kernel_rfl) ?_
                    refine TX.y (listed' := #[true, true, true, true, true, true, true, true, true, true, true, true, true, true, true, true, false]) [] rfl (Y.index_arr (α := Wrd) ka101 (Can.own 0 rfl) H38 rfl rfl) rfl rfl rfl rfl rfl ?_
                    refine TA.one 16 (by kernel_rfl) ?_
                    refine TX.ef0 (listed' := #[true, true, true, true, true, true, true, true, true, true, true, true, true, true, true, true, true]) [] rfl (Ef.store_el (us := [.int .u32 R41]) (is' := [.own (arrS B_w_ 16) (lc ((((((w_.set a.toNat (Wrd.mk (IntKind.u32.wrap (E1.v + E3.v)))).set d.toNat (Wrd.mk R11)).set c.toNat (Wrd.mk (IntKind.u32.wrap (E16.v + E18.v)))).set b.toNat (Wrd.mk R26)).set a.toNat (Wrd.mk (IntKind.u32.wrap (E31.v + E33.v)))).set d.toNat (Wrd.mk R41)))]) (Wrd.mk R41) 0 kk100 rfl rfl (idx_get H38).2.2 rfl rfl (Cel.plain rfl rfl) rfl rfl rfl rfl) rfl rfl rfl (fun _ => rfl) (fun _ => ?_)
                    refine TA.nil (by kernel_rfl) ?_
                    exact TE.jb_go () [0] ⟨rfl, rfl, rfl, rfl, trivial⟩ rfl
                  · refine TX.y (listed' := #[true, true, true, true, true, true, false, true, true, true, true, true, false, false, true, false, false]) [] rfl (Y.load_el (us := [.int .u32 E39.v]) (u := .int .u32 E39.v) kk100 rfl (Can.own 0 rfl) (idx_get H40).2.2 rfl rfl rfl rfl rfl) rfl rfl rfl rfl rfl ?_
                    refine TA.one 6 (by kernel_rfl) ?_
                    refine TX.y (listed' := #[true, true, true, true, true, true, true, true, true, true, true, true, false, false, true, false, false]) [] rfl (Y.load_el (us := [.int .u32 E37.v]) (u := .int .u32 E37.v) kk100 rfl (Can.own 0 rfl) (idx_get H38).2.2 rfl rfl rfl rfl rfl) rfl rfl rfl rfl rfl ?_
                    refine TA.y (listed' := #[true, true, true, true, true, true, true, true, true, true, true, true, true, false, true, false, false]) 12 [] rfl (Y.xor rfl rfl) rfl rfl rfl (by kernel_rfl) (by kernel_rfl) (by kernel_rfl) rfl rfl ?_
                    refine TA.one 13 (by kernel_rfl) ?_
                    refine TX.ef (listed' := #[true, true, true, true, true, true, true, true, true, true, true, true, true, true, true, false, false]) [] rfl (Ef.call (rest := [.own (arrS B_w_ 16) (lc (((((w_.set a.toNat (Wrd.mk (IntKind.u32.wrap (E1.v + E3.v)))).set d.toNat (Wrd.mk R11)).set c.toNat (Wrd.mk (IntKind.u32.wrap (E16.v + E18.v)))).set b.toNat (Wrd.mk R26)).set a.toNat (Wrd.mk (IntKind.u32.wrap (E31.v + E33.v)))))]) [0] (math_bits_RotateLeft32_con (ixor .u32 E37.v E39.v) (8 : Int)  R41 H42) kc77 rfl rfl trivial) rfl rfl rfl rfl (fun _ => rfl) (fun _ => ?_)
                    refine TA.one 15 (by kernel_rfl) ?_
                    refine TX.y (listed' := #[true, true, true, true, true, true, true, true, true, true, true, true, true, true, true, true, false]) [] rfl (Y.index_arr (α := Wrd) ka101 (Can.own 0 rfl) H38 rfl rfl) rfl rfl rfl rfl rfl ?_
                    refine TA.one 16 (by kernel_rfl) ?_
                    refine TX.ef0 (listed' := #[true, true, true, true, true, true, true, true, true, true, true, true, true, true, true, true, true]) [] rfl (Ef.store_el (us := [.int .u32 R41]) (is' := [.own (arrS B_w_ 16) (lc ((((((w_.set a.toNat (Wrd.mk (IntKind.u32.wrap (E1.v + E3.v)))).set d.toNat (Wrd.mk R11)).set c.toNat (Wrd.mk (IntKind.u32.wrap (E16.v + E18.v)))).set b.toNat (Wrd.mk R26)).set a.toNat (Wrd.mk (IntKind.u32.wrap (E31.v + E33.v)))).set d.toNat (Wrd.mk R41)))]) (Wrd.mk R41) 0 kk100 rfl rfl (idx_get H38).2.2 rfl rfl (Cel.plain rfl rfl) rfl rfl rfl rfl) rfl rfl rfl (fun _ => rfl) (fun _ => ?_)
                    refine TA.nil (by kernel_rfl) ?_
                    exact TE.jb_go () [0] ⟨rfl, rfl, rfl, rfl, trivial⟩ rfl
                · refine TX.y (listed' := #[true, true, true, true, true, false, false, true, true, true, true, true, false, false, true, false, false]) [] rfl (Y.load_el (us := [.int .u32 E39.v]) (u := .int .u32 E39.v) kk100 rfl (Can.own 0 rfl) (idx_get H40).2.2 rfl rfl rfl rfl rfl) rfl rfl rfl rfl rfl ?_
                  refine TA.one 5 (by kernel_rfl) ?_
                  refine TX.y (listed' := #[true, true, true, true, true, true, false, true, true, true, true, true, false, false, true, false, false]) [] rfl (Y.index_arr (α := Wrd) ka101 (Can.own 0 rfl) H38 rfl rfl) rfl rfl rfl rfl rfl ?_
                  refine TA.one 6 (by kernel_rfl) ?_
                  refine TX.y (listed' := #[true, true, true, true, true, true, true, true, true, true, true, true, false, false, true, false, false]) [] rfl (Y.load_el (us := [.int .u32 E37.v]) (u := .int .u32 E37.v) kk100 rfl (Can.own 0 rfl) (idx_get H38).2.2 rfl rfl rfl rfl rfl) rfl rfl rfl rfl rfl ?_
                  refine TA.y (listed' := #[true, true, true, true, true, true, true, true, true, true, true, true, true, false, true, false, false]) 12 [] rfl (Y.xor rfl rfl) rfl rfl rfl (by kernel_rfl) (by kernel_rfl) (by kernel_rfl) rfl rfl ?_
                  refine TA.one 13 (by kernel_rfl) ?_
                  refine TX.ef (listed' := #[true, true, true, true, true, true, true, true, true, true, true, true, true, true, true, false, false]) [] rfl (Ef.call (rest := [.own (arrS B_w_ 16) (lc (((((w_.set a.toNat (Wrd.mk (IntKind.u32.wrap (E1.v + E3.v)))).set d.toNat (Wrd.mk R11)).set c.toNat (Wrd.mk (IntKind.u32.wrap (E16.v + E18.v)))).set b.toNat (Wrd.mk R26)).set a.toNat (Wrd.mk (IntKind.u32.wrap (E31.v + E33.v)))))]) [0] (math_bits_RotateLeft32_con (ixor .u32 E37.v E39.v) (8 : Int)  R41 H42) kc77 rfl rfl trivial) rfl rfl rfl rfl (fun _ => rfl) (fun _ => ?_)
                  refine TA.one 15 (by kernel_rfl) ?_
                  refine TX.y (listed' := #[true, true, true, true, true, true, true, true, true, true, true, true, true, true, true, true, false]) [] rfl (Y.index_arr (α := Wrd) ka101 (Can.own 0 rfl) H38 rfl rfl) rfl rfl rfl rfl rfl ?_
                  refine TA.one 16 (by kernel_rfl) ?_
                  refine TX.ef0 (listed' := #[true, true, true, true, true, true, true, true, true, true, true, true, true, true, true, true, true]) [] rfl (Ef.store_el (us := [.int .u32 R41]) (is' := [.own (arrS B_w_ 16) (lc ((((((w_.set a.toNat (Wrd.mk (IntKind.u32.wrap (E1.v + E3.v)))).set d.toNat (Wrd.mk R11)).set c.toNat (Wrd.mk (IntKind.u32.wrap (E16.v + E18.v)))).set b.toNat (Wrd.mk R26)).set a.toNat (Wrd.mk (IntKind.u32.wrap (E31.v + E33.v)))).set d.toNat (Wrd.mk R41)))]) (Wrd.mk R41) 0 kk100 rfl rfl (idx_get H38).2.2 rfl rfl (Cel.plain rfl rfl) rfl rfl rfl rfl) rfl rfl rfl (fun _ => rfl) (fun _ => ?_)
                  refine TA.nil (by kernel_rfl) ?_
                  exact TE.jb_go () [0] ⟨rfl, rfl, rfl, rfl, trivial⟩ rfl
            · refine TE.next ?_
              refine TW.seq ?_
              refine TW.bind fun E46 H47 => ?_
              refine TW.bind fun E48 H49 => ?_
              refine TW.joinU (X := Unit) (fun _ _ => [(0, .pointer (some ⟨B_w_, 0, none⟩)), (2, .int .i64 b), (3, .int .i64 c)]) (fun _ _ => [.own (arrS B_w_ 16) (lc (((((((w_.set a.toNat (Wrd.mk (IntKind.u32.wrap (E1.v + E3.v)))).set d.toNat (Wrd.mk R11)).set c.toNat (Wrd.mk (IntKind.u32.wrap (E16.v + E18.v)))).set b.toNat (Wrd.mk R26)).set a.toNat (Wrd.mk (IntKind.u32.wrap (E31.v + E33.v)))).set d.toNat (Wrd.mk R41)).set c.toNat (Wrd.mk (IntKind.u32.wrap (E46.v + E48.v)))))]) ?_ (fun _ X51 => ?_)
              · refine TW.draw (isH := []) hMix ?_
                refine TA.y (listed' := #[true, false, false, false, false, false, false, false, false, false, false, false, false, false]) 0 [] rfl (Y.move rfl) rfl rfl rfl (by kernel_rfl) (by kernel_rfl) (by kernel_rfl) rfl rfl ?_
                refine TA.y (listed' := #[true, true, false, false, false, false, false, false, false, false, false, false, false, false]) 1 [] rfl (Y.move rfl) rfl rfl rfl (by kernel_rfl) (by kernel_rfl) (by kernel_rfl) rfl rfl ?_
                refine TA.y (listed' := #[true, true, true, false, false, false, false, false, false, false, false, false, false, false]) 2 [] rfl (Y.nilCheck rfl) rfl rfl rfl (by kernel_rfl) (by kernel_rfl) (by kernel_rfl) rfl rfl ?_
                refine TA.y (listed' := #[true, true, true, false, false, true, false, false, false, false, false, false, false, false]) 5 [] rfl (Y.move rfl) rfl rfl rfl (by kernel_rfl) (by kernel_rfl) (by kernel_rfl) rfl rfl ?_
                refine TA.y (listed' := #[true, true, true, false, false, true, true, false, false, false, false, false, false, false]) 6 [] rfl (Y.move rfl) rfl rfl rfl (by kernel_rfl) (by kernel_rfl) (by kernel_rfl) rfl rfl ?_
                refine TA.y (listed' := #[true, true, true, false, false, true, true, true, false, false, false, false, false, false]) 7 [] rfl (Y.nilCheck rfl) rfl rfl rfl (by kernel_rfl) (by kernel_rfl) (by kernel_rfl) rfl rfl ?_
                refine TA.y (listed' := #[true, true, true, false, false, true, true, true, false, false, false, true, false, false]) 11 [] rfl (Y.nilCheck rfl) rfl rfl rfl (by kernel_rfl) (by kernel_rfl) (by kernel_rfl) rfl rfl ?_
                refine TA.two 3 8 (by kernel_rfl) ?_ ?_
                · refine TX.y (listed' := #[true, true, true, true, false, true, true, true, false, false, false, true, false, false]) [] rfl (Y.index_arr (α := Wrd) ka101 (Can.own 0 rfl) H47 rfl rfl) rfl rfl rfl rfl rfl ?_
                  refine TA.two 4 8 (by kernel_rfl) ?_ ?_
                  · refine TX.y (listed' := #[true, true, true, true, true, true, true, true, false, false, false, true, false, false]) [] rfl (Y.load_el (us := [.int .u32 E46.v]) (u := .int .u32 E46.v) kk100 rfl (Can.own 0 rfl) (idx_get H47).2.2 rfl rfl rfl rfl rfl) rfl rfl rfl rfl rfl ?_
                    refine TA.one 8 (by kernel_rfl) ?_
                    refine TX.y (listed' := #[true, true, true, true, true, true, true, true, true, false, false, true, false, false]) [] rfl (Y.index_arr (α := Wrd) ka101 (Can.own 0 rfl) H49 rfl rfl) rfl rfl rfl rfl rfl ?_
                    refine TA.one 9 (by kernel_rfl) ?_
                    refine TX.y (listed' := #[true, true, true, true, true, true, true, true, true, true, false, true, false, false]) [] rfl (Y.load_el (us := [.int .u32 E48.v]) (u := .int .u32 E48.v) kk100 rfl (Can.own 0 rfl) (idx_get H49).2.2 rfl rfl rfl rfl rfl) rfl rfl rfl rfl rfl ?_
                    refine TA.y (listed' := #[true, true, true, true, true, true, true, true, true, true, true, true, false, false]) 10 [] rfl (Y.add rfl rfl) rfl rfl rfl (by kernel_rfl) (by kernel_rfl) (by kernel_rfl) rfl rfl ?_
                    refine TA.one 12 (by kernel_rfl) ?_
                    refine TX.y (listed' := #[true, true, true, true, true, true, true, true, true, true, true, true, true, false]) [] rfl (Y.index_arr (α := Wrd) ka101 (Can.own 0 rfl) H47 rfl rfl) rfl rfl rfl rfl rfl ?_
                    refine TA.one 13 (by kernel_rfl) ?_
                    refine TX.ef0 (listed' := #[true, true, true, true, true, true, true, true, true, true, true, true, true, true]) [] rfl (Ef.store_el (us := [.int .u32 (IntKind.u32.wrap (E46.v + E48.v))]) (is' := [.own (arrS B_w_ 16) (lc (((((((w_.set a.toNat (Wrd.mk (IntKind.u32.wrap (E1.v + E3.v)))).set d.toNat (Wrd.mk R11)).set c.toNat (Wrd.mk (IntKind.u32.wrap (E16.v + E18.v)))).set b.toNat (Wrd.mk R26)).set a.toNat (Wrd.mk (IntKind.u32.wrap (E31.v + E33.v)))).set d.toNat (Wrd.mk R41)).set c.toNat (Wrd.mk (IntKind.u32.wrap (E46.v + E48.v)))))]) (Wrd.mk (IntKind.u32.wrap (E46.v + E48.v))) 0 kk100 rfl rfl (idx_get H47).2.2 rfl rfl (Cel.plain rfl rfl) rfl rfl rfl rfl) rfl rfl rfl (fun _ => rfl) (fun _ => ?_)
                    refine TA.nil (by kernel_rfl) ?_
                    exact TE.jb_go () [0] ⟨rfl, rfl, rfl, trivial⟩ rfl
                  · refine TX.y (listed' := #[true, true, true, true, false, true, true, true, true, false, false, true, false, false]) [] rfl (Y.index_arr (α := Wrd) ka101 (Can.own 0 rfl) H49 rfl rfl) rfl rfl rfl rfl rfl ?_
                    refine TA.two 4 9 (by kernel_rfl) ?_ ?_
                    · refine TX.y (listed' := #[true, true, true, true, true, true, true, true, true, false, false, true, false, false]) [] rfl (Y.load_el (us := [.int .u32 E46.v]) (u := .int .u32 E46.v) kk100 rfl (Can.own 0 rfl) (idx_get H47).2.2 rfl rfl rfl rfl rfl) rfl rfl rfl rfl rfl ?_
                      refine TA.one 9 (by kernel_rfl) ?_
                      refine TX.y (listed' := #[true, true, true, true, true, true, true, true, true, true, false, true, false, false]) [] rfl (Y.load_el (us := [.int .u32 E48.v]) (u := .int .u32 E48.v) kk100 rfl (Can.own 0 rfl) (idx_get H49).2.2 rfl rfl rfl rfl rfl) rfl rfl rfl rfl rfl ?_
                      refine TA.y (listed' := #[true, true, true, true, true, true, true, true, true, true, true, true, false, false]) 10 [] rfl (Y.add rfl rfl) rfl rfl rfl (by kernel_rfl) (by kernel_rfl) (by kernel_rfl) rfl rfl ?_
                      refine TA.one 12 (by kernel_rfl) ?_
                      refine TX.y (listed' := #[true, true, true, true, true, true, true, true, true, true, true, true, true, false]) [] rfl (Y.index_arr (α := Wrd) ka101 (Can.own 0 rfl) H47 rfl rfl) rfl rfl rfl rfl rfl ?_
                      refine TA.one 13 (by kernel_rfl) ?_
                      refine TX.ef0 (listed' := #[true, true, true, true, true, true, true, true, true, true, true, true, true, true]) [] rfl (Ef.store_el (us := [.int .u32 (IntKind.u32.wrap (E46.v + E48.v))]) (is' := [.own (arrS B_w_ 16) (lc (((((((w_.set a.toNat (Wrd.mk (IntKind.u32.wrap (E1.v + E3.v)))).set d.toNat (Wrd.mk R11)).set c.toNat (Wrd.mk (IntKind.u32.wrap (E16.v + E18.v)))).set b.toNat (Wrd.mk R26)).set a.toNat (Wrd.mk (IntKind.u32.wrap (E31.v + E33.v)))).set d.toNat (Wrd.mk R41)).set c.toNat (Wrd.mk (IntKind.u32.wrap (E46.v + E48.v)))))]) (Wrd.mk (IntKind.u32.wrap (E46.v + E48.v))) 0 kk100 rfl rfl (idx_get H47).2.2 rfl rfl (Cel.plain rfl rfl) rfl rfl rfl rfl) rfl rfl rfl (fun _ => rfl) (fun _ => ?_)
                      refine TA.nil (by kernel_rfl) ?_
                      exact TE.jb_go () [0] ⟨rfl, rfl, rfl, trivial⟩ rfl
                    · refine TX.y (listed' := #[true, true, true, true, false, true, true, true, true, true, false, true, false, false]) [] rfl (Y.load_el (us := [.int .u32 E48.v]) (u := .int .u32 E48.v) kk100 rfl (Can.own 0 rfl) (idx_get H49).2.2 rfl rfl rfl rfl rfl) rfl rfl rfl rfl rfl ?_
                      refine TA.one 4 (by kernel_rfl) ?_
                      refine TX.y (listed' := #[true, true, true, true, true, true, true, true, true, true, false, true, false, false]) [] rfl (Y.load_el (us := [.int .u32 E46.v]) (u := .int .u32 E46.v) kk100 rfl (Can.own 0 rfl) (idx_get H47).2.2 rfl rfl rfl rfl rfl) rfl rfl rfl rfl rfl ?_
                      refine TA.y (listed' := #[true, true, true, true, true, true, true, true, true, true, true, true, false, false]) 10 [] rfl (Y.add rfl rfl) rfl rfl rfl (by kernel_rfl) (by kernel_rfl) (by kernel_rfl) rfl rfl ?_
                      refine TA.one 12 (by kernel_rfl) ?_
                      refine TX.y (listed' := #[true, true, true, true, true, true, true, true, true, true, true, true, true, false]) [] rfl (Y.index_arr (α := Wrd) ka101 (Can.own 0 rfl) H47 rfl rfl) rfl rfl rfl rfl rfl ?_
                      refine TA.one 13 (by kernel_rfl) ?_
                      refine TX.ef0 (listed' := #[true, true, true, true, true, true, true, true, true, true, true, true, true, true]) [] rfl (Ef.store_el (us := [.int .u32 (IntKind.u32.wrap (E46.v + E48.v))]) (is' := [.own (arrS B_w_ 16) (lc (((((((w_.set a.toNat (Wrd.mk (IntKind.u32.wrap (E1.v + E3.v)))).set d.toNat (Wrd.mk R11)).set c.toNat (Wrd.mk (IntKind.u32.wrap (E16.v + E18.v)))).set b.toNat (Wrd.mk R26)).set a.toNat (Wrd.mk (IntKind.u32.wrap (E31.v + E33.v)))).set d.toNat (Wrd.mk R41)).set c.toNat (Wrd.mk (IntKind.u32.wrap (E46.v + E48.v)))))]) (Wrd.mk (IntKind.u32.wrap (E46.v + E48.v))) 0 kk100 rfl rfl (idx_get H47).2.2 rfl rfl (Cel.plain rfl rfl) rfl rfl rfl rfl) rfl rfl rfl (fun _ => rfl) (fun _ => ?_)
                      refine TA.nil (by kernel_rfl) ?_
                      exact TE.jb_go () [0] ⟨rfl, rfl, rfl, trivial⟩ rfl
                · refine TX.y (listed' := #[true, true, true, false, false, true, true, true, true, false, false, true, false, false]) [] rfl (Y.index_arr (α := Wrd) ka101 (Can.own 0 rfl) H49 rfl rfl) rfl rfl rfl rfl rfl ?_
                  refine TA.two 3 9 (by kernel_rfl) ?_ ?_
                  · refine TX.y (listed' := #[true, true, true, true, false, true, true, true, true, false, false, true, false, false]) [] rfl (Y.index_arr (α := Wrd) ka101 (Can.own 0 rfl) H47 rfl rfl) rfl rfl rfl rfl rfl ?_
                    refine TA.two 4 9 (by kernel_rfl) ?_ ?_
                    · refine TX.y (listed' := #[true, true, true, true, true, true, true, true, true, false, false, true, false, false]) [] rfl (Y.load_el (us := [.int .u32 E46.v]) (u := .int .u32 E46.v) kk100 rfl (Can.own 0 rfl) (idx_get H47).2.2 rfl rfl rfl rfl rfl) rfl rfl rfl rfl rfl ?_
                      refine TA.one 9 (by kernel_rfl) ?_
                      refine TX.y (listed' := #[true, true, true, true, true, true, true, true, true, true, false, true, false, false]) [] rfl (Y.load_el (us := [.int .u32 E48.v]) (u := .int .u32 E48.v) kk100 rfl (Can.own 0 rfl) (idx_get H49).2.2 rfl rfl rfl rfl rfl) rfl rfl rfl rfl rfl ?_
                      refine TA.y (listed' := #[true, true, true, true, true, true, true, true, true, true, true, true, false, false]) 10 [] rfl (Y.add rfl rfl) rfl rfl rfl (by kernel_rfl) (by kernel_rfl) (by kernel_rfl) rfl rfl ?_
                      refine TA.one 12 (by kernel_rfl) ?_
                      refine TX.y (listed' := #[true, true, true, true, true, true, true, true, true, true, true, true, true, false]) [] rfl (Y.index_arr (α := Wrd) ka101 (Can.own 0 rfl) H47 rfl rfl) rfl rfl rfl rfl rfl ?_
                      refine TA.one 13 (by kernel_rfl) ?_
                      refine TX.ef0 (listed' := #[true, true, true, true, true, true, true, true, true, true, true, true, true, true]) [] rfl (Ef.store_el (us := [.int .u32 (IntKind.u32.wrap (E46.v + E48.v))]) (is' := [.own (arrS B_w_ 16) (lc (((((((w_.set a.toNat (Wrd.mk (IntKind.u32.wrap (E1.v + E3.v)))).set d.toNat (Wrd.mk R11)).set c.toNat (Wrd.mk (IntKind.u32.wrap (E16.v + E18.v)))).set b.toNat (Wrd.mk R26)).set a.toNat (Wrd.mk (IntKind.u32.wrap (E31.v + E33.v)))).set d.toNat (Wrd.mk R41)).set c.toNat (Wrd.mk (IntKind.u32.wrap (E46.v + E48.v)))))]) (Wrd.mk (IntKind.u32.wrap (E46.v + E48.v))) 0 kk100 rfl rfl (idx_get H47).2.2 rfl rfl (Cel.plain rfl rfl) rfl rfl rfl rfl) rfl rfl rfl (fun _ => rfl) (fun _ => ?_)
                      refine TA.nil (by kernel_rfl) ?_
                      exact TE.jb_go () [0] ⟨rfl, rfl, rfl, trivial⟩ rfl
                    · refine TX.y (listed' := #[true, true, true, true, false, true, true, true, true, true, false, true, false, false]) [] rfl (Y.load_el (us := [.int .u32 E48.v]) (u := .int .u32 E48.v) kk100 rfl (Can.own 0 rfl) (idx_get H49).2.2 rfl rfl rfl rfl rfl) rfl rfl rfl rfl rfl ?_
                      refine TA.one 4 (by kernel_rfl) ?_
                      refine TX.y (listed' := #[true, true, true, true, true, true, true, true, true, true, false, true, false, false]) [] rfl (Y.load_el (us := [.int .u32 E46.v]) (u := .int .u32 E46.v) kk100 rfl (Can.own 0 rfl) (idx_get H47).2.2 rfl rfl rfl rfl rfl) rfl rfl rfl rfl rfl ?_
                      refine TA.y (listed' := #[true, true, true, true, true, true, true, true, true, true, true, true, false, false]) 10 [] rfl (Y.add rfl rfl) rfl rfl rfl (by kernel_rfl) (by kernel_rfl) (by kernel_rfl) rfl rfl ?_
                      refine TA.one 12 (by kernel_rfl) ?_
                      refine TX.y (listed' := #[true, true, true, true, true, true, true, true, true, true, true, true, true, false]) [] rfl (Y.index_arr (α := Wrd) ka101 (Can.own 0 rfl) H47 rfl rfl) rfl rfl rfl rfl rfl ?_
                      refine TA.one 13 (by kernel_rfl) ?_
                      refine TX.ef0 (listed' := #[true, true, true, true, true, true, true, true, true, true, true, true, true, true]) [] rfl (Ef.store_el (us := [.int .u32 (IntKind.u32.wrap (E46.v + E48.v))]) (is' := [.own (arrS B_w_ 16) (lc (((((((w_.set a.toNat (Wrd.mk (IntKind.u32.wrap (E1.v + E3.v)))).set d.toNat (Wrd.mk R11)).set c.toNat (Wrd.mk (IntKind.u32.wrap (E16.v + E18.v)))).set b.toNat (Wrd.mk R26)).set a.toNat (Wrd.mk (IntKind.u32.wrap (E31.v + E33.v)))).set d.toNat (Wrd.mk R41)).set c.toNat (Wrd.mk (IntKind.u32.wrap (E46.v + E48.v)))))]) (Wrd.mk (IntKind.u32.wrap (E46.v + E48.v))) 0 kk100 rfl rfl (idx_get H47).2.2 rfl rfl (Cel.plain rfl rfl) rfl rfl rfl rfl) rfl rfl rfl (fun _ => rfl) (fun _ => ?_)
                      refine TA.nil (by kernel_rfl) ?_
                      exact TE.jb_go () [0] ⟨rfl, rfl, rfl, trivial⟩ rfl
                  · refine TX.y (listed' := #[true, true, true, false, false, true, true, true, true, true, false, true, false, false]) [] rfl (Y.load_el (us := [.int .u32 E48.v]) (u := .int .u32 E48.v) kk100 rfl (Can.own 0 rfl) (idx_get H49).2.2 rfl rfl rfl rfl rfl) rfl rfl rfl rfl rfl ?_
                    refine TA.one 3 (by kernel_rfl) ?_
                    refine TX.y (listed' := #[true, true, true, true, false, true, true, true, true, true, false, true, false, false]) [] rfl (Y.index_arr (α := Wrd) ka101 (Can.own 0 rfl) H47 rfl rfl) rfl rfl rfl rfl rfl ?_
                    refine TA.one 4 (by kernel_rfl) ?_
                    refine TX.y (listed' := #[true, true, true, true, true, true, true, true, true, true, false, true, false, false]) [] rfl (Y.load_el (us := [.int .u32 E46.v]) (u := .int .u32 E46.v) kk100 rfl (Can.own 0 rfl) (idx_get H47).2.2 rfl rfl rfl rfl rfl) rfl rfl rfl rfl rfl ?_
                    refine TA.y (listed' := #[true, true, true, true, true, true, true, true, true, true, true, true, false, false]) 10 [] rfl (Y.add rfl rfl) rfl rfl rfl (by kernel_rfl) (by kernel_rfl) (by kernel_rfl) rfl rfl ?_
                    refine TA.one 12 (by kernel_rfl) ?_
                    refine TX.y (listed' := #[true, true, true, true, true, true, true, true, true, true, true, true, true, false]) [] rfl (Y.index_arr (α := Wrd) ka101 (Can.own 0 rfl) H47 rfl rfl) rfl rfl rfl rfl rfl ?_
                    refine TA.one 13 (by kernel_rfl) ?_
                    refine TX.ef0 (listed' := #[true, true, true, true, true, true, true, true, true, true, true, true, true, true]) [] rfl (Ef.store_el (us := [.int .u32 (IntKind.u32.wrap (E46.v + E48.v))]) (is' := [.own (arrS B_w_ 16) (lc (((((((w_.set a.toNat (Wrd.mk (IntKind.u32.wrap (E1.v + E3.v)))).set d.toNat (Wrd.mk R11)).set c.toNat (Wrd.mk (IntKind.u32.wrap (E16.v + E18.v)))).set b.toNat (Wrd.mk R26)).set a.toNat (Wrd.mk (IntKind.u32.wrap (E31.v + E33.v)))).set d.toNat (Wrd.mk R41)).set c.toNat (Wrd.mk (IntKind.u32.wrap (E46.v + E48.v)))))]) (Wrd.mk (IntKind.u32.wrap (E46.v + E48.v))) 0 kk100 rfl rfl (idx_get H47).2.2 rfl rfl (Cel.plain rfl rfl) rfl rfl rfl rfl) rfl rfl rfl (fun _ => rfl) (fun _ => ?_)
                    refine TA.nil (by kernel_rfl) ?_
                    exact TE.jb_go () [0] ⟨rfl, rfl, rfl, trivial⟩ rfl
              · refine TE.next ?_
                refine TW.bind fun E52 H53 => ?_
                refine TW.bind fun E54 H55 => ?_
                refine TW.bind fun R56 H57 => ?_
                refine TW.joinU (X := Unit) (fun _ _ => []) (fun _ _ => [.own (arrS B_w_ 16) (lc ((((((((w_.set a.toNat (Wrd.mk (IntKind.u32.wrap (E1.v + E3.v)))).set d.toNat (Wrd.mk R11)).set c.toNat (Wrd.mk (IntKind.u32.wrap (E16.v + E18.v)))).set b.toNat (Wrd.mk R26)).set a.toNat (Wrd.mk (IntKind.u32.wrap (E31.v + E33.v)))).set d.toNat (Wrd.mk R41)).set c.toNat (Wrd.mk (IntKind.u32.wrap (E46.v + E48.v)))).set b.toNat (Wrd.mk R56)))]) ?_ (fun _ X60 => ?_)
                · refine TW.draw (isH := []) hMix ?_
                  refine TA.y (listed' := #[true, false, false, false, false, false, false, false, false, false, false, false, false, false, false, false, false]) 0 [] rfl (Y.move rfl) rfl rfl rfl (by kernel_rfl) (by kernel_rfl) (by kernel_rfl) rfl rfl ?_
                  refine TA.y (listed' := #[true, true, false, false, false, false, false, false, false, false, false, false, false, false, false, false, false]) 1 [] rfl (Y.move rfl) rfl rfl rfl (by kernel_rfl) (by kernel_rfl) (by kernel_rfl) rfl rfl ?_
                  refine TA.y (listed' := #[true, true, true, false, false, false, false, false, false, false, false, false, false, false, false, false, false]) 2 [] rfl (Y.move rfl) rfl rfl rfl (by kernel_rfl) (by kernel_rfl) (by kernel_rfl) rfl rfl ?_
                  refine TA.y (listed' := #[true, true, true, true, false, false, false, false, false, false, false, false, false, false, false, false, false]) 3 [] rfl (Y.move rfl) rfl rfl rfl (by kernel_rfl) (by kernel_rfl) (by kernel_rfl) rfl rfl ?_
                  refine TA.y (listed' := #[true, true, true, true, true, false, false, false, false, false, false, false, false, false, false, false, false]) 4 [] rfl (Y.nilCheck rfl) rfl rfl rfl (by kernel_rfl) (by kernel_rfl) (by kernel_rfl) rfl rfl ?_
                  refine TA.y (listed' := #[true, true, true, true, true, false, false, true, false, false, false, false, false, false, false, false, false]) 7 [] rfl (Y.move rfl) rfl rfl rfl (by kernel_rfl) (by kernel_rfl) (by kernel_rfl) rfl rfl ?_
                  refine TA.y (listed' := #[true, true, true, true, true, false, false, true, true, false, false, false, false, false, false, false, false]) 8 [] rfl (Y.move rfl) rfl rfl rfl (by kernel_rfl) (by kernel_rfl) (by kernel_rfl) rfl rfl ?_
                  refine TA.y (listed' := #[true, true, true, true, true, false, false, true, true, true, false, false, false, false, false, false, false]) 9 [] rfl (Y.nilCheck rfl) rfl rfl rfl (by kernel_rfl) (by kernel_rfl) (by kernel_rfl) rfl rfl ?_
                  refine TA.y (listed' := #[true, true, true, true, true, false, false, true, true, true, false, false, false, false, true, false, false]) 14 [] rfl (Y.nilCheck rfl) rfl rfl rfl (by kernel_rfl) (by kernel_rfl) (by kernel_rfl) rfl rfl ?_
                  refine TA.two 5 10 (by kernel_rfl) ?_ ?_
                  · refine TX.y (listed' := #[true, true, true, true, true, true, false, true, true, true, false, false, false, false, true, false, false]) [] rfl (Y.index_arr (α := Wrd) ka101 (Can.own 0 rfl) H53 rfl rfl) rfl rfl rfl rfl rfl ?_
                    refine TA.two 6 10 (by kernel_rfl) ?_ ?_
                    · refine TX.y (listed' := #[true, true, true, true, true, true, true, true, true, true, false, false, false, false, true, false, false]) [] rfl (Y.load_el (us := [.int .u32 E52.v]) (u := .int .u32 E52.v) kk100 rfl (Can.own 0 rfl) (idx_get H53).2.2 rfl rfl rfl rfl rfl) rfl rfl rfl rfl rfl ?_
                      refine TA.one 10 (by kernel_rfl) ?_
                      refine TX.y (listed' := #[true, true, true, true, true, true, true, true, true, true, true, false, false, false, true, false, false]) [] rfl (Y.index_arr (α := Wrd) ka101 (Can.own 0 rfl) H55 rfl rfl) rfl rfl rfl rfl rfl ?_
                      refine TA.one 11 (by kernel_rfl) ?_
                      refine TX.y (listed' := #[true, true, true, true, true, true, true, true, true, true, true, true, false, false, true, false, false]) [] rfl (Y.load_el (us := [.int .u32 E54.v]) (u := .int .u32 E54.v) kk100 rfl (Can.own 0 rfl) (idx_get H55).2.2 rfl rfl rfl rfl rfl) rfl rfl rfl rfl rfl ?_
                      refine TA.y (listed' := #[true, true, true, true, true, true, true, true, true, true, true, true, true, false, true, false, false]) 12 [] rfl (Y.xor rfl rfl) rfl rfl rfl (by kernel_rfl) (by kernel_rfl) (by kernel_rfl) rfl rfl ?_
                      refine TA.one 13 (by kernel_rfl) ?_
                      refine TX.ef (listed' := #[true, true, true, true, true, true, true, true, true, true, true, true, true, true, true, false, false]) [] rfl (Ef.call (rest := [.own (arrS B_w_ 16) (lc (((((((w_.set a.toNat (Wrd.mk (IntKind.u32.wrap (E1.v + E3.v)))).set d.toNat (Wrd.mk R11)).set c.toNat (Wrd.mk (IntKind.u32.wrap (E16.v + E18.v)))).set b.toNat (Wrd.mk R26)).set a.toNat (Wrd.mk (IntKind.u32.wrap (E31.v + E33.v)))).set d.toNat (Wrd.mk R41)).set c.toNat (Wrd.mk (IntKind.u32.wrap (E46.v + E48.v)))))]) [0] (math_bits_RotateLeft32_con (ixor .u32 E52.v E54.v) (7 : Int)  R56 H57) kc77 rfl rfl trivial) rfl rfl rfl rfl (fun _ => rfl) (fun _ => ?_)
                      refine TA.one 15 (by kernel_rfl) ?_
                      refine TX.y (listed' := #[true, true, true, true, true, true, true, true, true, true, true, true, true, true, true, true, false]) [] rfl (Y.index_arr (α := Wrd) ka101 (Can.own 0 rfl) H53 rfl rfl) rfl rfl rfl rfl rfl ?_
                      refine TA.one 16 (by kernel_rfl) ?_
                      refine TX.ef0 (listed' := #[true, true, true, true, true, true, true, true, true, true, true, true, true, true, true, true, true]) [] rfl (Ef.store_el (us := [.int .u32 R56]) (is' := [.own (arrS B_w_ 16) (lc ((((((((w_.set a.toNat (Wrd.mk (IntKind.u32.wrap (E1.v + E3.v)))).set d.toNat (Wrd.mk R11)).set c.toNat (Wrd.mk (IntKind.u32.wrap (E16.v + E18.v)))).set b.toNat (Wrd.mk R26)).set a.toNat (Wrd.mk (IntKind.u32.wrap (E31.v + E33.v)))).set d.toNat (Wrd.mk R41)).set c.toNat (Wrd.mk (IntKind.u32.wrap (E46.v + E48.v)))).set b.toNat (Wrd.mk R56)))]) (Wrd.mk R56) 0 kk100 rfl rfl (idx_get H53).2.2 rfl rfl (Cel.plain rfl rfl) rfl rfl rfl rfl) rfl rfl rfl (fun _ => rfl) (fun _ => ?_)
                      refine TA.nil (by kernel_rfl) ?_
                      exact TE.jb_go () [0] trivial rfl
                    · refine TX.y (listed' := #[true, true, true, true, true, true, false, true, true, true, true, false, false, false, true, false, false]) [] rfl (Y.index_arr (α := Wrd) ka101 (Can.own 0 rfl) H55 rfl rfl) rfl rfl rfl rfl rfl ?_
                      refine TA.two 6 11 (by kernel_rfl) ?_ ?_
                      · refine TX.y (listed' := #[true, true, true, true, true, true, true, true, true, true, true, false, false, false, true, false, false]) [] rfl (Y.load_el (us := [.int .u32 E52.v]) (u := .int .u32 E52.v) kk100 rfl (Can.own 0 rfl) (idx_get H53).2.2 rfl rfl rfl rfl rfl) rfl rfl rfl rfl rfl ?_
                        refine TA.one 11 (by kernel_rfl) ?_
                        refine TX.y (listed' := #[true, true, true, true, true, true, true, true, true, true, true, true, false, false, true, false, false]) [] rfl (Y.load_el (us := [.int .u32 E54.v]) (u := .int .u32 E54.v) kk100 rfl (Can.own 0 rfl) (idx_get H55).2.2 rfl rfl rfl rfl rfl) rfl rfl rfl rfl rfl ?_
                        refine TA.y (listed' := #[true, true, true, true, true, true, true, true, true, true, true, true, true, false, true, false, false]) 12 [] rfl (Y.xor rfl rfl) rfl rfl rfl (by kernel_rfl) (by kernel_rfl) (by kernel_rfl) rfl rfl ?_
                        refine TA.one 13 (by kernel_rfl) ?_
                        refine TX.ef (listed' := #[true, true, true, true, true, true, true, true, true, true, true, true, true, true, true, false, false]) [] rfl (Ef.call (rest := [.own (arrS B_w_ 16) (lc (((((((w_.set a.toNat (Wrd.mk (IntKind.u32.wrap (E1.v + E3.v)))).set d.toNat (Wrd.mk R11)).set c.toNat (Wrd.mk (IntKind.u32.wrap (E16.v + E18.v)))).set b.toNat (Wrd.mk R26)).set a.toNat (Wrd.mk (IntKind.u32.wrap (E31.v + E33.v)))).set d.toNat (Wrd.mk R41)).set c.toNat (Wrd.mk (IntKind.u32.wrap (E46.v + E48.v)))))]) [0] (math_bits_RotateLeft32_con (ixor .u32 E52.v E54.v) (7 : Int)  R56 H57) kc77 rfl rfl trivial) rfl rfl rfl rfl (fun _ => rfl) (fun _ => ?_)
                        refine TA.one 15 (by kernel_rfl) ?_
                        refine TX.y (listed' := #[true, true, true, true, true, true, true, true, true, true, true, true, true, true, true, true, false]) [] rfl (Y.index_arr (α := Wrd) ka101 (Can.own 0 rfl) H53 rfl rfl) rfl rfl rfl rfl rfl ?_
                        refine TA.one 16 (by kernel_rfl) ?_
                        refine TX.ef0 (listed' := #[true, true, true, true, true, true, true, true, true, true, true, true, true, true, true, true, true]) [] rfl (Ef.store_el (us := [.int .u32 R56]) (is' := [.own (arrS B_w_ 16) (lc ((((((((w_.set a.toNat (Wrd.mk (IntKind.u32.wrap (E1.v + E3.v)))).set d.toNat (Wrd.mk R11)).set c.toNat (Wrd.mk (IntKind.u32.wrap (E16.v + E18.v)))).set b.toNat (Wrd.mk R26)).set a.toNat (Wrd.mk (IntKind.u32.wrap (E31.v + E33.v)))).set d.toNat (Wrd.mk R41)).set c.toNat (Wrd.mk (IntKind.u32.wrap (E46.v + E48.v)))).set b.toNat (Wrd.mk R56)))]) (Wrd.mk R56) 0 kk100 rfl rfl (idx_get H53).2.2 rfl rfl (Cel.plain rfl rfl) rfl rfl rfl rfl) rfl rfl rfl (fun _ => rfl) (fun _ => ?_)
                        refine TA.nil (by kernel_rfl) ?_
                        exact TE.jb_go () [0] trivial rfl
                      · refine TX.y (listed' := #[true, true, true, true, true, true, false, true, true, true, true, true, false, false, true, false, false]) [] rfl (Y.load_el (us := [.int .u32 E54.v]) (u := .int .u32 E54.v) kk100 rfl (Can.own 0 rfl) (idx_get H55).2.2 rfl rfl rfl rfl rfl) rfl rfl rfl rfl rfl ?_
                        refine TA.one 6 (by kernel_rfl) ?_
                        refine TX.y (listed' := #[true, true, true, true, true, true, true, true, true, true, true, true, false, false, true, false, false]) [] rfl (Y.load_el (us := [.int .u32 E52.v]) (u := .int .u32 E52.v) kk100 rfl (Can.own 0 rfl) (idx_get H53).2.2 rfl rfl rfl rfl rfl) rfl rfl rfl rfl rfl ?_
                        refine TA.y (listed' := #[true, true, true, true, true, true, true, true, true, true, true, true, true, false, true, false, false]) 12 [] rfl (Y.xor rfl rfl) rfl rfl rfl (by kernel_rfl) (by kernel_rfl) (by kernel_rfl) rfl rfl ?_
                        refine TA.one 13 (by kernel_rfl) ?_
                        refine TX.ef (listed' := #[true, true, true, true, true, true, true, true, true, true, true, true, true, true, true, false, false]) [] rfl (Ef.call (rest := [.own (arrS B_w_ 16) (lc (((((((w_.set a.toNat (Wrd.mk (IntKind.u32.wrap (E1.v + E3.v)))).set d.toNat (Wrd.mk R11)).set c.toNat (Wrd.mk (IntKind.u32.wrap (E16.v + E18.v)))).set b.toNat (Wrd.mk R26)).set a.toNat (Wrd.mk (IntKind.u32.wrap (E31.v + E33.v)))).set d.toNat (Wrd.mk R41)).set c.toNat (Wrd.mk (IntKind.u32.wrap (E46.v + E48.v)))))]) [0] (math_bits_RotateLeft32_con (ixor .u32 E52.v E54.v) (7 : Int)  R56 H57) kc77 rfl rfl trivial) rfl rfl rfl rfl (fun _ => rfl) (fun _ => ?_)
                        refine TA.one 15 (by kernel_rfl) ?_
                        refine TX.y (listed' := #[true, true, true, true, true, true, true, true, true, true, true, true, true, true, true, true, false]) [] rfl (Y.index_arr (α := Wrd) ka101 (Can.own 0 rfl) H53 rfl rfl) rfl rfl rfl rfl rfl ?_
                        refine TA.one 16 (by kernel_rfl) ?_
                        refine TX.ef0 (listed' := #[true, true, true, true, true, true, true, true, true, true, true, true, true, true, true, true, true]) [] rfl (Ef.store_el (us := [.int .u32 R56]) (is' := [.own (arrS B_w_ 16) (lc ((((((((w_.set a.toNat (Wrd.mk (IntKind.u32.wrap (E1.v + E3.v)))).set d.toNat (Wrd.mk R11)).set c.toNat (Wrd.mk (IntKind.u32.wrap (E16.v + E18.v)))).set b.toNat (Wrd.mk R26)).set a.toNat (Wrd.mk (IntKind.u32.wrap (E31.v + E33.v)))).set d.toNat (Wrd.mk R41)).set c.toNat (Wrd.mk (IntKind.u32.wrap (E46.v + E48.v)))).set b.toNat (Wrd.mk R56)))]) (Wrd.mk R56) 0 kk100 rfl rfl (idx_get H53).2.2 rfl rfl (Cel.plain rfl rfl) rfl rfl rfl rfl) rfl rfl rfl (fun _ => rfl) (fun _ => ?_)
                        refine TA.nil (by kernel_rfl) ?_
                        exact TE.jb_go () [0] trivial rfl
                  · refine TX.y (listed' := #[true, true, true, true, true, false, false, true, true, true, true, false, false, false, true, false, false]) [] rfl (Y.index_arr (α := Wrd) ka101 (Can.own 0 rfl) H55 rfl rfl) rfl rfl rfl rfl rfl ?_
                    refine TA.two 5 11 (by kernel_rfl) ?_ ?_
                    · refine TX.y (listed' := #[true, true, true, true, true, true, false, true, true, true, true, false, false, false, true, false, false]) [] rfl (Y.index_arr (α := Wrd) ka101 (Can.own 0 rfl) H53 rfl rfl) rfl rfl rfl rfl rfl ?_
                      refine TA.two 6 11 (by kernel_rfl) ?_ ?_
                      · refine TX.y (listed' := #[true, true, true, true, true, true, true, true, true, true, true, false, false, false, true, false, false]) [] rfl (Y.load_el (us := [.int .u32 E52.v]) (u := .int .u32 E52.v) kk100 rfl (Can.own 0 rfl) (idx_get H53).2.2 rfl rfl rfl rfl rfl) rfl rfl rfl rfl rfl ?_
                        refine TA.one 11 (by kernel_rfl) ?_
                        refine TX.y (listed' := #[true, true, true, true, true, true, true, true, true, true, true, true, false, false, true, false, false]) [] rfl (Y.load_el (us := [.int .u32 E54.v]) (u := .int .u32 E54.v) kk100 rfl (Can.own 0 rfl) (idx_get H55).2.2 rfl rfl rfl rfl rfl) rfl rfl rfl rfl rfl ?_
                        refine TA.y (listed' := #[true, true, true, true, true, true, true, true, true, true, true, true, true, false, true, false, false]) 12 [] rfl (Y.xor rfl rfl) rfl rfl rfl (by kernel_rfl) (by kernel_rfl) (by kernel_rfl) rfl rfl ?_
                        refine TA.one 13 (by kernel_rfl) ?_
                        refine TX.ef (listed' := #[true, true, true, true, true, true, true, true, true, true, true, true, true, true, true, false, false]) [] rfl (Ef.call (rest := [.own (arrS B_w_ 16) (lc (((((((w_.set a.toNat (Wrd.mk (IntKind.u32.wrap (E1.v + E3.v)))).set d.toNat (Wrd.mk R11)).set c.toNat (Wrd.mk (IntKind.u32.wrap (E16.v + E18.v)))).set b.toNat (Wrd.mk R26)).set a.toNat (Wrd.mk (IntKind.u32.wrap (E31.v + E33.v)))).set d.toNat (Wrd.mk R41)).set c.toNat (Wrd.mk (IntKind.u32.wrap (E46.v + E48.v)))))]) [0] (math_bits_RotateLeft32_con (ixor .u32 E52.v E54.v) (7 : Int)  R56 H57) kc77 rfl rfl trivial) rfl rfl rfl rfl (fun _ => rfl) (fun _ => ?_)
                        refine TA.one 15 (by kernel_rfl) ?_
                        refine TX.y (listed' := #[true, true, true, true, true, true, true, true, true, true, true, true, true, true, true, true, false]) [] rfl (Y.index_arr (α := Wrd) ka101 (Can.own 0 rfl) H53 rfl rfl) rfl rfl rfl rfl rfl ?_
                        refine TA.one 16 (by kernel_rfl) ?_
                        refine TX.ef0 (listed' := #[true, true, true, true, true, true, true, true, true, true, true, true, true, true, true, true, true]) [] rfl (Ef.store_el (us := [.int .u32 R56]) (is' := [.own (arrS B_w_ 16) (lc ((((((((w_.set a.toNat (Wrd.mk (IntKind.u32.wrap (E1.v + E3.v)))).set d.toNat (Wrd.mk R11)).set c.toNat (Wrd.mk (IntKind.u32.wrap (E16.v + E18.v)))).set b.toNat (Wrd.mk R26)).set a.toNat (Wrd.mk (IntKind.u32.wrap (E31.v + E33.v)))).set d.toNat (Wrd.mk R41)).set c.toNat (Wrd.mk (IntKind.u32.wrap (E46.v + E48.v)))).set b.toNat (Wrd.mk R56)))]) (Wrd.mk R56) 0 kk100 rfl rfl (idx_get H53).2.2 rfl rfl (Cel.plain rfl rfl) rfl rfl rfl rfl) rfl rfl rfl (fun _ => rfl) (fun _ => ?_)
                        refine TA.nil (by kernel_rfl) ?_
                        exact TE.jb_go () [0] trivial rfl
                      · refine TX.y (listed' := #[true, true, true, true, true, true, false, true, true, true, true, true, false, false, true, false, false]) [] rfl (Y.load_el (us := [.int .u32 E54.v]) (u := .int .u32 E54.v) kk100 rfl (Can.own 0 rfl) (idx_get H55).2.2 rfl rfl rfl rfl rfl) rfl rfl rfl rfl rfl ?_
                        refine TA.one 6 (by kernel_rfl) ?_
                        refine TX.y (listed' := #[true, true, true, true, true, true, true, true, true, true, true, true, false, false, true, false, false]) [] rfl (Y.load_el (us := [.int .u32 E52.v]) (u := .int .u32 E52.v) kk100 rfl (Can.own 0 rfl) (idx_get H53).2.2 rfl rfl rfl rfl rfl) rfl rfl rfl rfl rfl ?_
                        refine TA.y (listed' := #[true, true, true, true, true, true, true, true, true, true, true, true, true, false, true, false, false]) 12 [] rfl (Y.xor rfl rfl) rfl rfl rfl (by kernel_rfl) (by kernel_rfl) (by kernel_rfl) rfl rfl ?_
                        refine TA.one 13 (by kernel_rfl) ?_
                        refine TX.ef (listed' := #[true, true, true, true, true, true, true, true, true, true, true, true, true, true, true, false, false]) [] rfl (Ef.call (rest := [.own (arrS B_w_ 16) (lc (((((((w_.set a.toNat (Wrd.mk (IntKind.u32.wrap (E1.v + E3.v)))).set d.toNat (Wrd.mk R11)).set c.toNat (Wrd.mk (IntKind.u32.wrap (E16.v + E18.v)))).set b.toNat (Wrd.mk R26)).set a.toNat (Wrd.mk (IntKind.u32.wrap (E31.v + E33.v)))).set d.toNat (Wrd.mk R41)).set c.toNat (Wrd.mk (IntKind.u32.wrap (E46.v + E48.v)))))]) [0] (math_bits_RotateLeft32_con (ixor .u32 E52.v E54.v) (7 : Int)  R56 H57) kc77 rfl rfl trivial) rfl rfl rfl rfl (fun _ => rfl) (fun _ => ?_)
                        refine TA.one 15 (by kernel_rfl) ?_
                        refine TX.y (listed' := #[true, true, true, true, true, true, true, true, true, true, true, true, true, true, true, true, false]) [] rfl (Y.index_arr (α := Wrd) ka101 (Can.own 0 rfl) H53 rfl rfl) rfl rfl rfl rfl rfl ?_
                        refine TA.one 16 (by kernel_rfl) ?_
                        refine TX.ef0 (listed' := #[true, true, true, true, true, true, true, true, true, true, true, true, true, true, true, true, true]) [] rfl (Ef.store_el (us := [.int .u32 R56]) (is' := [.own (arrS B_w_ 16) (lc ((((((((w_.set a.toNat (Wrd.mk (IntKind.u32.wrap (E1.v + E3.v)))).set d.toNat (Wrd.mk R11)).set c.toNat (Wrd.mk (IntKind.u32.wrap (E16.v + E18.v)))).set b.toNat (Wrd.mk R26)).set a.toNat (Wrd.mk (IntKind.u32.wrap (E31.v + E33.v)))).set d.toNat (Wrd.mk R41)).set c.toNat (Wrd.mk (IntKind.u32.wrap (E46.v + E48.v)))).set b.toNat (Wrd.mk R56)))]) (Wrd.mk R56) 0 kk100 rfl rfl (idx_get H53).2.2 rfl rfl (Cel.plain rfl rfl) rfl rfl rfl rfl) rfl rfl rfl (fun _ => rfl) (fun _ => ?_)
                        refine TA.nil (by kernel_rfl) ?_
                        exact TE.jb_go () [0] trivial rfl
                    · refine TX.y (listed' := #[true, true, true, true, true, false, false, true, true, true, true, true, false, false, true, false, false]) [] rfl (Y.load_el (us := [.int .u32 E54.v]) (u := .int .u32 E54.v) kk100 rfl (Can.own 0 rfl) (idx_get H55).2.2 rfl rfl rfl rfl rfl) rfl rfl rfl rfl rfl ?_
                      refine TA.one 5 (by kernel_rfl) ?_
                      refine TX.y (listed' := #[true, true, true, true, true, true, false, true, true, true, true, true, false, false, true, false, false]) [] rfl (Y.index_arr (α := Wrd) ka101 (Can.own 0 rfl) H53 rfl rfl) rfl rfl rfl rfl rfl ?_
                      refine TA.one 6 (by kernel_rfl) ?_
                      refine TX.y (listed' := #[true, true, true, true, true, true, true, true, true, true, true, true, false, false, true, false, false]) [] rfl (Y.load_el (us := [.int .u32 E52.v]) (u := .int .u32 E52.v) kk100 rfl (Can.own 0 rfl) (idx_get H53).2.2 rfl rfl rfl rfl rfl) rfl rfl rfl rfl rfl ?_
                      refine TA.y (listed' := #[true, true, true, true, true, true, true, true, true, true, true, true, true, false, true, false, false]) 12 [] rfl (Y.xor rfl rfl) rfl rfl rfl (by kernel_rfl) (by kernel_rfl) (by kernel_rfl) rfl rfl ?_
                      refine TA.one 13 (by kernel_rfl) ?_
                      refine TX.ef (listed' := #[true, true, true, true, true, true, true, true, true, true, true, true, true, true, true, false, false]) [] rfl (Ef.call (rest := [.own (arrS B_w_ 16) (lc (((((((w_.set a.toNat (Wrd.mk (IntKind.u32.wrap (E1.v + E3.v)))).set d.toNat (Wrd.mk R11)).set c.toNat (Wrd.mk (IntKind.u32.wrap (E16.v + E18.v)))).set b.toNat (Wrd.mk R26)).set a.toNat (Wrd.mk (IntKind.u32.wrap (E31.v + E33.v)))).set d.toNat (Wrd.mk R41)).set c.toNat (Wrd.mk (IntKind.u32.wrap (E46.v + E48.v)))))]) [0] (math_bits_RotateLeft32_con (ixor .u32 E52.v E54.v) (7 : Int)  R56 H57) kc77 rfl rfl trivial) rfl rfl rfl rfl (fun _ => rfl) (fun _ => ?_)
                      refine TA.one 15 (by kernel_rfl) ?_
                      refine TX.y (listed' := #[true, true, true, true, true, true, true, true, true, true, true, true, true, true, true, true, false]) [] rfl (Y.index_arr (α := Wrd) ka101 (Can.own 0 rfl) H53 rfl rfl) rfl rfl rfl rfl rfl ?_
                      refine TA.one 16 (by kernel_rfl) ?_
                      refine TX.ef0 (listed' := #[true, true, true, true, true, true, true, true, true, true, true, true, true, true, true, true, true]) [] rfl (Ef.store_el (us := [.int .u32 R56]) (is' := [.own (arrS B_w_ 16) (lc ((((((((w_.set a.toNat (Wrd.mk (IntKind.u32.wrap (E1.v + E3.v)))).set d.toNat (Wrd.mk R11)).set c.toNat (Wrd.mk (IntKind.u32.wrap (E16.v + E18.v)))).set b.toNat (Wrd.mk R26)).set a.toNat (Wrd.mk (IntKind.u32.wrap (E31.v + E33.v)))).set d.toNat (Wrd.mk R41)).set c.toNat (Wrd.mk (IntKind.u32.wrap (E46.v + E48.v)))).set b.toNat (Wrd.mk R56)))]) (Wrd.mk R56) 0 kk100 rfl rfl (idx_get H53).2.2 rfl rfl (Cel.plain rfl rfl) rfl rfl rfl rfl) rfl rfl rfl (fun _ => rfl) (fun _ => ?_)
                      refine TA.nil (by kernel_rfl) ?_
                      exact TE.jb_go () [0] trivial rfl
                · exact TE.leaf fun _ _ hf_ hs_ => ret_any (rs := []) (vs := []) (.inr rfl) rfl trivial hf_ hs_ ⟨(), rfl, hs_.pulls [0] rfl⟩

/-- loop.example/g00950/impl.ChaBlock -/
noncomputable def impl_ChaBlock (key : List UInt8) (counter : Int) (nonce : List UInt8) : Option (List UInt8) :=
  (impl_isCha key counter nonce).bind fun R1 =>
  if (!R1) = true then (some ([]))
  else ((impl_firstWords key counter nonce).bind fun R5 =>
  (lenIs 16 R5).bind fun E9 =>
  bindC (loopO (fun (S12 : Int × List Wrd) => if (decide (S12.1 < (10 : Int))) = true then (bindC (loopO (fun (S17 : Int × List Wrd) => if (decide (S17.1 < (4 : Int))) = true then ((impl_quarter S17.2 S17.1 (IntKind.i64.wrap ((4 : Int) + S17.1)) (IntKind.i64.wrap ((8 : Int) + S17.1)) (IntKind.i64.wrap ((12 : Int) + S17.1))).bind fun R22 =>
  some (.go (IntKind.i64.wrap (S17.1 + (1 : Int)), R22)))
  else (some (.done (.go S17.2))))
  ((0 : Int), S12.2))
  (fun (T19 : List Wrd) => bindC (loopO (fun (S25 : Int × List Wrd) => if (decide (S25.1 < (4 : Int))) = true then ((impl_quarter S25.2 S25.1 (IntKind.i64.wrap ((4 : Int) + (Int.tmod (IntKind.i64.wrap (S25.1 + (1 : Int))) (4 : Int)))) (IntKind.i64.wrap ((8 : Int) + (Int.tmod (IntKind.i64.wrap (S25.1 + (2 : Int))) (4 : Int)))) (IntKind.i64.wrap ((12 : Int) + (Int.tmod (IntKind.i64.wrap (S25.1 + (3 : Int))) (4 : Int))))).bind fun R30 =>
  some (.go (IntKind.i64.wrap (S25.1 + (1 : Int)), R30)))
  else (some (.done (.go S25.2))))
  ((0 : Int), T19))
  (fun (T27 : List Wrd) => some (.go (IntKind.i64.wrap (S12.1 + (1 : Int)), T27)))))
  else (some (.done (.go S12.2))))
  ((0 : Int), R5))
  (fun (T14 : List Wrd) => (mkLen 1 (64 : Int)).bind fun E34 =>
  bindC (loopO (fun (S36 : Int × List UInt8) => if (decide (S36.1 < (16 : Int))) = true then ((lenIs 16 T14).bind fun E41 =>
  (idx T14 S36.1).bind fun E43 =>
  (idx R5 S36.1).bind fun E45 =>
  (app 1 S36.2 ([toU8 (IntKind.u32.wrap (E43.v + E45.v)), toU8 (ishr .u32 (IntKind.u32.wrap (E43.v + E45.v)) (8 : Int)), toU8 (ishr .u32 (IntKind.u32.wrap (E43.v + E45.v)) (16 : Int)), toU8 (ishr .u32 (IntKind.u32.wrap (E43.v + E45.v)) (24 : Int))])).bind fun E49 =>
  some (.go (IntKind.i64.wrap (S36.1 + (1 : Int)), E49)))
  else (some (.done (.go S36.2))))
  ((0 : Int), ([] : List UInt8)))
  (fun (T38 : List UInt8) => some T38)))

theorem impl_ChaBlock_con (key : List UInt8) (counter : Int) (nonce : List UInt8)  (r : List UInt8) (hm : impl_ChaBlock key counter nonce = some r) :
    Con Try.prog 62 [strV key, .int .i64 counter, strV nonce] [] [] (fun _ : Unit => strV r) (fun _ => []) := by
  refine Con.intro (args := [strV key, .int .i64 counter, strV nonce]) (n := 85) (val := fun r (_ : Unit) => strV r) (post := fun _ _ => []) (m := impl_ChaBlock key counter nonce) Try.func62 rfl rfl rfl hm ?_
  intro w S _
  unfold impl_ChaBlock
  refine TW.seq ?_
  refine TW.region ?_
  refine TO.y (Y.assign rfl) rfl rfl rfl ?_
  refine TO.nil ?_
  refine TE.next ?_
  refine TW.seq ?_
  refine TW.seq ?_
  refine TW.region ?_
  refine TO.y (Y.move rfl) rfl rfl rfl ?_
  refine TO.y (Y.move rfl) rfl rfl rfl ?_
  refine TO.y (Y.move rfl) rfl rfl rfl ?_
  refine TO.bind fun R1 H2 => ?_
  refine TO.ef (Ef.call (rest := []) [] (impl_isCha_con key counter nonce  R1 H2) kc69 rfl rfl trivial) rfl rfl rfl (fun _ => ?_)
  refine TO.y (Y.not rfl) rfl rfl rfl ?_
  refine TO.nil ?_
  refine TE.next ?_
  refine TW.cond rfl (fun H4 => ?_) (fun H4 => ?_)
  · refine TW.seq ?_
    refine TW.region ?_
    refine TO.y (Y.assign rfl) rfl rfl rfl ?_
    refine TO.nil ?_
    refine TE.next ?_
    refine TW.ret ?_
    refine TE.then_ret ?_
    exact TE.leaf fun _ _ hf_ hs_ => ret_any (rs := [.tmp 6]) (vs := [strV ([])]) (.inl rfl) rfl ⟨rfl, trivial⟩ hf_ hs_ ⟨(), rfl, hs_.pulls [] rfl⟩
  · refine TW.skip ?_
    refine TE.next ?_
    refine TW.seq ?_
    refine TW.region ?_
    refine TO.y (Y.move rfl) rfl rfl rfl ?_
    refine TO.y (Y.move rfl) rfl rfl rfl ?_
    refine TO.y (Y.move rfl) rfl rfl rfl ?_
    refine TO.bind fun R5 H6 => ?_
    refine TO.ef (Ef.call (rest := []) [] (impl_firstWords_con key counter nonce  R5 H6) kc70 rfl rfl trivial) rfl rfl rfl (fun _ => ?_)
    refine TO.ef (Ef.allocArr (α := Wrd) (List.replicate 16 (Wrd.mk 0)) kz101 rfl (by decide)) rfl rfl rfl (fun B8 => ?_)
    refine TO.bind fun E9 H10 => ?_
    refine TO.ef0 (Ef.store_arr (α := Wrd) (is' := [.own (arrS B8 16) (lc R5)]) 0 kk101 rfl (by decide) (lenIs_eq H10) rfl rfl rfl rfl) rfl rfl (fun _ => ?_)
    refine TO.nil ?_
    refine TE.next ?_
    refine TW.seq ?_
    refine TW.region ?_
    refine TO.y (Y.load_arr (α := Wrd) kk101 rfl (by decide) (Can.own 0 rfl) rfl) rfl rfl rfl ?_
    refine TO.ef (Ef.allocArr (α := Wrd) (List.replicate 16 (Wrd.mk 0)) kz101 rfl (by decide)) rfl rfl rfl (fun B11 => ?_)
    refine TO.ef0 (Ef.store_arr (α := Wrd) (is' := [.own (arrS B11 16) (lc R5), .own (arrS B8 16) (lc R5)]) 0 kk101 rfl (by decide) (lenIs_eq H10) rfl rfl rfl rfl) rfl rfl (fun _ => ?_)
    refine TO.nil ?_
    refine TE.next ?_
    refine TW.seq ?_
    refine TW.seq ?_
    refine TW.region ?_
    refine TO.y (Y.move rfl) rfl rfl rfl ?_
    refine TO.nil ?_
    refine TE.next ?_
    refine TW.joinX (τ := List Wrd) (X := Unit) (fun _ _ => [(7, .pointer (some ⟨B8, 0, none⟩)), (8, .pointer (some ⟨B11, 0, none⟩))]) (fun T _ => [.own (arrS B8 16) (lc R5), .own (arrS B11 16) (lc T)]) ?_ (fun T14 X15 => ?_)
    · refine TW.block ?_
      refine TW.loopX (σ := Int × List Wrd) (X := Unit) (fun T _ => [(7, .pointer (some ⟨B8, 0, none⟩)), (8, .pointer (some ⟨B11, 0, none⟩)), (24, .int .i64 T.1)]) (fun T _ => [.own (arrS B8 16) (lc R5), .own (arrS B11 16) (lc T.2)]) () [1, 0] ⟨rfl, rfl, rfl, trivial⟩ rfl (fun S12 X13 => ?_)
      refine TW.seq ?_
      refine TW.region ?_
      refine TO.y (Y.lss rfl rfl) rfl rfl rfl ?_
      refine TO.nil ?_
      refine TE.next ?_
      refine TW.seq ?_
      refine TW.cond rfl (fun H16 => ?_) (fun H16 => ?_)
      · refine TW.skip ?_
        refine TE.next ?_
        refine TW.seq ?_
        refine TW.block ?_
        refine TW.seq ?_
        refine TW.seq ?_
        refine TW.region ?_
        refine TO.y (Y.move rfl) rfl rfl rfl ?_
        refine TO.nil ?_
        refine TE.next ?_
        refine TW.joinX (τ := List Wrd) (X := Unit) (fun _ _ => [(7, .pointer (some ⟨B8, 0, none⟩)), (8, .pointer (some ⟨B11, 0, none⟩)), (24, .int .i64 S12.1)]) (fun T _ => [.own (arrS B8 16) (lc R5), .own (arrS B11 16) (lc T)]) ?_ (fun T19 X20 => ?_)
        · refine TW.block ?_
          refine TW.loopX (σ := Int × List Wrd) (X := Unit) (fun T _ => [(7, .pointer (some ⟨B8, 0, none⟩)), (8, .pointer (some ⟨B11, 0, none⟩)), (24, .int .i64 S12.1), (26, .int .i64 T.1)]) (fun T _ => [.own (arrS B8 16) (lc R5), .own (arrS B11 16) (lc T.2)]) () [0, 0] ⟨rfl, rfl, rfl, rfl, trivial⟩ rfl (fun S17 X18 => ?_)
          refine TW.seq ?_
          refine TW.region ?_
          refine TO.y (Y.lss rfl rfl) rfl rfl rfl ?_
          refine TO.nil ?_
          refine TE.next ?_
          refine TW.seq ?_
          refine TW.cond rfl (fun H21 => ?_) (fun H21 => ?_)
          · refine TW.skip ?_
            refine TE.next ?_
            refine TW.seq ?_
            refine TW.block ?_
            refine TW.seq ?_
            refine TW.region ?_
            refine TO.y (Y.move rfl) rfl rfl rfl ?_
            refine TO.y (Y.assign rfl) rfl rfl rfl ?_
            refine TO.nil ?_
            refine TE.next ?_
            refine TW.region ?_
            refine TO.y (Y.move rfl) rfl rfl rfl ?_
            refine TO.y (Y.move rfl) rfl rfl rfl ?_
            refine TO.y (Y.add rfl rfl) rfl rfl rfl ?_
            refine TO.y (Y.move rfl) rfl rfl rfl ?_
            refine TO.y (Y.add rfl rfl) rfl rfl rfl ?_
            refine TO.y (Y.move rfl) rfl rfl rfl ?_
            refine TO.y (Y.add rfl rfl) rfl rfl rfl ?_
            refine TO.bind fun R22 H23 => ?_
            refine TO.ef (Ef.call (rest := [.own (arrS B8 16) (lc R5)]) [1, 0] (impl_quarter_con S17.2 S17.1 (IntKind.i64.wrap ((4 : Int) + S17.1)) (IntKind.i64.wrap ((8 : Int) + S17.1)) (IntKind.i64.wrap ((12 : Int) + S17.1)) B11 R22 H23) kc71 rfl rfl trivial) rfl rfl rfl (fun _ => ?_)
            refine TO.nil ?_
            refine TE.block_normal ?_
            refine TE.next ?_
            refine TW.region ?_
            refine TO.y (Y.add rfl rfl) rfl rfl rfl ?_
            refine TO.y (Y.move rfl) rfl rfl rfl ?_
            refine TO.nil ?_
            exact TE.lp_go () [1, 0] ⟨rfl, rfl, rfl, rfl, trivial⟩ rfl
          · refine TW.exit ?_
            refine TE.then_exit ?_
            refine TE.lp_exit ?_
            refine TE.block_exit ?_
            exact TE.jn_go () [0, 0] ⟨rfl, rfl, rfl, trivial⟩ rfl
        · refine TE.next ?_
          refine TW.seq ?_
          refine TW.region ?_
          refine TO.y (Y.move rfl) rfl rfl rfl ?_
          refine TO.nil ?_
          refine TE.next ?_
          refine TW.joinX (τ := List Wrd) (X := Unit) (fun _ _ => [(7, .pointer (some ⟨B8, 0, none⟩)), (8, .pointer (some ⟨B11, 0, none⟩)), (24, .int .i64 S12.1)]) (fun T _ => [.own (arrS B8 16) (lc R5), .own (arrS B11 16) (lc T)]) ?_ (fun T27 X28 => ?_)
          · refine TW.block ?_
            refine TW.loopX (σ := Int × List Wrd) (X := Unit) (fun T _ => [(7, .pointer (some ⟨B8, 0, none⟩)), (8, .pointer (some ⟨B11, 0, none⟩)), (24, .int .i64 S12.1), (38, .int .i64 T.1)]) (fun T _ => [.own (arrS B8 16) (lc R5), .own (arrS B11 16) (lc T.2)]) () [0, 0] ⟨rfl, rfl, rfl, rfl, trivial⟩ rfl (fun S25 X26 => ?_)
            refine TW.seq ?_
            refine TW.region ?_
            refine TO.y (Y.lss rfl rfl) rfl rfl rfl ?_
            refine TO.nil ?_
            refine TE.next ?_
            refine TW.seq ?_
            refine TW.cond rfl (fun H29 => ?_) (fun H29 => ?_)
            · refine TW.skip ?_
              refine TE.next ?_
              refine TW.seq ?_
              refine TW.block ?_
              refine TW.seq ?_
              refine TW.region ?_
              refine TO.y (Y.move rfl) rfl rfl rfl ?_
              refine TO.y (Y.assign rfl) rfl rfl rfl ?_
              refine TO.nil ?_
              refine TE.next ?_
              refine TW.region ?_
              refine TO.y (Y.move rfl) rfl rfl rfl ?_
              refine TO.y (Y.move rfl) rfl rfl rfl ?_
              refine TO.y (Y.add rfl rfl) rfl rfl rfl ?_
              refine TO.y (Y.rem (by decide) rfl rfl) rfl rfl rfl ?_
              refine TO.y (Y.add rfl rfl) rfl rfl rfl ?_
              refine TO.y (Y.move rfl) rfl rfl rfl ?_
              refine TO.y (Y.add rfl rfl) rfl rfl rfl ?_
              refine TO.y (Y.rem (by decide) rfl rfl) rfl rfl rfl ?_
              refine TO.y (Y.add rfl rfl) rfl rfl rfl ?_
              refine TO.y (Y.move rfl) rfl rfl rfl ?_
              refine TO.y (Y.add rfl rfl) rfl rfl rfl ?_
              refine TO.y (Y.rem (by decide) rfl rfl) rfl rfl rfl ?_
              refine TO.y (Y.add rfl rfl) rfl rfl rfl ?_
              refine TO.bind fun R30 H31 => ?_
              refine TO.ef (Ef.call (rest := [.own (arrS B8 16) (lc R5)]) [1, 0] (impl_quarter_con S25.2 S25.1 (IntKind.i64.wrap ((4 : Int) + (Int.tmod (IntKind.i64.wrap (S25.1 + (1 : Int))) (4 : Int)))) (IntKind.i64.wrap ((8 : Int) + (Int.tmod (IntKind.i64.wrap (S25.1 + (2 : Int))) (4 : Int)))) (IntKind.i64.wrap ((12 : Int) + (Int.tmod (IntKind.i64.wrap (S25.1 + (3 : Int))) (4 : Int)))) B11 R30 H31) kc71 rfl rfl trivial) rfl rfl rfl (fun _ => ?_)
              refine TO.nil ?_
              refine TE.block_normal ?_
              refine TE.next ?_
              refine TW.region ?_
              refine TO.y (Y.add rfl rfl) rfl rfl rfl ?_
              refine TO.y (Y.move rfl) rfl rfl rfl ?_
              refine TO.nil ?_
              exact TE.lp_go () [1, 0] ⟨rfl, rfl, rfl, rfl, trivial⟩ rfl
            · refine TW.exit ?_
              refine TE.then_exit ?_
              refine TE.lp_exit ?_
              refine TE.block_exit ?_
              exact TE.jn_go () [0, 0] ⟨rfl, rfl, rfl, trivial⟩ rfl
          · refine TE.block_normal ?_
            refine TE.next ?_
            refine TW.region ?_
            refine TO.y (Y.add rfl rfl) rfl rfl rfl ?_
            refine TO.y (Y.move rfl) rfl rfl rfl ?_
            refine TO.nil ?_
            exact TE.lp_go () [0, 0] ⟨rfl, rfl, rfl, trivial⟩ rfl
      · refine TW.exit ?_
        refine TE.then_exit ?_
        refine TE.lp_exit ?_
        refine TE.block_exit ?_
        exact TE.jn_go () [0, 0] ⟨rfl, rfl, trivial⟩ rfl
    · refine TE.next ?_
      refine TW.seq ?_
      refine TW.region ?_
      refine TO.bind fun E34 H35 => ?_
      refine TO.ef (Ef.make0 (α := UInt8) (z := (0 : UInt8)) H35 ke83 kz5 rfl rfl rfl rfl) rfl rfl rfl (fun V33 => ?_)
      refine TO.y (Y.assign rfl) rfl rfl rfl ?_
      refine TO.nil ?_
      refine TE.next ?_
      refine TW.seq ?_
      refine TW.seq ?_
      refine TW.region ?_
      refine TO.y (Y.load_arr (α := Wrd) kk101 rfl (by decide) (Can.own 2 rfl) rfl) rfl rfl rfl ?_
      refine TO.y (Y.move rfl) rfl rfl rfl ?_
      refine TO.nil ?_
      refine TE.next ?_
      refine TW.joinX (τ := List UInt8) (X := Value) (fun _ X => [(11, X)]) (fun T X => [.own X (lc T)]) ?_ (fun T38 X39 => ?_)
      · refine TW.block ?_
        refine TW.loopX (σ := Int × List UInt8) (X := Value) (fun T X => [(7, .pointer (some ⟨B8, 0, none⟩)), (11, X), (58, arrV T14), (59, .int .i64 T.1)]) (fun T X => [.own (arrS B8 16) (lc R5), .own X (lc T.2)]) V33 [1, 0] ⟨rfl, rfl, rfl, rfl, trivial⟩ rfl (fun S36 X37 => ?_)
        refine TW.seq ?_
        refine TW.region ?_
        refine TO.y (Y.lss rfl rfl) rfl rfl rfl ?_
        refine TO.nil ?_
        refine TE.next ?_
        refine TW.seq ?_
        refine TW.cond rfl (fun H40 => ?_) (fun H40 => ?_)
        · refine TW.skip ?_
          refine TE.next ?_
          refine TW.seq ?_
          refine TW.block ?_
          refine TW.seq ?_
          refine TW.region ?_
          refine TO.y (Y.move rfl) rfl rfl rfl ?_
          refine TO.bind fun E41 H42 => ?_
          refine TO.bind fun E43 H44 => ?_
          refine TO.y (Y.idx_arr ka101 kk100 (lenIs_eq H42) H44 rfl rfl) rfl rfl rfl ?_
          refine TO.y (Y.assign rfl) rfl rfl rfl ?_
          refine TO.y (Y.assign rfl) rfl rfl rfl ?_
          refine TO.nil ?_
          refine TE.next ?_
          refine TW.seq ?_
          refine TW.region ?_
          refine TO.y (Y.move rfl) rfl rfl rfl ?_
          refine TO.y (Y.move rfl) rfl rfl rfl ?_
          refine TO.bind fun E45 H46 => ?_
          refine TO.y (Y.index_arr (α := Wrd) ka101 (Can.own 0 rfl) H46 rfl rfl) rfl rfl rfl ?_
          refine TO.y (Y.load_el (us := [.int .u32 E45.v]) (u := .int .u32 E45.v) kk100 rfl (Can.own 0 rfl) (idx_get H46).2.2 rfl rfl rfl rfl rfl) rfl rfl rfl ?_
          refine TO.y (Y.add rfl rfl) rfl rfl rfl ?_
          refine TO.y (Y.assign rfl) rfl rfl rfl ?_
          refine TO.nil ?_
          refine TE.next ?_
          refine TW.region ?_
          refine TO.y (Y.move rfl) rfl rfl rfl ?_
          refine TO.y (Y.move rfl) rfl rfl rfl ?_
          refine TO.y (Y.conv8 ki100 ki5 rfl) rfl rfl rfl ?_
          refine TO.y (Y.move rfl) rfl rfl rfl ?_
          refine TO.y (Y.shr (by decide) rfl rfl) rfl rfl rfl ?_
          refine TO.y (Y.conv8 ki100 ki5 rfl) rfl rfl rfl ?_
          refine TO.y (Y.move rfl) rfl rfl rfl ?_
          refine TO.y (Y.shr (by decide) rfl rfl) rfl rfl rfl ?_
          refine TO.y (Y.conv8 ki100 ki5 rfl) rfl rfl rfl ?_
          refine TO.y (Y.move rfl) rfl rfl rfl ?_
          refine TO.y (Y.shr (by decide) rfl rfl) rfl rfl rfl ?_
          refine TO.y (Y.conv8 ki100 ki5 rfl) rfl rfl rfl ?_
          refine TO.ef (Ef.buildSlice (α := UInt8) (Vs := [.int .u8 (((toU8 (IntKind.u32.wrap (E43.v + E45.v))).toNat : Nat) : Int), .int .u8 (((toU8 (ishr .u32 (IntKind.u32.wrap (E43.v + E45.v)) (8 : Int))).toNat : Nat) : Int), .int .u8 (((toU8 (ishr .u32 (IntKind.u32.wrap (E43.v + E45.v)) (16 : Int))).toNat : Nat) : Int), .int .u8 (((toU8 (ishr .u32 (IntKind.u32.wrap (E43.v + E45.v)) (24 : Int))).toNat : Nat) : Int)]) [toU8 (IntKind.u32.wrap (E43.v + E45.v)), toU8 (ishr .u32 (IntKind.u32.wrap (E43.v + E45.v)) (8 : Int)), toU8 (ishr .u32 (IntKind.u32.wrap (E43.v + E45.v)) (16 : Int)), toU8 (ishr .u32 (IntKind.u32.wrap (E43.v + E45.v)) (24 : Int))] ke83 kz5 rfl rfl rfl rfl rfl) rfl rfl rfl (fun B47 => ?_)
          refine TO.bind fun E49 H50 => ?_
          refine TO.ef (Ef.append (α := UInt8) (is' := [.own (.slice (some ⟨B47, 0, none⟩) 4 4) (lc ([toU8 (IntKind.u32.wrap (E43.v + E45.v)), toU8 (ishr .u32 (IntKind.u32.wrap (E43.v + E45.v)) (8 : Int)), toU8 (ishr .u32 (IntKind.u32.wrap (E43.v + E45.v)) (16 : Int)), toU8 (ishr .u32 (IntKind.u32.wrap (E43.v + E45.v)) (24 : Int))])), .own (arrS B8 16) (lc R5)]) [2, 0, 0] H50 ke83 kz5 rfl rfl rfl rfl rfl (Can.own 0 rfl)) rfl rfl rfl (fun V48 => ?_)
          refine TO.y (Y.assign rfl) rfl rfl rfl ?_
          refine TO.nil ?_
          refine TE.block_normal ?_
          refine TE.next ?_
          refine TW.region ?_
          refine TO.y (Y.add rfl rfl) rfl rfl rfl ?_
          refine TO.y (Y.move rfl) rfl rfl rfl ?_
          refine TO.nil ?_
          exact TE.lp_go V48 [2, 0] ⟨rfl, rfl, rfl, rfl, trivial⟩ rfl
        · refine TW.exit ?_
          refine TE.then_exit ?_
          refine TE.lp_exit ?_
          refine TE.block_exit ?_
          exact TE.jn_go X37 [1] ⟨rfl, trivial⟩ rfl
      · refine TE.next ?_
        refine TW.seq ?_
        refine TW.region ?_
        refine TO.y (Y.move rfl) rfl rfl rfl ?_
        refine TO.y (Y.toStr ke83 ki5 ks9 (Can.own 0 rfl) rfl) rfl rfl rfl ?_
        refine TO.y (Y.assign rfl) rfl rfl rfl ?_
        refine TO.nil ?_
        refine TE.next ?_
        refine TW.ret ?_
        exact TE.leaf fun _ _ hf_ hs_ => ret_any (rs := [.tmp 6]) (vs := [strV T38]) (.inl rfl) rfl ⟨rfl, trivial⟩ hf_ hs_ ⟨(), rfl, hs_.pulls [] rfl⟩

/-- loop.example/g00950/impl.MintToken -/
noncomputable def impl_MintToken (secret : List UInt8) (tenant : Int) (epoch : Int) : Option (List UInt8) :=
  (if (!(decide (((secret.length : Nat) : Int) = (32 : Int)))) = true then (some true)
  else ((impl_isTenant tenant).bind fun R4 =>
  if (!R4) = true then (some true)
  else ((impl_isNumber epoch).bind fun R8 =>
  some (!R8)))).bind (fun (T1 : Bool) =>
  if T1 = true then (some ([]))
  else ((impl_Var tenant).bind fun R12 =>
  (impl_Var epoch).bind fun R15 =>
  (cat R12 R15).bind fun E18 =>
  (impl_NonceOf (2 : Int) tenant).bind fun R20 =>
  (impl_ChaBlock secret epoch R20).bind fun R23 =>
  (ssub R23 0 (8 : Int)).bind fun E26 =>
  (cat E18 E26).bind fun E28 =>
  some E28))

theorem impl_MintToken_con (secret : List UInt8) (tenant : Int) (epoch : Int)  (r : List UInt8) (hm : impl_MintToken secret tenant epoch = some r) :
    Con Try.prog 49 [strV secret, .int .i64 tenant, .int .i64 epoch] [] [] (fun _ : Unit => strV r) (fun _ => []) := by
  refine Con.intro (args := [strV secret, .int .i64 tenant, .int .i64 epoch]) (n := 32) (val := fun r (_ : Unit) => strV r) (post := fun _ _ => []) (m := impl_MintToken secret tenant epoch) Try.func49 rfl rfl rfl hm ?_
  intro w S _
  unfold impl_MintToken
  refine TW.seq ?_
  refine TW.region ?_
  refine TO.y (Y.assign rfl) rfl rfl rfl ?_
  refine TO.nil ?_
  refine TE.next ?_
  refine TW.seq ?_
  refine TW.seq ?_
  refine TW.joinBX (τ := Bool) (X := Unit) (fun T _ => [(0, strV secret), (1, .int .i64 tenant), (2, .int .i64 epoch), (19, .bool T)]) (fun _ _ => []) ?_ (fun T1 X2 => ?_)
  · refine TW.region ?_
    refine TO.y (Y.move rfl) rfl rfl rfl ?_
    refine TO.y (Y.slen ks9 rfl) rfl rfl rfl ?_
    refine TO.y (Y.neq rfl rfl) rfl rfl rfl ?_
    refine TO.y (Y.move rfl) rfl rfl rfl ?_
    refine TO.ite (b := !(decide (((secret.length : Nat) : Int) = (32 : Int)))) (fun H3 => ?_) (fun H3 => ?_)
    · refine TO.off (Gd.at 3 false 10 (!(decide (((secret.length : Nat) : Int) = (32 : Int)))) rfl rfl rfl (beq_tf H3)) rfl rfl ?_
      refine TO.off (Gd.at 3 false 10 (!(decide (((secret.length : Nat) : Int) = (32 : Int)))) rfl rfl rfl (beq_tf H3)) rfl rfl ?_
      refine TO.off (Gd.at 3 false 10 (!(decide (((secret.length : Nat) : Int) = (32 : Int)))) rfl rfl rfl (beq_tf H3)) rfl rfl ?_
      refine TO.y (Y.pick_t H3 rfl rfl) rfl rfl rfl ?_
      refine TO.y (Y.move rfl) rfl rfl rfl ?_
      refine TO.off (Gd.at 8 false 15 true rfl rfl rfl rfl) rfl rfl ?_
      refine TO.off (Gd.at 8 false 15 true rfl rfl rfl rfl) rfl rfl ?_
      refine TO.off (Gd.at 8 false 15 true rfl rfl rfl rfl) rfl rfl ?_
      refine TO.y (Y.pick_t rfl rfl rfl) rfl rfl rfl ?_
      refine TO.nil ?_
      exact TE.jb_go () [] ⟨rfl, rfl, rfl, rfl, trivial⟩ rfl
    · refine TO.y (Y.move rfl) (Gd.at 3 false 10 (!(decide (((secret.length : Nat) : Int) = (32 : Int)))) rfl rfl rfl (beq_ff H3)) rfl rfl ?_
      refine TO.bind fun R4 H5 => ?_
      refine TO.ef (Ef.call (rest := []) [] (impl_isTenant_con tenant  R4 H5) kc59 rfl rfl trivial) (Gd.at 3 false 10 (!(decide (((secret.length : Nat) : Int) = (32 : Int)))) rfl rfl rfl (beq_ff H3)) rfl rfl (fun _ => ?_)
      refine TO.y (Y.not rfl) (Gd.at 3 false 10 (!(decide (((secret.length : Nat) : Int) = (32 : Int)))) rfl rfl rfl (beq_ff H3)) rfl rfl ?_
      refine TO.y (Y.pick_f H3 rfl rfl) rfl rfl rfl ?_
      refine TO.y (Y.move rfl) rfl rfl rfl ?_
      refine TO.ite (b := !R4) (fun H7 => ?_) (fun H7 => ?_)
      · refine TO.off (Gd.at 8 false 15 (!R4) rfl rfl rfl (beq_tf H7)) rfl rfl ?_
        refine TO.off (Gd.at 8 false 15 (!R4) rfl rfl rfl (beq_tf H7)) rfl rfl ?_
        refine TO.off (Gd.at 8 false 15 (!R4) rfl rfl rfl (beq_tf H7)) rfl rfl ?_
        refine TO.y (Y.pick_t H7 rfl rfl) rfl rfl rfl ?_
        refine TO.nil ?_
        exact TE.jb_go () [] ⟨rfl, rfl, rfl, rfl, trivial⟩ rfl
      · refine TO.y (Y.move rfl) (Gd.at 8 false 15 (!R4) rfl rfl rfl (beq_ff H7)) rfl rfl ?_
        refine TO.bind fun R8 H9 => ?_
        refine TO.ef (Ef.call (rest := []) [] (impl_isNumber_con epoch  R8 H9) kc60 rfl rfl trivial) (Gd.at 8 false 15 (!R4) rfl rfl rfl (beq_ff H7)) rfl rfl (fun _ => ?_)
        refine TO.y (Y.not rfl) (Gd.at 8 false 15 (!R4) rfl rfl rfl (beq_ff H7)) rfl rfl ?_
        refine TO.y (Y.pick_f H7 rfl rfl) rfl rfl rfl ?_
        refine TO.nil ?_
        exact TE.jb_go () [] ⟨rfl, rfl, rfl, rfl, trivial⟩ rfl
  · refine TE.next ?_
    refine TW.cond rfl (fun H11 => ?_) (fun H11 => ?_)
    · refine TW.seq ?_
      refine TW.region ?_
      refine TO.y (Y.assign rfl) rfl rfl rfl ?_
      refine TO.nil ?_
      refine TE.next ?_
      refine TW.ret ?_
      refine TE.then_ret ?_
      exact TE.leaf fun _ _ hf_ hs_ => ret_any (rs := [.tmp 6]) (vs := [strV ([])]) (.inl rfl) rfl ⟨rfl, trivial⟩ hf_ hs_ ⟨(), rfl, hs_.pulls [] rfl⟩
    · refine TW.skip ?_
      refine TE.next ?_
      refine TW.seq ?_
      refine TW.region ?_
      refine TO.y (Y.move rfl) rfl rfl rfl ?_
      refine TO.bind fun R12 H13 => ?_
      refine TO.ef (Ef.call (rest := []) [] (impl_Var_con tenant  R12 H13) kc61 rfl rfl trivial) rfl rfl rfl (fun _ => ?_)
      refine TO.y (Y.move rfl) rfl rfl rfl ?_
      refine TO.bind fun R15 H16 => ?_
      refine TO.ef (Ef.call (rest := []) [] (impl_Var_con epoch  R15 H16) kc61 rfl rfl trivial) rfl rfl rfl (fun _ => ?_)
      refine TO.bind fun E18 H19 => ?_
      refine TO.y (Y.cat H19 rfl rfl) rfl rfl rfl ?_
      refine TO.y (Y.move rfl) rfl rfl rfl ?_
      refine TO.y (Y.move rfl) rfl rfl rfl ?_
      refine TO.y (Y.move rfl) rfl rfl rfl ?_
      refine TO.bind fun R20 H21 => ?_
      refine TO.ef (Ef.call (rest := []) [] (impl_NonceOf_con (2 : Int) tenant  R20 H21) kc63 rfl rfl trivial) rfl rfl rfl (fun _ => ?_)
      refine TO.bind fun R23 H24 => ?_
      refine TO.ef (Ef.call (rest := []) [] (impl_ChaBlock_con secret epoch R20  R23 H24) kc62 rfl rfl trivial) rfl rfl rfl (fun _ => ?_)
      refine TO.bind fun E26 H27 => ?_
      refine TO.y (Y.ssub_to H27 ks9 rfl rfl) rfl rfl rfl ?_
      refine TO.bind fun E28 H29 => ?_
      refine TO.y (Y.cat H29 rfl rfl) rfl rfl rfl ?_
      refine TO.y (Y.assign rfl) rfl rfl rfl ?_
      refine TO.nil ?_
      refine TE.next ?_
      refine TW.ret ?_
      exact TE.leaf fun _ _ hf_ hs_ => ret_any (rs := [.tmp 6]) (vs := [strV E28]) (.inl rfl) rfl ⟨rfl, trivial⟩ hf_ hs_ ⟨(), rfl, hs_.pulls [] rfl⟩

/-- loop.example/g00950/impl.ReadToken -/
noncomputable def impl_ReadToken (secret : List UInt8) (s : List UInt8) : Option (Int × Int × Bool) :=
  (impl_reader_number ({ text := s, at_ := (0 : Int), bad := false : Reader })).bind fun R2 =>
  (impl_reader_number R2.2).bind fun R5 =>
  (impl_reader_bytes R5.2 (8 : Int)).bind fun R8 =>
  ((impl_reader_done R8.2).bind fun R13 =>
  if (!R13) = true then (some true)
  else ((impl_MintToken secret R2.1 R5.1).bind fun R17 =>
  some (!(decide (R17 = s))))).bind (fun (T11 : Bool) =>
  if T11 = true then (some ((0 : Int), (0 : Int), false))
  else (some (R2.1, R5.1, true)))

theorem impl_ReadToken_con (secret : List UInt8) (s : List UInt8)  (r : Int × Int × Bool) (hm : impl_ReadToken secret s = some r) :
    Con Try.prog 30 [strV secret, strV s] [] [] (fun _ : Unit => .tuple #[.int .i64 r.1, .int .i64 r.2.1, .bool r.2.2]) (fun _ => []) := by
  refine Con.intro (args := [strV secret, strV s]) (n := 27) (val := fun r (_ : Unit) => .tuple #[.int .i64 r.1, .int .i64 r.2.1, .bool r.2.2]) (post := fun _ _ => []) (m := impl_ReadToken secret s) Try.func30 rfl rfl rfl hm ?_
  intro w S _
  unfold impl_ReadToken
  refine TW.seq ?_
  refine TW.region ?_
  refine TO.y (Y.assign rfl) rfl rfl rfl ?_
  refine TO.y (Y.assign rfl) rfl rfl rfl ?_
  refine TO.y (Y.assign rfl) rfl rfl rfl ?_
  refine TO.nil ?_
  refine TE.next ?_
  refine TW.seq ?_
  refine TW.region ?_
  refine TO.y (Y.move rfl) rfl rfl rfl ?_
  refine TO.y (Y.build (cells := [strV s, .int .i64 (0 : Int), .bool false]) [(0, [strV s])] kp79 kz79 ⟨rfl, ⟨_, rfl, (Cel.plain rfl rfl)⟩, trivial⟩ rfl) rfl rfl rfl ?_
  refine TO.ef (Ef.alloc kz79 rfl) rfl rfl rfl (fun B1 => ?_)
  refine TO.ef0 (Ef.store_box (us := [strV s, .int .i64 (0 : Int), .bool false]) (vs' := [strV s, .int .i64 (0 : Int), .bool false]) (is' := [.box B1 79 [strV s, .int .i64 (0 : Int), .bool false]]) 0 kk79 rfl rfl rfl (Cel.plain rfl rfl) rfl rfl rfl rfl) rfl rfl (fun _ => ?_)
  refine TO.nil ?_
  refine TE.next ?_
  refine TW.seq ?_
  refine TW.region ?_
  refine TO.bind fun R2 H3 => ?_
  refine TO.ef (Ef.call (rest := []) [0] (impl_reader_number_con ({ text := s, at_ := (0 : Int), bad := false : Reader }) B1 R2 H3) kc46 rfl rfl trivial) rfl rfl rfl (fun _ => ?_)
  refine TO.y (Y.assign rfl) rfl rfl rfl ?_
  refine TO.nil ?_
  refine TE.next ?_
  refine TW.seq ?_
  refine TW.region ?_
  refine TO.bind fun R5 H6 => ?_
  refine TO.ef (Ef.call (rest := []) [0] (impl_reader_number_con R2.2 B1 R5 H6) kc46 rfl rfl trivial) rfl rfl rfl (fun _ => ?_)
  refine TO.y (Y.assign rfl) rfl rfl rfl ?_
  refine TO.nil ?_
  refine TE.next ?_
  refine TW.seq ?_
  refine TW.region ?_
  refine TO.bind fun R8 H9 => ?_
  refine TO.ef (Ef.call (rest := []) [0] (impl_reader_bytes_con R5.2 (8 : Int) B1 R8 H9) kc47 rfl rfl trivial) rfl rfl rfl (fun _ => ?_)
  refine TO.nil ?_
  refine TE.next ?_
  refine TW.seq ?_
  refine TW.seq ?_
  refine TW.joinBX (τ := Bool) (X := Unit) (fun T _ => [(8, .int .i64 R2.1), (9, .int .i64 R5.1), (24, .bool T)]) (fun _ _ => []) ?_ (fun T11 X12 => ?_)
  · refine TW.region ?_
    refine TO.bind fun R13 H14 => ?_
    refine TO.ef (Ef.call (rest := []) [0] (impl_reader_done_con R8.2 B1 R13 H14) kc48 rfl rfl trivial) rfl rfl rfl (fun _ => ?_)
    refine TO.y (Y.not rfl) rfl rfl rfl ?_
    refine TO.y (Y.move rfl) rfl rfl rfl ?_
    refine TO.ite (b := !R13) (fun H16 => ?_) (fun H16 => ?_)
    · refine TO.off (Gd.at 2 false 17 (!R13) rfl rfl rfl (beq_tf H16)) rfl rfl ?_
      refine TO.off (Gd.at 2 false 17 (!R13) rfl rfl rfl (beq_tf H16)) rfl rfl ?_
      refine TO.off (Gd.at 2 false 17 (!R13) rfl rfl rfl (beq_tf H16)) rfl rfl ?_
      refine TO.off (Gd.at 2 false 17 (!R13) rfl rfl rfl (beq_tf H16)) rfl rfl ?_
      refine TO.off (Gd.at 2 false 17 (!R13) rfl rfl rfl (beq_tf H16)) rfl rfl ?_
      refine TO.off (Gd.at 2 false 17 (!R13) rfl rfl rfl (beq_tf H16)) rfl rfl ?_
      refine TO.y (Y.pick_t H16 rfl rfl) rfl rfl rfl ?_
      refine TO.nil ?_
      exact TE.jb_go () [] ⟨rfl, rfl, rfl, trivial⟩ rfl
    · refine TO.y (Y.move rfl) (Gd.at 2 false 17 (!R13) rfl rfl rfl (beq_ff H16)) rfl rfl ?_
      refine TO.y (Y.move rfl) (Gd.at 2 false 17 (!R13) rfl rfl rfl (beq_ff H16)) rfl rfl ?_
      refine TO.y (Y.move rfl) (Gd.at 2 false 17 (!R13) rfl rfl rfl (beq_ff H16)) rfl rfl ?_
      refine TO.bind fun R17 H18 => ?_
      refine TO.ef (Ef.call (rest := [.box B1 79 [strV R8.2.text, .int .i64 R8.2.at_, .bool R8.2.bad]]) [0] (impl_MintToken_con secret R2.1 R5.1  R17 H18) kc49 rfl rfl trivial) (Gd.at 2 false 17 (!R13) rfl rfl rfl (beq_ff H16)) rfl rfl (fun _ => ?_)
      refine TO.y (Y.move rfl) (Gd.at 2 false 17 (!R13) rfl rfl rfl (beq_ff H16)) rfl rfl ?_
      refine TO.y (Y.sneq rfl rfl) (Gd.at 2 false 17 (!R13) rfl rfl rfl (beq_ff H16)) rfl rfl ?_
      refine TO.y (Y.pick_f H16 rfl rfl) rfl rfl rfl ?_
      refine TO.nil ?_
      exact TE.jb_go () [] ⟨rfl, rfl, rfl, trivial⟩ rfl
  · refine TE.next ?_
    refine TW.cond rfl (fun H20 => ?_) (fun H20 => ?_)
    · refine TW.seq ?_
      refine TW.region ?_
      refine TO.y (Y.assign rfl) rfl rfl rfl ?_
      refine TO.y (Y.assign rfl) rfl rfl rfl ?_
      refine TO.y (Y.assign rfl) rfl rfl rfl ?_
      refine TO.nil ?_
      refine TE.next ?_
      refine TW.ret ?_
      refine TE.then_ret ?_
      exact TE.leaf fun _ _ hf_ hs_ => ret_any (rs := [.tmp 4, .tmp 5, .tmp 6]) (vs := [.int .i64 (0 : Int), .int .i64 (0 : Int), .bool false]) (.inl rfl) rfl ⟨rfl, ⟨rfl, ⟨rfl, trivial⟩⟩⟩ hf_ hs_ ⟨(), rfl, hs_.pulls [] rfl⟩
    · refine TW.skip ?_
      refine TE.next ?_
      refine TW.seq ?_
      refine TW.region ?_
      refine TO.y (Y.move rfl) rfl rfl rfl ?_
      refine TO.y (Y.move rfl) rfl rfl rfl ?_
      refine TO.y (Y.assign rfl) rfl rfl rfl ?_
      refine TO.y (Y.assign rfl) rfl rfl rfl ?_
      refine TO.y (Y.assign rfl) rfl rfl rfl ?_
      refine TO.nil ?_
      refine TE.next ?_
      refine TW.ret ?_
      exact TE.leaf fun _ _ hf_ hs_ => ret_any (rs := [.tmp 4, .tmp 5, .tmp 6]) (vs := [.int .i64 R2.1, .int .i64 R5.1, .bool true]) (.inl rfl) rfl ⟨rfl, ⟨rfl, ⟨rfl, trivial⟩⟩⟩ hf_ hs_ ⟨(), rfl, hs_.pulls [] rfl⟩

/-- loop.example/g00950/impl.Whose -/
noncomputable def impl_Whose (secret : List UInt8) (c : Call) : Option Int :=
  (impl_isOfTenant c.Kind).bind fun R2 =>
  if (!R2) = true then (some (0 : Int))
  else ((impl_ReadToken secret c.Token).bind fun R6 =>
  some R6.1)

theorem impl_Whose_con (secret : List UInt8) (c : Call) (V_c6 : Value) (r : Int) (hm : impl_Whose secret c = some r) :
    Con Try.prog 9 [strV secret, .agg #[.int .i64 c.Kind, strV c.Token, .int .i64 c.Tenant, .int .i64 c.N, strV c.Key, strV c.To, V_c6]] [] [(V_c6, lc c.Ops)] (fun _ : Unit => .int .i64 r) (fun _ => []) := by
  refine Con.intro (args := [strV secret, .agg #[.int .i64 c.Kind, strV c.Token, .int .i64 c.Tenant, .int .i64 c.N, strV c.Key, strV c.To, V_c6]]) (n := 21) (val := fun r (_ : Unit) => .int .i64 r) (post := fun _ _ => []) (m := impl_Whose secret c) Try.func9 rfl rfl rfl hm ?_
  intro w S hrd
  have HB_V_c6 := hrd _ (.head _)
  clear hrd
  unfold impl_Whose
  refine TW.seq ?_
  refine TW.region ?_
  refine TO.ef (Ef.box rfl (Cel.agg ⟨(One.plain rfl), (One.plain rfl), (One.plain rfl), (One.plain rfl), (One.plain rfl), (One.plain rfl), (One.can (Base.can HB_V_c6)), trivial⟩)) rfl rfl rfl (fun B1 => ?_)
  refine TO.y (Y.assign rfl) rfl rfl rfl ?_
  refine TO.nil ?_
  refine TE.next ?_
  refine TW.seq ?_
  refine TW.seq ?_
  refine TW.region ?_
  refine TO.y (Y.field_box kf29_0 rfl rfl) rfl rfl rfl ?_
  refine TO.y (Y.load_box (v := .int .i64 c.Kind) 0 kk3 rfl rfl rfl) rfl rfl rfl ?_
  refine TO.bind fun R2 H3 => ?_
  refine TO.ef (Ef.call (rest := [.box B1 29 [.int .i64 c.Kind, strV c.Token, .int .i64 c.Tenant, .int .i64 c.N, strV c.Key, strV c.To, V_c6]]) [0] (impl_isOfTenant_con c.Kind  R2 H3) kc29 rfl rfl trivial) rfl rfl rfl (fun _ => ?_)
  refine TO.y (Y.not rfl) rfl rfl rfl ?_
  refine TO.nil ?_
  refine TE.next ?_
  refine TW.cond rfl (fun H5 => ?_) (fun H5 => ?_)
  · refine TW.seq ?_
    refine TW.region ?_
    refine TO.y (Y.assign rfl) rfl rfl rfl ?_
    refine TO.nil ?_
    refine TE.next ?_
    refine TW.ret ?_
    refine TE.then_ret ?_
    exact TE.leaf fun _ _ hf_ hs_ => ret_any (rs := [.tmp 4]) (vs := [.int .i64 (0 : Int)]) (.inl rfl) rfl ⟨rfl, trivial⟩ hf_ hs_ ⟨(), rfl, hs_.pulls [] rfl⟩
  · refine TW.skip ?_
    refine TE.next ?_
    refine TW.seq ?_
    refine TW.region ?_
    refine TO.y (Y.move rfl) rfl rfl rfl ?_
    refine TO.y (Y.field_box kf29_1 rfl rfl) rfl rfl rfl ?_
    refine TO.y (Y.load_box (v := strV c.Token) 0 kk9 rfl rfl rfl) rfl rfl rfl ?_
    refine TO.bind fun R6 H7 => ?_
    refine TO.ef (Ef.call (rest := [.box B1 29 [.int .i64 c.Kind, strV c.Token, .int .i64 c.Tenant, .int .i64 c.N, strV c.Key, strV c.To, V_c6]]) [0] (impl_ReadToken_con secret c.Token  R6 H7) kc30 rfl rfl trivial) rfl rfl rfl (fun _ => ?_)
    refine TO.y (Y.move rfl) rfl rfl rfl ?_
    refine TO.y (Y.extract rfl rfl) rfl rfl rfl ?_
    refine TO.y (Y.extract rfl rfl) rfl rfl rfl ?_
    refine TO.y (Y.extract rfl rfl) rfl rfl rfl ?_
    refine TO.y (Y.assign rfl) rfl rfl rfl ?_
    refine TO.y (Y.assign rfl) rfl rfl rfl ?_
    refine TO.y (Y.assign rfl) rfl rfl rfl ?_
    refine TO.nil ?_
    refine TE.next ?_
    refine TW.seq ?_
    refine TW.region ?_
    refine TO.y (Y.move rfl) rfl rfl rfl ?_
    refine TO.y (Y.assign rfl) rfl rfl rfl ?_
    refine TO.nil ?_
    refine TE.next ?_
    refine TW.ret ?_
    exact TE.leaf fun _ _ hf_ hs_ => ret_any (rs := [.tmp 4]) (vs := [.int .i64 R6.1]) (.inl rfl) rfl ⟨rfl, trivial⟩ hf_ hs_ ⟨(), rfl, hs_.pulls [] rfl⟩

/-- loop.example/g00950/impl.Told -/
noncomputable def impl_Told (secret : List UInt8) (l : List Call) (r_ : List Reply) (tenant : Int) : Option (List Reply) :=
  (if (decide (tenant = (0 : Int))) = true then (some true)
  else (some (!(decide (((l.length : Nat) : Int) = ((r_.length : Nat) : Int)))))).bind (fun (T1 : Bool) =>
  if T1 = true then (some ([]))
  else (bindC (loopO (fun (S6 : Int × List Reply) => if (decide (S6.1 < ((l.length : Nat) : Int))) = true then ((idx l S6.1).bind fun E11 =>
  (impl_Whose secret E11).bind fun R15 =>
  bindC (if (decide (R15 = tenant)) = true then ((idx r_ S6.1).bind fun E21 =>
  (app 32 ([] : List KV) E21.List).bind fun E27 =>
  (app 56 S6.2 ([{ Code := E21.Code, N := E21.N, Text := E21.Text, List := E27 : Reply }])).bind fun E31 =>
  some (.go E31))
  else (some (.go S6.2)))
  (fun (T18 : List Reply) => some (.go (IntKind.i64.wrap (S6.1 + (1 : Int)), T18))))
  else (some (.done (.go S6.2))))
  ((0 : Int), ([] : List Reply)))
  (fun (T8 : List Reply) => some T8)))

theorem impl_Told_con (secret : List UInt8) (l : List Call) (r_ : List Reply) (tenant : Int) (V_l0 : Value) (V_r_0 : Value) (r : List Reply) (hm : impl_Told secret l r_ tenant = some r) :
    Con Try.prog 21 [strV secret, V_l0, V_r_0, .int .i64 tenant] [] [(V_l0, lc l), (V_r_0, lc r_)] (fun X : Value => X) (fun X => [.own X (lc r)]) := by
  refine Con.intro (args := [strV secret, V_l0, V_r_0, .int .i64 tenant]) (n := 51) (val := fun _ (X : Value) => X) (post := fun r X => [.own X (lc r)]) (m := impl_Told secret l r_ tenant) Try.func21 rfl rfl rfl hm ?_
  intro w S hrd
  have HB_V_l0 := hrd _ (.head _)
  have HB_V_r_0 := hrd _ (.tail _ (.head _))
  clear hrd
  unfold impl_Told
  refine TW.seq ?_
  refine TW.region ?_
  refine TO.y (Y.assign rfl) rfl rfl rfl ?_
  refine TO.nil ?_
  refine TE.next ?_
  refine TW.seq ?_
  refine TW.seq ?_
  refine TW.joinBX (τ := Bool) (X := Unit) (fun T _ => [(0, strV secret), (1, V_l0), (2, V_r_0), (3, .int .i64 tenant), (21, .bool T)]) (fun _ _ => []) ?_ (fun T1 X2 => ?_)
  · refine TW.region ?_
    refine TO.y (Y.move rfl) rfl rfl rfl ?_
    refine TO.y (Y.eql rfl rfl) rfl rfl rfl ?_
    refine TO.y (Y.move rfl) rfl rfl rfl ?_
    refine TO.ite (b := decide (tenant = (0 : Int))) (fun H3 => ?_) (fun H3 => ?_)
    · refine TO.off (Gd.at 2 false 15 (decide (tenant = (0 : Int))) rfl rfl rfl (beq_tf H3)) rfl rfl ?_
      refine TO.off (Gd.at 2 false 15 (decide (tenant = (0 : Int))) rfl rfl rfl (beq_tf H3)) rfl rfl ?_
      refine TO.off (Gd.at 2 false 15 (decide (tenant = (0 : Int))) rfl rfl rfl (beq_tf H3)) rfl rfl ?_
      refine TO.off (Gd.at 2 false 15 (decide (tenant = (0 : Int))) rfl rfl rfl (beq_tf H3)) rfl rfl ?_
      refine TO.off (Gd.at 2 false 15 (decide (tenant = (0 : Int))) rfl rfl rfl (beq_tf H3)) rfl rfl ?_
      refine TO.y (Y.pick_t H3 rfl rfl) rfl rfl rfl ?_
      refine TO.nil ?_
      exact TE.jb_go () [] ⟨rfl, rfl, rfl, rfl, rfl, trivial⟩ rfl
    · refine TO.y (Y.move rfl) (Gd.at 2 false 15 (decide (tenant = (0 : Int))) rfl rfl rfl (beq_ff H3)) rfl rfl ?_
      refine TO.y (Y.len (l := l) ke35 (Base.can HB_V_l0) rfl) (Gd.at 2 false 15 (decide (tenant = (0 : Int))) rfl rfl rfl (beq_ff H3)) rfl rfl ?_
      refine TO.y (Y.move rfl) (Gd.at 2 false 15 (decide (tenant = (0 : Int))) rfl rfl rfl (beq_ff H3)) rfl rfl ?_
      refine TO.y (Y.len (l := r_) ke43 (Base.can HB_V_r_0) rfl) (Gd.at 2 false 15 (decide (tenant = (0 : Int))) rfl rfl rfl (beq_ff H3)) rfl rfl ?_
      refine TO.y (Y.neq rfl rfl) (Gd.at 2 false 15 (decide (tenant = (0 : Int))) rfl rfl rfl (beq_ff H3)) rfl rfl ?_
      refine TO.y (Y.pick_f H3 rfl rfl) rfl rfl rfl ?_
      refine TO.nil ?_
      exact TE.jb_go () [] ⟨rfl, rfl, rfl, rfl, rfl, trivial⟩ rfl
  · refine TE.next ?_
    refine TW.cond rfl (fun H4 => ?_) (fun H4 => ?_)
    · refine TW.seq ?_
      refine TW.region ?_
      refine TO.y (Y.assign rfl) rfl rfl rfl ?_
      refine TO.nil ?_
      refine TE.next ?_
      refine TW.ret ?_
      refine TE.then_ret ?_
      exact TE.leaf fun _ _ hf_ hs_ => ret_any (rs := [.tmp 8]) (vs := [.slice none 0 0]) (.inl rfl) rfl ⟨rfl, trivial⟩ hf_ hs_ ⟨(.slice none 0 0), rfl, (hs_.nilItem 4).pulls [0] rfl⟩
    · refine TW.skip ?_
      refine TE.next ?_
      refine TW.seq ?_
      refine TW.region ?_
      refine TO.y (Y.assign rfl) rfl rfl rfl ?_
      refine TO.nil ?_
      refine TE.next ?_
      refine TW.seq ?_
      refine TW.seq ?_
      refine TW.region ?_
      refine TO.y (Y.move rfl) rfl rfl rfl ?_
      refine TO.y (Y.len (l := l) ke35 (Base.can HB_V_l0) rfl) rfl rfl rfl ?_
      refine TO.y (Y.move rfl) rfl rfl rfl ?_
      refine TO.nil ?_
      refine TE.next ?_
      refine TW.joinX (τ := List Reply) (X := Value) (fun _ X => [(9, X)]) (fun T X => [.own X (lc T)]) ?_ (fun T8 X9 => ?_)
      · refine TW.block ?_
        refine TW.nilItem 4 ?_
        refine TW.loopX (σ := Int × List Reply) (X := Value) (fun T X => [(0, strV secret), (2, V_r_0), (3, .int .i64 tenant), (9, X), (22, V_l0), (23, .int .i64 ((l.length : Nat) : Int)), (24, .int .i64 T.1)]) (fun T X => [.own X (lc T.2)]) (.slice none 0 0) [0] ⟨rfl, rfl, rfl, rfl, rfl, rfl, rfl, trivial⟩ rfl (fun S6 X7 => ?_)
        refine TW.seq ?_
        refine TW.region ?_
        refine TO.y (Y.lss rfl rfl) rfl rfl rfl ?_
        refine TO.nil ?_
        refine TE.next ?_
        refine TW.seq ?_
        refine TW.cond rfl (fun H10 => ?_) (fun H10 => ?_)
        · refine TW.skip ?_
          refine TE.next ?_
          refine TW.seq ?_
          refine TW.block ?_
          refine TW.seq ?_
          refine TW.region ?_
          refine TO.y (Y.move rfl) rfl rfl rfl ?_
          refine TO.bind fun E11 H12 => ?_
          refine TO.y (Y.index ke35 (Base.can HB_V_l0) H12 rfl rfl) rfl rfl rfl ?_
          have Q13 : Base w S (elv w V_l0 (S6.1.toNat * 7 + 6)) (lc E11.Ops) := Base.el HB_V_l0 (idx_get H12).2.2 rfl rfl
          refine TO.y (Y.load_base (α := Call) (u := .agg #[.int .i64 E11.Kind, strV E11.Token, .int .i64 E11.Tenant, .int .i64 E11.N, strV E11.Key, strV E11.To, (elv w V_l0 (S6.1.toNat * 7 + 6))]) kk29 rfl HB_V_l0 (idx_get H12).2.2 rfl rfl rfl rfl rfl) rfl rfl rfl ?_
          refine TO.ef (Ef.alloc kz29 rfl) rfl rfl rfl (fun B14 => ?_)
          refine TO.y (Y.assign rfl) rfl rfl rfl ?_
          refine TO.ef0 (Ef.store_box (us := [.int .i64 E11.Kind, strV E11.Token, .int .i64 E11.Tenant, .int .i64 E11.N, strV E11.Key, strV E11.To, (elv w V_l0 (S6.1.toNat * 7 + 6))]) (vs' := [.int .i64 E11.Kind, strV E11.Token, .int .i64 E11.Tenant, .int .i64 E11.N, strV E11.Key, strV E11.To, (elv w V_l0 (S6.1.toNat * 7 + 6))]) (is' := [.box B14 29 [.int .i64 E11.Kind, strV E11.Token, .int .i64 E11.Tenant, .int .i64 E11.N, strV E11.Key, strV E11.To, (elv w V_l0 (S6.1.toNat * 7 + 6))], .own X7 (lc S6.2)]) 0 kk29 rfl rfl rfl (Cel.agg ⟨(One.plain rfl), (One.plain rfl), (One.plain rfl), (One.plain rfl), (One.plain rfl), (One.plain rfl), (One.can (Base.can Q13)), trivial⟩) rfl rfl rfl rfl) rfl rfl (fun _ => ?_)
          refine TO.nil ?_
          refine TE.next ?_
          refine TW.seq ?_
          refine TW.region ?_
          refine TO.y (Y.move rfl) rfl rfl rfl ?_
          refine TO.y (Y.load_box (v := .agg #[.int .i64 E11.Kind, strV E11.Token, .int .i64 E11.Tenant, .int .i64 E11.N, strV E11.Key, strV E11.To, (elv w V_l0 (S6.1.toNat * 7 + 6))]) 0 kk29 rfl rfl rfl) rfl rfl rfl ?_
          refine TO.bind fun R15 H16 => ?_
          refine TO.ef (Ef.call (rest := [.box B14 29 [.int .i64 E11.Kind, strV E11.Token, .int .i64 E11.Tenant, .int .i64 E11.N, strV E11.Key, strV E11.To, (elv w V_l0 (S6.1.toNat * 7 + 6))], .own X7 (lc S6.2)]) [0, 0] (impl_Whose_con secret E11 (elv w V_l0 (S6.1.toNat * 7 + 6)) R15 H16) kc9 rfl rfl ⟨(Base.can Q13), trivial⟩) rfl rfl rfl (fun _ => ?_)
          refine TO.y (Y.move rfl) rfl rfl rfl ?_
          refine TO.y (Y.eql rfl rfl) rfl rfl rfl ?_
          refine TO.nil ?_
          refine TE.next ?_
          refine TW.joinX (τ := List Reply) (X := Value) (fun _ X => [(0, strV secret), (2, V_r_0), (3, .int .i64 tenant), (9, X), (22, V_l0), (23, .int .i64 ((l.length : Nat) : Int)), (24, .int .i64 S6.1)]) (fun T X => [.own X (lc T)]) ?_ (fun T18 X19 => ?_)
          · refine TW.cond rfl (fun H20 => ?_) (fun H20 => ?_)
            · refine TW.seq ?_
              refine TW.region ?_
              refine TO.y (Y.move rfl) rfl rfl rfl ?_
              refine TO.y (Y.move rfl) rfl rfl rfl ?_
              refine TO.bind fun E21 H22 => ?_
              refine TO.y (Y.index ke43 (Base.can HB_V_r_0) H22 rfl rfl) rfl rfl rfl ?_
              have Q23 : Base w S (elv w V_r_0 (S6.1.toNat * 4 + 3)) (lc E21.List) := Base.el HB_V_r_0 (idx_get H22).2.2 rfl rfl
              refine TO.y (Y.load_base (α := Reply) (u := .agg #[.int .i64 E21.Code, .int .i64 E21.N, strV E21.Text, (elv w V_r_0 (S6.1.toNat * 4 + 3))]) kk65 rfl HB_V_r_0 (idx_get H22).2.2 rfl rfl rfl rfl rfl) rfl rfl rfl ?_
              refine TO.ef (Ef.alloc kz65 rfl) rfl rfl rfl (fun B24 => ?_)
              refine TO.ef0 (Ef.store_box (us := [.int .i64 E21.Code, .int .i64 E21.N, strV E21.Text, (elv w V_r_0 (S6.1.toNat * 4 + 3))]) (vs' := [.int .i64 E21.Code, .int .i64 E21.N, strV E21.Text, (elv w V_r_0 (S6.1.toNat * 4 + 3))]) (is' := [.box B24 65 [.int .i64 E21.Code, .int .i64 E21.N, strV E21.Text, (elv w V_r_0 (S6.1.toNat * 4 + 3))], .box B14 29 [.int .i64 E11.Kind, strV E11.Token, .int .i64 E11.Tenant, .int .i64 E11.N, strV E11.Key, strV E11.To, (elv w V_l0 (S6.1.toNat * 7 + 6))], .own X7 (lc S6.2)]) 0 kk65 rfl rfl rfl (Cel.agg ⟨(One.plain rfl), (One.plain rfl), (One.plain rfl), (One.can (Base.can Q23)), trivial⟩) rfl rfl rfl rfl) rfl rfl (fun _ => ?_)
              refine TO.nil ?_
              refine TE.next ?_
              refine TW.seq ?_
              refine TW.region ?_
              refine TO.y (Y.move rfl) rfl rfl rfl ?_
              refine TO.y (Y.move rfl) rfl rfl rfl ?_
              refine TO.y (Y.index ke43 (Base.can HB_V_r_0) H22 rfl rfl) rfl rfl rfl ?_
              refine TO.y (Y.field_el kf65_3 (Base.can HB_V_r_0) (idx_get H22).2.2 rfl rfl) rfl rfl rfl ?_
              have Q25 : Base w S (elv w V_r_0 (S6.1.toNat * 4 + 3)) (lc E21.List) := Base.el HB_V_r_0 (idx_get H22).2.2 rfl rfl
              refine TO.y (Y.load_base (α := Reply) (u := (elv w V_r_0 (S6.1.toNat * 4 + 3))) kk63 rfl HB_V_r_0 (idx_get H22).2.2 rfl rfl rfl rfl rfl) rfl rfl rfl ?_
              refine TO.bind fun E27 H28 => ?_
              refine TO.ef (Ef.append_nil (α := KV) H28 ke63 kz88 rfl rfl rfl rfl (Base.can Q25)) rfl rfl rfl (fun V26 => ?_)
              refine TO.y (Y.field_box kf65_3 rfl rfl) rfl rfl rfl ?_
              refine TO.ef0 (Ef.store_box (us := [V26]) (vs' := [.int .i64 E21.Code, .int .i64 E21.N, strV E21.Text, V26]) (is' := [.own V26 (lc E27), .box B24 65 [.int .i64 E21.Code, .int .i64 E21.N, strV E21.Text, V26], .box B14 29 [.int .i64 E11.Kind, strV E11.Token, .int .i64 E11.Tenant, .int .i64 E11.N, strV E11.Key, strV E11.To, (elv w V_l0 (S6.1.toNat * 7 + 6))], .own X7 (lc S6.2)]) 1 kk63 rfl rfl rfl (Cel.one (One.can (Can.own 0 rfl))) rfl rfl rfl rfl) rfl rfl (fun _ => ?_)
              refine TO.nil ?_
              refine TE.next ?_
              refine TW.region ?_
              refine TO.y (Y.move rfl) rfl rfl rfl ?_
              refine TO.y (Y.load_box (v := .agg #[.int .i64 E21.Code, .int .i64 E21.N, strV E21.Text, V26]) 1 kk65 rfl rfl rfl) rfl rfl rfl ?_
              refine TO.ef (Ef.buildSliceR (Vs := [.agg #[.int .i64 E21.Code, .int .i64 E21.N, strV E21.Text, V26]]) [[.int .i64 E21.Code, .int .i64 E21.N, strV E21.Text, V26]] [.int .i64 E21.Code, .int .i64 E21.N, .str E21.Text, .raw V26] ke43 kz65 rfl rfl rfl rfl rfl ⟨(Cel.agg ⟨(One.plain rfl), (One.plain rfl), (One.plain rfl), (One.can (Can.own 0 rfl)), trivial⟩), trivial⟩ rfl) rfl rfl rfl (fun B29 => ?_)
              refine TO.ghost (is' := fun _ => [.own (.slice (some ⟨B29, 0, none⟩) 1 1) (lc ([{ Code := E21.Code, N := E21.N, Text := E21.Text, List := E27 : Reply }])), .box B24 65 [.int .i64 E21.Code, .int .i64 E21.N, strV E21.Text, V26], .box B14 29 [.int .i64 E11.Kind, strV E11.Token, .int .i64 E11.Tenant, .int .i64 E11.N, strV E11.Key, strV E11.To, (elv w V_l0 (S6.1.toNat * 7 + 6))], .own X7 (lc S6.2)]) (Gh.closeAll (js := [.own V26 (lc E27)]) (r := [.box B24 65 [.int .i64 E21.Code, .int .i64 E21.N, strV E21.Text, V26], .box B14 29 [.int .i64 E11.Kind, strV E11.Token, .int .i64 E11.Tenant, .int .i64 E11.N, strV E11.Key, strV E11.To, (elv w V_l0 (S6.1.toNat * 7 + 6))], .own X7 (lc S6.2)]) [0, 0, 0, 0, 0] rfl (Cls.keep (Cls.keep (Cls.keep (Cls.fill Cls.nil))))) (fun _ => ?_)
              refine TO.bind fun E31 H32 => ?_
              refine TO.ef (Ef.appN (α := Reply) (is' := [.box B24 65 [.int .i64 E21.Code, .int .i64 E21.N, strV E21.Text, V26], .box B14 29 [.int .i64 E11.Kind, strV E11.Token, .int .i64 E11.Tenant, .int .i64 E11.N, strV E11.Key, strV E11.To, (elv w V_l0 (S6.1.toNat * 7 + 6))]]) [3, 0, 0, 0] H32 ke43 kz65 rfl rfl rfl rfl rfl) rfl rfl rfl (fun V30 => ?_)
              refine TO.y (Y.assign rfl) rfl rfl rfl ?_
              refine TO.nil ?_
              exact TE.jn_go V30 [0] ⟨rfl, rfl, rfl, rfl, rfl, rfl, rfl, trivial⟩ rfl
            · refine TW.skip ?_
              exact TE.jn_go X7 [1] ⟨rfl, rfl, rfl, rfl, rfl, rfl, rfl, trivial⟩ rfl
          · refine TE.block_normal ?_
            refine TE.next ?_
            refine TW.region ?_
            refine TO.y (Y.add rfl rfl) rfl rfl rfl ?_
            refine TO.y (Y.move rfl) rfl rfl rfl ?_
            refine TO.nil ?_
            exact TE.lp_go X19 [0] ⟨rfl, rfl, rfl, rfl, rfl, rfl, rfl, trivial⟩ rfl
        · refine TW.exit ?_
          refine TE.then_exit ?_
          refine TE.lp_exit ?_
          refine TE.block_exit ?_
          exact TE.jn_go X7 [0] ⟨rfl, trivial⟩ rfl
      · refine TE.next ?_
        refine TW.seq ?_
        refine TW.region ?_
        refine TO.y (Y.move rfl) rfl rfl rfl ?_
        refine TO.y (Y.assign rfl) rfl rfl rfl ?_
        refine TO.nil ?_
        refine TE.next ?_
        refine TW.ret ?_
        exact TE.leaf fun _ _ hf_ hs_ => ret_any (rs := [.tmp 8]) (vs := [X9]) (.inl rfl) rfl ⟨rfl, trivial⟩ hf_ hs_ ⟨X9, rfl, hs_.pulls [0] rfl⟩

/-- loop.example/g00950/laws.eqKV -/
noncomputable def laws_eqKV (a : KV) (b : KV) : Option Bool :=
  if (!(decide (a.Key = b.Key))) = true then (some false)
  else (if (!(decide (a.Val = b.Val))) = true then (some false)
  else (some true))

theorem laws_eqKV_con (a : KV) (b : KV)  (r : Bool) (hm : laws_eqKV a b = some r) :
    Con Try.prog 66 [.agg #[strV a.Key, strV a.Val], .agg #[strV b.Key, strV b.Val]] [] [] (fun _ : Unit => .bool r) (fun _ => []) := by
  refine Con.intro (args := [.agg #[strV a.Key, strV a.Val], .agg #[strV b.Key, strV b.Val]]) (n := 15) (val := fun r (_ : Unit) => .bool r) (post := fun _ _ => []) (m := laws_eqKV a b) Try.func66 rfl rfl rfl hm ?_
  intro w S _
  unfold laws_eqKV
  refine TW.seq ?_
  refine TW.region ?_
  refine TO.ef (Ef.box rfl (Cel.plain rfl rfl)) rfl rfl rfl (fun B1 => ?_)
  refine TO.ef (Ef.box rfl (Cel.plain rfl rfl)) rfl rfl rfl (fun B2 => ?_)
  refine TO.y (Y.assign rfl) rfl rfl rfl ?_
  refine TO.nil ?_
  refine TE.next ?_
  refine TW.seq ?_
  refine TW.seq ?_
  refine TW.region ?_
  refine TO.y (Y.field_box kf88_0 rfl rfl) rfl rfl rfl ?_
  refine TO.y (Y.load_box (v := strV a.Key) 1 kk9 rfl rfl rfl) rfl rfl rfl ?_
  refine TO.y (Y.field_box kf88_0 rfl rfl) rfl rfl rfl ?_
  refine TO.y (Y.load_box (v := strV b.Key) 0 kk9 rfl rfl rfl) rfl rfl rfl ?_
  refine TO.y (Y.sneq rfl rfl) rfl rfl rfl ?_
  refine TO.nil ?_
  refine TE.next ?_
  refine TW.cond rfl (fun H3 => ?_) (fun H3 => ?_)
  · refine TW.seq ?_
    refine TW.region ?_
    refine TO.y (Y.assign rfl) rfl rfl rfl ?_
    refine TO.nil ?_
    refine TE.next ?_
    refine TW.ret ?_
    refine TE.then_ret ?_
    exact TE.leaf fun _ _ hf_ hs_ => ret_any (rs := [.tmp 4]) (vs := [.bool false]) (.inl rfl) rfl ⟨rfl, trivial⟩ hf_ hs_ ⟨(), rfl, hs_.pulls [] rfl⟩
  · refine TW.skip ?_
    refine TE.next ?_
    refine TW.seq ?_
    refine TW.seq ?_
    refine TW.region ?_
    refine TO.y (Y.field_box kf88_1 rfl rfl) rfl rfl rfl ?_
    refine TO.y (Y.load_box (v := strV a.Val) 1 kk9 rfl rfl rfl) rfl rfl rfl ?_
    refine TO.y (Y.field_box kf88_1 rfl rfl) rfl rfl rfl ?_
    refine TO.y (Y.load_box (v := strV b.Val) 0 kk9 rfl rfl rfl) rfl rfl rfl ?_
    refine TO.y (Y.sneq rfl rfl) rfl rfl rfl ?_
    refine TO.nil ?_
    refine TE.next ?_
    refine TW.cond rfl (fun H4 => ?_) (fun H4 => ?_)
    · refine TW.seq ?_
      refine TW.region ?_
      refine TO.y (Y.assign rfl) rfl rfl rfl ?_
      refine TO.nil ?_
      refine TE.next ?_
      refine TW.ret ?_
      refine TE.then_ret ?_
      exact TE.leaf fun _ _ hf_ hs_ => ret_any (rs := [.tmp 4]) (vs := [.bool false]) (.inl rfl) rfl ⟨rfl, trivial⟩ hf_ hs_ ⟨(), rfl, hs_.pulls [] rfl⟩
    · refine TW.skip ?_
      refine TE.next ?_
      refine TW.seq ?_
      refine TW.region ?_
      refine TO.y (Y.assign rfl) rfl rfl rfl ?_
      refine TO.nil ?_
      refine TE.next ?_
      refine TW.ret ?_
      exact TE.leaf fun _ _ hf_ hs_ => ret_any (rs := [.tmp 4]) (vs := [.bool true]) (.inl rfl) rfl ⟨rfl, trivial⟩ hf_ hs_ ⟨(), rfl, hs_.pulls [] rfl⟩

end Go.Proofs.Ytedpnkndjbhpnaa
