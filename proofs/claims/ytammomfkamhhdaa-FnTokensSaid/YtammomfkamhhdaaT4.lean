/-
  The functions that a law reaches, each as a pure function, with the proof that the program computes it, and the step from a pure law to the given statement. Conditions: none.
-/
import Derived.Test.YtammomfkamhhdaaT3
set_option linter.unusedVariables false
set_option maxRecDepth 100000
set_option maxHeartbeats 4000000
namespace Go.Proofs.Ytammomfkamhhdaa
open Go Sl

/-- loop.example/g00950/impl.quarter -/
noncomputable def impl_quarter (w_ : List Wrd) (a : Int) (b : Int) (c : Int) (d : Int) : Option (List Wrd) :=
  (idx w_ a).bind fun E1 =>
  (idx w_ b).bind fun E3 =>
  (idx (w_.set a.toNat (Wrd.mk (IntKind.u32.wrap (E1.v + E3.v)))) d).bind fun E7 =>
  (idx (w_.set a.toNat (Wrd.mk (IntKind.u32.wrap (E1.v + E3.v)))) a).bind fun E9 =>
  (math_bits_RotateLeft32 (ixor .u32 E7.v E9.v) (16 : Int)).bind fun R11 =>
  (idx ((w_.set a.toNat (Wrd.mk (IntKind.u32.wrap (E1.v + E3.v)))).set d.toNat (Wrd.mk R11)) c).bind fun E16 =>
  (idx ((w_.set a.toNat (Wrd.mk (IntKind.u32.wrap (E1.v + E3.v)))).set d.toNat (Wrd.mk R11)) d).bind fun E18 =>
  (idx (((w_.set a.toNat (Wrd.mk (IntKind.u32.wrap (E1.v + E3.v)))).set d.toNat (Wrd.mk R11)).set c.toNat (Wrd.mk (IntKind.u32.wrap (E16.v + E18.v)))) b).bind fun E22 =>
  (idx (((w_.set a.toNat (Wrd.mk (IntKind.u32.wrap (E1.v + E3.v)))).set d.toNat (Wrd.mk R11)).set c.toNat (Wrd.mk (IntKind.u32.wrap (E16.v + E18.v)))) c).bind fun E24 =>
  (math_bits_RotateLeft32 (ixor .u32 E22.v E24.v) (12 : Int)).bind fun R26 =>
  (idx ((((w_.set a.toNat (Wrd.mk (IntKind.u32.wrap (E1.v + E3.v)))).set d.toNat (Wrd.mk R11)).set c.toNat (Wrd.mk (IntKind.u32.wrap (E16.v + E18.v)))).set b.toNat (Wrd.mk R26)) a).bind fun E31 =>
  (idx ((((w_.set a.toNat (Wrd.mk (IntKind.u32.wrap (E1.v + E3.v)))).set d.toNat (Wrd.mk R11)).set c.toNat (Wrd.mk (IntKind.u32.wrap (E16.v + E18.v)))).set b.toNat (Wrd.mk R26)) b).bind fun E33 =>
  (idx (((((w_.set a.toNat (Wrd.mk (IntKind.u32.wrap (E1.v + E3.v)))).set d.toNat (Wrd.mk R11)).set c.toNat (Wrd.mk (IntKind.u32.wrap (E16.v + E18.v)))).set b.toNat (Wrd.mk R26)).set a.toNat (Wrd.mk (IntKind.u32.wrap (E31.v + E33.v)))) d).bind fun E37 =>
  (idx (((((w_.set a.toNat (Wrd.mk (IntKind.u32.wrap (E1.v + E3.v)))).set d.toNat (Wrd.mk R11)).set c.toNat (Wrd.mk (IntKind.u32.wrap (E16.v + E18.v)))).set b.toNat (Wrd.mk R26)).set a.toNat (Wrd.mk (IntKind.u32.wrap (E31.v + E33.v)))) a).bind fun E39 =>
  (math_bits_RotateLeft32 (ixor .u32 E37.v E39.v) (8 : Int)).bind fun R41 =>
  (idx ((((((w_.set a.toNat (Wrd.mk (IntKind.u32.wrap (E1.v + E3.v)))).set d.toNat (Wrd.mk R11)).set c.toNat (Wrd.mk (IntKind.u32.wrap (E16.v + E18.v)))).set b.toNat (Wrd.mk R26)).set a.toNat (Wrd.mk (IntKind.u32.wrap (E31.v + E33.v)))).set d.toNat (Wrd.mk R41)) c).bind fun E46 =>
  (idx ((((((w_.set a.toNat (Wrd.mk (IntKind.u32.wrap (E1.v + E3.v)))).set d.toNat (Wrd.mk R11)).set c.toNat (Wrd.mk (IntKind.u32.wrap (E16.v + E18.v)))).set b.toNat (Wrd.mk R26)).set a.toNat (Wrd.mk (IntKind.u32.wrap (E31.v + E33.v)))).set d.toNat (Wrd.mk R41)) d).bind fun E48 =>
  (idx (((((((w_.set a.toNat (Wrd.mk (IntKind.u32.wrap (E1.v + E3.v)))).set d.toNat (Wrd.mk R11)).set c.toNat (Wrd.mk (IntKind.u32.wrap (E16.v + E18.v)))).set b.toNat (Wrd.mk R26)).set a.toNat (Wrd.mk (IntKind.u32.wrap (E31.v + E33.v)))).set d.toNat (Wrd.mk R41)).set c.toNat (Wrd.mk (IntKind.u32.wrap (E46.v + E48.v)))) b).bind fun E52 =>
  (idx (((((((w_.set a.toNat (Wrd.mk (IntKind.u32.wrap (E1.v + E3.v)))).set d.toNat (Wrd.mk R11)).set c.toNat (Wrd.mk (IntKind.u32.wrap (E16.v + E18.v)))).set b.toNat (Wrd.mk R26)).set a.toNat (Wrd.mk (IntKind.u32.wrap (E31.v + E33.v)))).set d.toNat (Wrd.mk R41)).set c.toNat (Wrd.mk (IntKind.u32.wrap (E46.v + E48.v)))) c).bind fun E54 =>
  (math_bits_RotateLeft32 (ixor .u32 E52.v E54.v) (7 : Int)).bind fun R56 =>
  some ((((((((w_.set a.toNat (Wrd.mk (IntKind.u32.wrap (E1.v + E3.v)))).set d.toNat (Wrd.mk R11)).set c.toNat (Wrd.mk (IntKind.u32.wrap (E16.v + E18.v)))).set b.toNat (Wrd.mk R26)).set a.toNat (Wrd.mk (IntKind.u32.wrap (E31.v + E33.v)))).set d.toNat (Wrd.mk R41)).set c.toNat (Wrd.mk (IntKind.u32.wrap (E46.v + E48.v)))).set b.toNat (Wrd.mk R56))

theorem impl_quarter_con (w_ : List Wrd) (a : Int) (b : Int) (c : Int) (d : Int) (B_w_ : Nat) (r : List Wrd) (hm : impl_quarter w_ a b c d = some r) :
    Con Try.prog 56 [.pointer (some ⟨B_w_, 0, none⟩), .int .i64 a, .int .i64 b, .int .i64 c, .int .i64 d] [.own (arrS B_w_ 16) (lc w_)] [] (fun _ : Unit => .tuple #[]) (fun _ => [.own (arrS B_w_ 16) (lc r)]) := by
  refine Con.intro (args := [.pointer (some ⟨B_w_, 0, none⟩), .int .i64 a, .int .i64 b, .int .i64 c, .int .i64 d]) (n := 126) (val := fun _ (_ : Unit) => .tuple #[]) (post := fun r _ => [.own (arrS B_w_ 16) (lc r)]) (m := impl_quarter w_ a b c d) Try.func56 rfl rfl rfl hm ?_
  intro w S _
  unfold impl_quarter
  refine TW.seq ?_
  refine TW.bind fun E1 H2 => ?_
  refine TW.bind fun E3 H4 => ?_
  refine TW.joinU (X := Unit) (fun _ _ => [(0, .pointer (some ⟨B_w_, 0, none⟩)), (1, .int .i64 a), (2, .int .i64 b), (3, .int .i64 c), (4, .int .i64 d)]) (fun _ _ => [.own (arrS B_w_ 16) (lc (w_.set a.toNat (Wrd.mk (IntKind.u32.wrap (E1.v + E3.v)))))]) ?_ (fun _ X6 => ?_)
  · refine TW.draw (isH := []) hMix ?_
    refine TA.y (listed' := #[true, false, false, false, false, false, false, false, false, false, false, false, false, false]) 0 [] rfl (Y.move rfl) rfl rfl rfl (by kernel_rfl) (by kernel_rfl) (by kernel_rfl) rfl rfl ?_
    refine TA.y (listed' := #[true, true, false, false, false, false, false, false, false, false, false, false, false, false]) 1 [] rfl (Y.move rfl) rfl rfl rfl (by kernel_rfl) (by kernel_rfl) (by kernel_rfl) rfl rfl ?_
    refine TA.y (listed' := #[true, true, true, false, false, false, false, false, false, false, false, false, false, false]) 2 [] rfl (Y.nilCheck rfl) rfl rfl rfl (by kernel_rfl) (by kernel_rfl) (by kernel_rfl) rfl rfl ?_
    refine TA.y (listed' := #[true, true, true, false, false, true, false, false, false, false, false, false, false, false]) 5 [] rfl (Y.move rfl) rfl rfl rfl (by kernel_rfl) (by kernel_rfl) (by kernel_rfl) rfl rfl ?_
    refine TA.y (listed' := #[true, true, true, false, false, true, true, false, false, false, false, false, false, false]) 6 [] rfl (Y.move rfl) rfl rfl rfl (by kernel_rfl) (by kernel_rfl) (by kernel_rfl) rfl rfl ?_
    refine TA.y (listed' := #[true, true, true, false, false, true, true, true, false, false, false, false, false, false]) 7 [] rfl (Y.nilCheck rfl) rfl rfl rfl (by kernel_rfl) (by kernel_rfl) (by kernel_rfl) rfl rfl ?_
    refine TA.y (listed' := #[true, true, true, false, false, true, true, true, false, false, false, true, false, false]) 11 [] rfl (Y.nilCheck rfl) rfl rfl rfl (by kernel_rfl) (by kernel_rfl) (by kernel_rfl) rfl rfl ?_
    refine TA.two 3 8 (by kernel_rfl) ?_ ?_
    · refine TX.y (listed' := #[true, true, true, true, false, true, true, true, false, false, false, true, false, false]) [] rfl (Y.index_arr (α := Wrd) ka79 (Can.own 0 rfl) H2 rfl rfl) rfl rfl rfl rfl rfl ?_
      refine TA.two 4 8 (by kernel_rfl) ?_ ?_
      · refine TX.y (listed' := #[true, true, true, true, true, true, true, true, false, false, false, true, false, false]) [] rfl (Y.load_el (us := [.int .u32 E1.v]) (u := .int .u32 E1.v) kk78 rfl (Can.own 0 rfl) (idx_get H2).2.2 rfl rfl rfl rfl rfl) rfl rfl rfl rfl rfl ?_
        refine TA.one 8 (by kernel_rfl) ?_
        refine TX.y (listed' := #[true, true, true, true, true, true, true, true, true, false, false, true, false, false]) [] rfl (Y.index_arr (α := Wrd) ka79 (Can.own 0 rfl) H4 rfl rfl) rfl rfl rfl rfl rfl ?_
        refine TA.one 9 (by kernel_rfl) ?_
        refine TX.y (listed' := #[true, true, true, true, true, true, true, true, true, true, false, true, false, false]) [] rfl (Y.load_el (us := [.int .u32 E3.v]) (u := .int .u32 E3.v) kk78 rfl (Can.own 0 rfl) (idx_get H4).2.2 rfl rfl rfl rfl rfl) rfl rfl rfl rfl rfl ?_
        refine TA.y (listed' := #[true, true, true, true, true, true, true, true, true, true, true, true, false, false]) 10 [] rfl (Y.add rfl rfl) rfl rfl rfl (by kernel_rfl) (by kernel_rfl) (by kernel_rfl) rfl rfl ?_
        refine TA.one 12 (by kernel_rfl) ?_
        refine TX.y (listed' := #[true, true, true, true, true, true, true, true, true, true, true, true, true, false]) [] rfl (Y.index_arr (α := Wrd) ka79 (Can.own 0 rfl) H2 rfl rfl) rfl rfl rfl rfl rfl ?_
        refine TA.one 13 (by kernel_rfl) ?_
        refine TX.ef0 (listed' := #[true, true, true, true, true, true, true, true, true, true, true, true, true, true]) [] rfl (Ef.store_el (us := [.int .u32 (IntKind.u32.wrap (E1.v + E3.v))]) (is' := [.own (arrS B_w_ 16) (lc (w_.set a.toNat (Wrd.mk (IntKind.u32.wrap (E1.v + E3.v)))))]) (Wrd.mk (IntKind.u32.wrap (E1.v + E3.v))) 0 kk78 rfl rfl (idx_get H2).2.2 rfl rfl (Cel.plain rfl rfl) rfl rfl rfl rfl) rfl rfl rfl (fun _ => rfl) (fun _ => ?_)
        refine TA.nil (by kernel_rfl) ?_
        exact TE.jb_go () [0] ⟨rfl, rfl, rfl, rfl, rfl, trivial⟩ rfl
      · refine TX.y (listed' := #[true, true, true, true, false, true, true, true, true, false, false, true, false, false]) [] rfl (Y.index_arr (α := Wrd) ka79 (Can.own 0 rfl) H4 rfl rfl) rfl rfl rfl rfl rfl ?_
        refine TA.two 4 9 (by kernel_rfl) ?_ ?_
        · refine TX.y (listed' := #[true, true, true, true, true, true, true, true, true, false, false, true, false, false]) [] rfl (Y.load_el (us := [.int .u32 E1.v]) (u := .int .u32 E1.v) kk78 rfl (Can.own 0 rfl) (idx_get H2).2.2 rfl rfl rfl rfl rfl) rfl rfl rfl rfl rfl ?_
          refine TA.one 9 (by kernel_rfl) ?_
          refine TX.y (listed' := #[true, true, true, true, true, true, true, true, true, true, false, true, false, false]) [] rfl (Y.load_el (us := [.int .u32 E3.v]) (u := .int .u32 E3.v) kk78 rfl (Can.own 0 rfl) (idx_get H4).2.2 rfl rfl rfl rfl rfl) rfl rfl rfl rfl rfl ?_
          refine TA.y (listed' := #[true, true, true, true, true, true, true, true, true, true, true, true, false, false]) 10 [] rfl (Y.add rfl rfl) rfl rfl rfl (by kernel_rfl) (by kernel_rfl) (by kernel_rfl) rfl rfl ?_
          refine TA.one 12 (by kernel_rfl) ?_
          refine TX.y (listed' := #[true, true, true, true, true, true, true, true, true, true, true, true, true, false]) [] rfl (Y.index_arr (α := Wrd) ka79 (Can.own 0 rfl) H2 rfl rfl) rfl rfl rfl rfl rfl ?_
          refine TA.one 13 (by kernel_rfl) ?_
          refine TX.ef0 (listed' := #[true, true, true, true, true, true, true, true, true, true, true, true, true, true]) [] rfl (Ef.store_el (us := [.int .u32 (IntKind.u32.wrap (E1.v + E3.v))]) (is' := [.own (arrS B_w_ 16) (lc (w_.set a.toNat (Wrd.mk (IntKind.u32.wrap (E1.v + E3.v)))))]) (Wrd.mk (IntKind.u32.wrap (E1.v + E3.v))) 0 kk78 rfl rfl (idx_get H2).2.2 rfl rfl (Cel.plain rfl rfl) rfl rfl rfl rfl) rfl rfl rfl (fun _ => rfl) (fun _ => ?_)
          refine TA.nil (by kernel_rfl) ?_
          exact TE.jb_go () [0] ⟨rfl, rfl, rfl, rfl, rfl, trivial⟩ rfl
        · refine TX.y (listed' := #[true, true, true, true, false, true, true, true, true, true, false, true, false, false]) [] rfl (Y.load_el (us := [.int .u32 E3.v]) (u := .int .u32 E3.v) kk78 rfl (Can.own 0 rfl) (idx_get H4).2.2 rfl rfl rfl rfl rfl) rfl rfl rfl rfl rfl ?_
          refine TA.one 4 (by kernel_rfl) ?_
          refine TX.y (listed' := #[true, true, true, true, true, true, true, true, true, true, false, true, false, false]) [] rfl (Y.load_el (us := [.int .u32 E1.v]) (u := .int .u32 E1.v) kk78 rfl (Can.own 0 rfl) (idx_get H2).2.2 rfl rfl rfl rfl rfl) rfl rfl rfl rfl rfl ?_
          refine TA.y (listed' := #[true, true, true, true, true, true, true, true, true, true, true, true, false, false]) 10 [] rfl (Y.add rfl rfl) rfl rfl rfl (by kernel_rfl) (by kernel_rfl) (by kernel_rfl) rfl rfl ?_
          refine TA.one 12 (by kernel_rfl) ?_
          refine TX.y (listed' := #[true, true, true, true, true, true, true, true, true, true, true, true, true, false]) [] rfl (Y.index_arr (α := Wrd) ka79 (Can.own 0 rfl) H2 rfl rfl) rfl rfl rfl rfl rfl ?_
          refine TA.one 13 (by kernel_rfl) ?_
          refine TX.ef0 (listed' := #[true, true, true, true, true, true, true, true, true, true, true, true, true, true]) [] rfl (Ef.store_el (us := [.int .u32 (IntKind.u32.wrap (E1.v + E3.v))]) (is' := [.own (arrS B_w_ 16) (lc (w_.set a.toNat (Wrd.mk (IntKind.u32.wrap (E1.v + E3.v)))))]) (Wrd.mk (IntKind.u32.wrap (E1.v + E3.v))) 0 kk78 rfl rfl (idx_get H2).2.2 rfl rfl (Cel.plain rfl rfl) rfl rfl rfl rfl) rfl rfl rfl (fun _ => rfl) (fun _ => ?_)
          refine TA.nil (by kernel_rfl) ?_
          exact TE.jb_go () [0] ⟨rfl, rfl, rfl, rfl, rfl, trivial⟩ rfl
    · refine TX.y (listed' := #[true, true, true, false, false, true, true, true, true, false, false, true, false, false]) [] rfl (Y.index_arr (α := Wrd) ka79 (Can.own 0 rfl) H4 rfl rfl) rfl rfl rfl rfl rfl ?_
      refine TA.two 3 9 (by kernel_rfl) ?_ ?_
      · refine TX.y (listed' := #[true, true, true, true, false, true, true, true, true, false, false, true, false, false]) [] rfl (Y.index_arr (α := Wrd) ka79 (Can.own 0 rfl) H2 rfl rfl) rfl rfl rfl rfl rfl ?_
        refine TA.two 4 9 (by kernel_rfl) ?_ ?_
        · refine TX.y (listed' := #[true, true, true, true, true, true, true, true, true, false, false, true, false, false]) [] rfl (Y.load_el (us := [.int .u32 E1.v]) (u := .int .u32 E1.v) kk78 rfl (Can.own 0 rfl) (idx_get H2).2.2 rfl rfl rfl rfl rfl) rfl rfl rfl rfl rfl ?_
          refine TA.one 9 (by kernel_rfl) ?_
          refine TX.y (listed' := #[true, true, true, true, true, true, true, true, true, true, false, true, false, false]) [] rfl (Y.load_el (us := [.int .u32 E3.v]) (u := .int .u32 E3.v) kk78 rfl (Can.own 0 rfl) (idx_get H4).2.2 rfl rfl rfl rfl rfl) rfl rfl rfl rfl rfl ?_
          refine TA.y (listed' := #[true, true, true, true, true, true, true, true, true, true, true, true, false, false]) 10 [] rfl (Y.add rfl rfl) rfl rfl rfl (by kernel_rfl) (by kernel_rfl) (by kernel_rfl) rfl rfl ?_
          refine TA.one 12 (by kernel_rfl) ?_
          refine TX.y (listed' := #[true, true, true, true, true, true, true, true, true, true, true, true, true, false]) [] rfl (Y.index_arr (α := Wrd) ka79 (Can.own 0 rfl) H2 rfl rfl) rfl rfl rfl rfl rfl ?_
          refine TA.one 13 (by kernel_rfl) ?_
          refine TX.ef0 (listed' := #[true, true, true, true, true, true, true, true, true, true, true, true, true, true]) [] rfl (Ef.store_el (us := [.int .u32 (IntKind.u32.wrap (E1.v + E3.v))]) (is' := [.own (arrS B_w_ 16) (lc (w_.set a.toNat (Wrd.mk (IntKind.u32.wrap (E1.v + E3.v)))))]) (Wrd.mk (IntKind.u32.wrap (E1.v + E3.v))) 0 kk78 rfl rfl (idx_get H2).2.2 rfl rfl (Cel.plain rfl rfl) rfl rfl rfl rfl) rfl rfl rfl (fun _ => rfl) (fun _ => ?_)
          refine TA.nil (by kernel_rfl) ?_
          exact TE.jb_go () [0] ⟨rfl, rfl, rfl, rfl, rfl, trivial⟩ rfl
        · refine TX.y (listed' := #[true, true, true, true, false, true, true, true, true, true, false, true, false, false]) [] rfl (Y.load_el (us := [.int .u32 E3.v]) (u := .int .u32 E3.v) kk78 rfl (Can.own 0 rfl) (idx_get H4).2.2 rfl rfl rfl rfl rfl) rfl rfl rfl rfl rfl ?_
          refine TA.one 4 (by kernel_rfl) ?_
          refine TX.y (listed' := #[true, true, true, true, true, true, true, true, true, true, false, true, false, false]) [] rfl (Y.load_el (us := [.int .u32 E1.v]) (u := .int .u32 E1.v) kk78 rfl (Can.own 0 rfl) (idx_get H2).2.2 rfl rfl rfl rfl rfl) rfl rfl rfl rfl rfl ?_
          refine TA.y (listed' := #[true, true, true, true, true, true, true, true, true, true, true, true, false, false]) 10 [] rfl (Y.add rfl rfl) rfl rfl rfl (by kernel_rfl) (by kernel_rfl) (by kernel_rfl) rfl rfl ?_
          refine TA.one 12 (by kernel_rfl) ?_
          refine TX.y (listed' := #[true, true, true, true, true, true, true, true, true, true, true, true, true, false]) [] rfl (Y.index_arr (α := Wrd) ka79 (Can.own 0 rfl) H2 rfl rfl) rfl rfl rfl rfl rfl ?_
          refine TA.one 13 (by kernel_rfl) ?_
          refine TX.ef0 (listed' := #[true, true, true, true, true, true, true, true, true, true, true, true, true, true]) [] rfl (Ef.store_el (us := [.int .u32 (IntKind.u32.wrap (E1.v + E3.v))]) (is' := [.own (arrS B_w_ 16) (lc (w_.set a.toNat (Wrd.mk (IntKind.u32.wrap (E1.v + E3.v)))))]) (Wrd.mk (IntKind.u32.wrap (E1.v + E3.v))) 0 kk78 rfl rfl (idx_get H2).2.2 rfl rfl (Cel.plain rfl rfl) rfl rfl rfl rfl) rfl rfl rfl (fun _ => rfl) (fun _ => ?_)
          refine TA.nil (by kernel_rfl) ?_
          exact TE.jb_go () [0] ⟨rfl, rfl, rfl, rfl, rfl, trivial⟩ rfl
      · refine TX.y (listed' := #[true, true, true, false, false, true, true, true, true, true, false, true, false, false]) [] rfl (Y.load_el (us := [.int .u32 E3.v]) (u := .int .u32 E3.v) kk78 rfl (Can.own 0 rfl) (idx_get H4).2.2 rfl rfl rfl rfl rfl) rfl rfl rfl rfl rfl ?_
        refine TA.one 3 (by kernel_rfl) ?_
        refine TX.y (listed' := #[true, true, true, true, false, true, true, true, true, true, false, true, false, false]) [] rfl (Y.index_arr (α := Wrd) ka79 (Can.own 0 rfl) H2 rfl rfl) rfl rfl rfl rfl rfl ?_
        refine TA.one 4 (by kernel_rfl) ?_
        refine TX.y (listed' := #[true, true, true, true, true, true, true, true, true, true, false, true, false, false]) [] rfl (Y.load_el (us := [.int .u32 E1.v]) (u := .int .u32 E1.v) kk78 rfl (Can.own 0 rfl) (idx_get H2).2.2 rfl rfl rfl rfl rfl) rfl rfl rfl rfl rfl ?_
        refine TA.y (listed' := #[true, true, true, true, true, true, true, true, true, true, true, true, false, false]) 10 [] rfl (Y.add rfl rfl) rfl rfl rfl (by kernel_rfl) (by kernel_rfl) (by kernel_rfl) rfl rfl ?_
        refine TA.one 12 (by kernel_rfl) ?_
        refine TX.y (listed' := #[true, true, true, true, true, true, true, true, true, true, true, true, true, false]) [] rfl (Y.index_arr (α := Wrd) ka79 (Can.own 0 rfl) H2 rfl rfl) rfl rfl rfl rfl rfl ?_
        refine TA.one 13 (by kernel_rfl) ?_
        refine TX.ef0 (listed' := #[true, true, true, true, true, true, true, true, true, true, true, true, true, true]) [] rfl (Ef.store_el (us := [.int .u32 (IntKind.u32.wrap (E1.v + E3.v))]) (is' := [.own (arrS B_w_ 16) (lc (w_.set a.toNat (Wrd.mk (IntKind.u32.wrap (E1.v + E3.v)))))]) (Wrd.mk (IntKind.u32.wrap (E1.v + E3.v))) 0 kk78 rfl rfl (idx_get H2).2.2 rfl rfl (Cel.plain rfl rfl) rfl rfl rfl rfl) rfl rfl rfl (fun _ => rfl) (fun _ => ?_)
        refine TA.nil (by kernel_rfl) ?_
        exact TE.jb_go () [0] ⟨rfl, rfl, rfl, rfl, rfl, trivial⟩ rfl
  · refine TE.next ?_
    refine TW.seq ?_
    refine TW.bind fun E7 H8 => ?_
    refine TW.bind fun E9 H10 => ?_
    refine TW.bind fun R11 H12 => ?_
    refine TW.joinU (X := Unit) (fun _ _ => [(0, .pointer (some ⟨B_w_, 0, none⟩)), (1, .int .i64 a), (2, .int .i64 b), (3, .int .i64 c), (4, .int .i64 d)]) (fun _ _ => [.own (arrS B_w_ 16) (lc ((w_.set a.toNat (Wrd.mk (IntKind.u32.wrap (E1.v + E3.v)))).set d.toNat (Wrd.mk R11)))]) ?_ (fun _ X15 => ?_)
    · refine TW.draw (isH := []) hMix ?_
      refine TA.y (listed' := #[true, false, false, false, false, false, false, false, false, false, false, false, false, false, false, false, false]) 0 [] rfl (Y.move rfl) rfl rfl rfl (by kernel_rfl) (by kernel_rfl) (by kernel_rfl) rfl rfl ?_
      refine TA.y (listed' := #[true, true, false, false, false, false, false, false, false, false, false, false, false, false, false, false, false]) 1 [] rfl (Y.move rfl) rfl rfl rfl (by kernel_rfl) (by kernel_rfl) (by kernel_rfl) rfl rfl ?_
      refine TA.y (listed' := #[true, true, true, false, false, false, false, false, false, false, false, false, false, false, false, false, false]) 2 [] rfl (Y.move rfl) rfl rfl rfl (by kernel_rfl) (by kernel_rfl) (by kernel_rfl) rfl rfl ?_
      refine TA.y (listed' := #[true, true, true, true, false, false, false, false, false, false, false, false, false, false, false, false, false]) 3 [] rfl (Y.move rfl) rfl rfl rfl (by kernel_rfl) (by kernel_rfl) (by kernel_rfl) rfl rfl ?_
      refine TA.y (listed' := #[true, true, true, true, true, false, false, false, false, false, false, false, false, false, false, false, false]) 4 [] rfl (Y.nilCheck rfl) rfl rfl rfl (by kernel_rfl) (by kernel_rfl) (by kernel_rfl) rfl rfl ?_
      refine TA.y (listed' := #[true, true, true, true, true, false, false, true, false, false, false, false, false, false, false, false, false]) 7 [] rfl (Y.move rfl) rfl rfl rfl (by kernel_rfl) (by kernel_rfl) (by kernel_rfl) rfl rfl ?_
      refine TA.y (listed' := #[true, true, true, true, true, false, false, true, true, false, false, false, false, false, false, false, false]) 8 [] rfl (Y.move rfl) rfl rfl rfl (by kernel_rfl) (by kernel_rfl) (by kernel_rfl) rfl rfl ?_
      refine TA.y (listed' := #[true, true, true, true, true, false, false, true, true, true, false, false, false, false, false, false, false]) 9 [] rfl (Y.nilCheck rfl) rfl rfl rfl (by kernel_rfl) (by kernel_rfl) (by kernel_rfl) rfl rfl ?_
      refine TA.y (listed' := #[true, true, true, true, true, false, false, true, true, true, false, false, false, false, true, false, false]) 14 [] rfl (Y.nilCheck rfl) rfl rfl rfl (by kernel_rfl) (by kernel_rfl) (by kernel_rfl) rfl rfl ?_
      refine TA.two 5 10 (by kernel_rfl) ?_ ?_
      · refine TX.y (listed' := #[true, true, true, true, true, true, false, true, true, true, false, false, false, false, true, false, false]) [] rfl (Y.index_arr (α := Wrd) ka79 (Can.own 0 rfl) H8 rfl rfl) rfl rfl rfl rfl rfl ?_
        refine TA.two 6 10 (by kernel_rfl) ?_ ?_
        · refine TX.y (listed' := #[true, true, true, true, true, true, true, true, true, true, false, false, false, false, true, false, false]) [] rfl (Y.load_el (us := [.int .u32 E7.v]) (u := .int .u32 E7.v) kk78 rfl (Can.own 0 rfl) (idx_get H8).2.2 rfl rfl rfl rfl rfl) rfl rfl rfl rfl rfl ?_
          refine TA.one 10 (by kernel_rfl) ?_
          refine TX.y (listed' := #[true, true, true, true, true, true, true, true, true, true, true, false, false, false, true, false, false]) [] rfl (Y.index_arr (α := Wrd) ka79 (Can.own 0 rfl) H10 rfl rfl) rfl rfl rfl rfl rfl ?_
          refine TA.one 11 (by kernel_rfl) ?_
          refine TX.y (listed' := #[true, true, true, true, true, true, true, true, true, true, true, true, false, false, true, false, false]) [] rfl (Y.load_el (us := [.int .u32 E9.v]) (u := .int .u32 E9.v) kk78 rfl (Can.own 0 rfl) (idx_get H10).2.2 rfl rfl rfl rfl rfl) rfl rfl rfl rfl rfl ?_
          refine TA.y (listed' := #[true, true, true, true, true, true, true, true, true, true, true, true, true, false, true, false, false]) 12 [] rfl (Y.xor rfl rfl) rfl rfl rfl (by kernel_rfl) (by kernel_rfl) (by kernel_rfl) rfl rfl ?_
          refine TA.one 13 (by kernel_rfl) ?_
          refine TX.ef (listed' := #[true, true, true, true, true, true, true, true, true, true, true, true, true, true, true, false, false]) [] rfl (Ef.call (rest := [.own (arrS B_w_ 16) (lc (w_.set a.toNat (Wrd.mk (IntKind.u32.wrap (E1.v + E3.v)))))]) [0] (math_bits_RotateLeft32_con (ixor .u32 E7.v E9.v) (16 : Int)  R11 H12) kc61 rfl rfl trivial) rfl rfl rfl rfl (fun _ => rfl) (fun _ => ?_)
          refine TA.one 15 (by kernel_rfl) ?_
          refine TX.y (listed' := #[true, true, true, true, true, true, true, true, true, true, true, true, true, true, true, true, false]) [] rfl (Y.index_arr (α := Wrd) ka79 (Can.own 0 rfl) H8 rfl rfl) rfl rfl rfl rfl rfl ?_
          refine TA.one 16 (by kernel_rfl) ?_
          refine TX.ef0 (listed' := #[true, true, true, true, true, true, true, true, true, true, true, true, true, true, true, true, true]) [] rfl (Ef.store_el (us := [.int .u32 R11]) (is' := [.own (arrS B_w_ 16) (lc ((w_.set a.toNat (Wrd.mk (IntKind.u32.wrap (E1.v + E3.v)))).set d.toNat (Wrd.mk R11)))]) (Wrd.mk R11) 0 kk78 rfl rfl (idx_get H8).2.2 rfl rfl (Cel.plain rfl rfl) rfl rfl rfl rfl) rfl rfl rfl (fun _ => rfl) (fun _ => ?_)
          refine TA.nil (by kernel_rfl) ?_
          exact TE.jb_go () [0] ⟨rfl, rfl, rfl, rfl, rfl, trivial⟩ rfl
        · refine TX.y (listed' := #[true, true, true, true, true, true, false, true, true, true, true, false, false, false, true, false, false]) [] rfl (Y.index_arr (α := Wrd) ka79 (Can.own 0 rfl) H10 rfl rfl) rfl rfl rfl rfl rfl ?_
          refine TA.two 6 11 (by kernel_rfl) ?_ ?_
          · refine TX.y (listed' := #[true, true, true, true, true, true, true, true, true, true, true, false, false, false, true, false, false]) [] rfl (Y.load_el (us := [.int .u32 E7.v]) (u := .int .u32 E7.v) kk78 rfl (Can.own 0 rfl) (idx_get H8).2.2 rfl rfl rfl rfl rfl) rfl rfl rfl rfl rfl ?_
            refine TA.one 11 (by kernel_rfl) ?_
            refine TX.y (listed' := #[true, true, true, true, true, true, true, true, true, true, true, true, false, false, true, false, false]) [] rfl (Y.load_el (us := [.int .u32 E9.v]) (u := .int .u32 E9.v) kk78 rfl (Can.own 0 rfl) (idx_get H10).2.2 rfl rfl rfl rfl rfl) rfl rfl rfl rfl rfl ?_
            refine TA.y (listed' := #[true, true, true, true, true, true, true, true, true, true, true, true, true, false, true, false, false]) 12 [] rfl (Y.xor rfl rfl) rfl rfl rfl (by kernel_rfl) (by kernel_rfl) (by kernel_rfl) rfl rfl ?_
            refine TA.one 13 (by kernel_rfl) ?_
            refine TX.ef (listed' := #[true, true, true, true, true, true, true, true, true, true, true, true, true, true, true, false, false]) [] rfl (Ef.call (rest := [.own (arrS B_w_ 16) (lc (w_.set a.toNat (Wrd.mk (IntKind.u32.wrap (E1.v + E3.v)))))]) [0] (math_bits_RotateLeft32_con (ixor .u32 E7.v E9.v) (16 : Int)  R11 H12) kc61 rfl rfl trivial) rfl rfl rfl rfl (fun _ => rfl) (fun _ => ?_)
            refine TA.one 15 (by kernel_rfl) ?_
            refine TX.y (listed' := #[true, true, true, true, true, true, true, true, true, true, true, true, true, true, true, true, false]) [] rfl (Y.index_arr (α := Wrd) ka79 (Can.own 0 rfl) H8 rfl rfl) rfl rfl rfl rfl rfl ?_
            refine TA.one 16 (by kernel_rfl) ?_
            refine TX.ef0 (listed' := #[true, true, true, true, true, true, true, true, true, true, true, true, true, true, true, true, true]) [] rfl (Ef.store_el (us := [.int .u32 R11]) (is' := [.own (arrS B_w_ 16) (lc ((w_.set a.toNat (Wrd.mk (IntKind.u32.wrap (E1.v + E3.v)))).set d.toNat (Wrd.mk R11)))]) (Wrd.mk R11) 0 kk78 rfl rfl (idx_get H8).2.2 rfl rfl (Cel.plain rfl rfl) rfl rfl rfl rfl) rfl rfl rfl (fun _ => rfl) (fun _ => ?_)
            refine TA.nil (by kernel_rfl) ?_
            exact TE.jb_go () [0] ⟨rfl, rfl, rfl, rfl, rfl, trivial⟩ rfl
          · refine TX.y (listed' := #[true, true, true, true, true, true, false, true, true, true, true, true, false, false, true, false, false]) [] rfl (Y.load_el (us := [.int .u32 E9.v]) (u := .int .u32 E9.v) kk78 rfl (Can.own 0 rfl) (idx_get H10).2.2 rfl rfl rfl rfl rfl) rfl rfl rfl rfl rfl ?_
            refine TA.one 6 (by kernel_rfl) ?_
            refine TX.y (listed' := #[true, true, true, true, true, true, true, true, true, true, true, true, false, false, true, false, false]) [] rfl (Y.load_el (us := [.int .u32 E7.v]) (u := .int .u32 E7.v) kk78 rfl (Can.own 0 rfl) (idx_get H8).2.2 rfl rfl rfl rfl rfl) rfl rfl rfl rfl rfl ?_
            refine TA.y (listed' := #[true, true, true, true, true, true, true, true, true, true, true, true, true, false, true, false, false]) 12 [] rfl (Y.xor rfl rfl) rfl rfl rfl (by kernel_rfl) (by kernel_rfl) (by kernel_rfl) rfl rfl ?_
            refine TA.one 13 (by kernel_rfl) ?_
            refine TX.ef (listed' := #[true, true, true, true, true, true, true, true, true, true, true, true, true, true, true, false, false]) [] rfl (Ef.call (rest := [.own (arrS B_w_ 16) (lc (w_.set a.toNat (Wrd.mk (IntKind.u32.wrap (E1.v + E3.v)))))]) [0] (math_bits_RotateLeft32_con (ixor .u32 E7.v E9.v) (16 : Int)  R11 H12) kc61 rfl rfl trivial) rfl rfl rfl rfl (fun _ => rfl) (fun _ => ?_)
            refine TA.one 15 (by kernel_rfl) ?_
            refine TX.y (listed' := #[true, true, true, true, true, true, true, true, true, true, true, true, true, true, true, true, false]) [] rfl (Y.index_arr (α := Wrd) ka79 (Can.own 0 rfl) H8 rfl rfl) rfl rfl rfl rfl rfl ?_
            refine TA.one 16 (by kernel_rfl) ?_
            refine TX.ef0 (listed' := #[true, true, true, true, true, true, true, true, true, true, true, true, true, true, true, true, true]) [] rfl (Ef.store_el (us := [.int .u32 R11]) (is' := [.own (arrS B_w_ 16) (lc ((w_.set a.toNat (Wrd.mk (IntKind.u32.wrap (E1.v + E3.v)))).set d.toNat (Wrd.mk R11)))]) (Wrd.mk R11) 0 kk78 rfl rfl (idx_get H8).2.2 rfl rfl (Cel.plain rfl rfl) rfl rfl rfl rfl) rfl rfl rfl (fun _ => rfl) (fun _ => ?_)
            refine TA.nil (by kernel_rfl) ?_
            exact TE.jb_go () [0] ⟨rfl, rfl, rfl, rfl, rfl, trivial⟩ rfl
      · refine TX.y (listed' := #[true, true, true, true, true, false, false, true, true, true, true, false, false, false, true, false, false]) [] rfl (Y.index_arr (α := Wrd) ka79 (Can.own 0 rfl) H10 rfl rfl) rfl rfl rfl rfl rfl ?_
        refine TA.two 5 11 (by kernel_rfl) ?_ ?_
        · refine TX.y (listed' := #[true, true, true, true, true, true, false, true, true, true, true, false, false, false, true, false, false]) [] rfl (Y.index_arr (α := Wrd) ka79 (Can.own 0 rfl) H8 rfl rfl) rfl rfl rfl rfl rfl ?_
          refine TA.two 6 11 (by kernel_rfl) ?_ ?_
          · refine TX.y (listed' := #[true, true, true, true, true, true, true, true, true, true, true, false, false, false, true, false, false]) [] rfl (Y.load_el (us := [.int .u32 E7.v]) (u := .int .u32 E7.v) kk78 rfl (Can.own 0 rfl) (idx_get H8).2.2 rfl rfl rfl rfl rfl) rfl rfl rfl rfl rfl ?_
            refine TA.one 11 (by kernel_rfl) ?_
            refine TX.y (listed' := #[true, true, true, true, true, true, true, true, true, true, true, true, false, false, true, false, false]) [] rfl (Y.load_el (us := [.int .u32 E9.v]) (u := .int .u32 E9.v) kk78 rfl (Can.own 0 rfl) (idx_get H10).2.2 rfl rfl rfl rfl rfl) rfl rfl rfl rfl rfl ?_
            refine TA.y (listed' := #[true, true, true, true, true, true, true, true, true, true, true, true, true, false, true, false, false]) 12 [] rfl (Y.xor rfl rfl) rfl rfl rfl (by kernel_rfl) (by kernel_rfl) (by kernel_rfl) rfl rfl ?_
            refine TA.one 13 (by kernel_rfl) ?_
            refine TX.ef (listed' := #[true, true, true, true, true, true, true, true, true, true, true, true, true, true, true, false, false]) [] rfl (Ef.call (rest := [.own (arrS B_w_ 16) (lc (w_.set a.toNat (Wrd.mk (IntKind.u32.wrap (E1.v + E3.v)))))]) [0] (math_bits_RotateLeft32_con (ixor .u32 E7.v E9.v) (16 : Int)  R11 H12) kc61 rfl rfl trivial) rfl rfl rfl rfl (fun _ => rfl) (fun _ => ?_)
            refine TA.one 15 (by kernel_rfl) ?_
            refine TX.y (listed' := #[true, true, true, true, true, true, true, true, true, true, true, true, true, true, true, true, false]) [] rfl (Y.index_arr (α := Wrd) ka79 (Can.own 0 rfl) H8 rfl rfl) rfl rfl rfl rfl rfl ?_
            refine TA.one 16 (by kernel_rfl) ?_
            refine TX.ef0 (listed' := #[true, true, true, true, true, true, true, true, true, true, true, true, true, true, true, true, true]) [] rfl (Ef.store_el (us := [.int .u32 R11]) (is' := [.own (arrS B_w_ 16) (lc ((w_.set a.toNat (Wrd.mk (IntKind.u32.wrap (E1.v + E3.v)))).set d.toNat (Wrd.mk R11)))]) (Wrd.mk R11) 0 kk78 rfl rfl (idx_get H8).2.2 rfl rfl (Cel.plain rfl rfl) rfl rfl rfl rfl) rfl rfl rfl (fun _ => rfl) (fun _ => ?_)
            refine TA.nil (by kernel_rfl) ?_
            exact TE.jb_go () [0] ⟨rfl, rfl, rfl, rfl, rfl, trivial⟩ rfl
          · refine TX.y (listed' := #[true, true, true, true, true, true, false, true, true, true, true, true, false, false, true, false, false]) [] rfl (Y.load_el (us := [.int .u32 E9.v]) (u := .int .u32 E9.v) kk78 rfl (Can.own 0 rfl) (idx_get H10).2.2 rfl rfl rfl rfl rfl) rfl rfl rfl rfl rfl ?_
            refine TA.one 6 (by kernel_rfl) ?_
            refine TX.y (listed' := #[true, true, true, true, true, true, true, true, true, true, true, true, false, false, true, false, false]) [] rfl (Y.load_el (us := [.int .u32 E7.v]) (u := .int .u32 E7.v) kk78 rfl (Can.own 0 rfl) (idx_get H8).2.2 rfl rfl rfl rfl rfl) rfl rfl rfl rfl rfl ?_
            refine TA.y (listed' := #[true, true, true, true, true, true, true, true, true, true, true, true, true, false, true, false, false]) 12 [] rfl (Y.xor rfl rfl) rfl rfl rfl (by kernel_rfl) (by kernel_rfl) (by kernel_rfl) rfl rfl ?_
            refine TA.one 13 (by kernel_rfl) ?_
            refine TX.ef (listed' := #[true, true, true, true, true, true, true, true, true, true, true, true, true, true, true, false, false]) [] rfl (Ef.call (rest := [.own (arrS B_w_ 16) (lc (w_.set a.toNat (Wrd.mk (IntKind.u32.wrap (E1.v + E3.v)))))]) [0] (math_bits_RotateLeft32_con (ixor .u32 E7.v E9.v) (16 : Int)  R11 H12) kc61 rfl rfl trivial) rfl rfl rfl rfl (fun _ => rfl) (fun _ => ?_)
            refine TA.one 15 (by kernel_rfl) ?_
            refine TX.y (listed' := #[true, true, true, true, true, true, true, true, true, true, true, true, true, true, true, true, false]) [] rfl (Y.index_arr (α := Wrd) ka79 (Can.own 0 rfl) H8 rfl rfl) rfl rfl rfl rfl rfl ?_
            refine TA.one 16 (by kernel_rfl) ?_
            refine TX.ef0 (listed' := #[true, true, true, true, true, true, true, true, true, true, true, true, true, true, true, true, true]) [] rfl (Ef.store_el (us := [.int .u32 R11]) (is' := [.own (arrS B_w_ 16) (lc ((w_.set a.toNat (Wrd.mk (IntKind.u32.wrap (E1.v + E3.v)))).set d.toNat (Wrd.mk R11)))]) (Wrd.mk R11) 0 kk78 rfl rfl (idx_get H8).2.2 rfl rfl (Cel.plain rfl rfl) rfl rfl rfl rfl) rfl rfl rfl (fun _ => rfl) (fun _ => ?_)
            refine TA.nil (by kernel_rfl) ?_
            exact TE.jb_go () [0] ⟨rfl, rfl, rfl, rfl, rfl, trivial⟩ rfl
        · refine TX.y (listed' := #[true, true, true, true, true, false, false, true, true, true, true, true, false, false, true, false, false]) [] rfl (Y.load_el (us := [.int .u32 E9.v]) (u := .int .u32 E9.v) kk78 rfl (Can.own 0 rfl) (idx_get H10).2.2 rfl rfl rfl rfl rfl) rfl rfl rfl rfl rfl ?_
          refine TA.one 5 (by kernel_rfl) ?_
          refine TX.y (listed' := #[true, true, true, true, true, true, false, true, true, true, true, true, false, false, true, false, false]) [] rfl (Y.index_arr (α := Wrd) ka79 (Can.own 0 rfl) H8 rfl rfl) rfl rfl rfl rfl rfl ?_
          refine TA.one 6 (by kernel_rfl) ?_
          refine TX.y (listed' := #[true, true, true, true, true, true, true, true, true, true, true, true, false, false, true, false, false]) [] rfl (Y.load_el (us := [.int .u32 E7.v]) (u := .int .u32 E7.v) kk78 rfl (Can.own 0 rfl) (idx_get H8).2.2 rfl rfl rfl rfl rfl) rfl rfl rfl rfl rfl ?_
          refine TA.y (listed' := #[true, true, true, true, true, true, true, true, true, true, true, true, true, false, true, false, false]) 12 [] rfl (Y.xor rfl rfl) rfl rfl rfl (by kernel_rfl) (by kernel_rfl) (by kernel_rfl) rfl rfl ?_
          refine TA.one 13 (by kernel_rfl) ?_
          refine TX.ef (listed' := #[true, true, true, true, true, true, true, true, true, true, true, true, true, true, true, false, false]) [] rfl (Ef.call (rest := [.own (arrS B_w_ 16) (lc (w_.set a.toNat (Wrd.mk (IntKind.u32.wrap (E1.v + E3.v)))))]) [0] (math_bits_RotateLeft32_con (ixor .u32 E7.v E9.v) (16 : Int)  R11 H12) kc61 rfl rfl trivial) rfl rfl rfl rfl (fun _ => rfl) (fun _ => ?_)
          refine TA.one 15 (by kernel_rfl) ?_
          refine TX.y (listed' := #[true, true, true, true, true, true, true, true, true, true, true, true, true, true, true, true, false]) [] rfl (Y.index_arr (α := Wrd) ka79 (Can.own 0 rfl) H8 rfl rfl) rfl rfl rfl rfl rfl ?_
          refine TA.one 16 (by kernel_rfl) ?_
          refine TX.ef0 (listed' := #[true, true, true, true, true, true, true, true, true, true, true, true, true, true, true, true, true]) [] rfl (Ef.store_el (us := [.int .u32 R11]) (is' := [.own (arrS B_w_ 16) (lc ((w_.set a.toNat (Wrd.mk (IntKind.u32.wrap (E1.v + E3.v)))).set d.toNat (Wrd.mk R11)))]) (Wrd.mk R11) 0 kk78 rfl rfl (idx_get H8).2.2 rfl rfl (Cel.plain rfl rfl) rfl rfl rfl rfl) rfl rfl rfl (fun _ => rfl) (fun _ => ?_)
          refine TA.nil (by kernel_rfl) ?_
          exact TE.jb_go () [0] ⟨rfl, rfl, rfl, rfl, rfl, trivial⟩ rfl
    · refine TE.next ?_
      refine TW.seq ?_
      refine TW.bind fun E16 H17 => ?_
      refine TW.bind fun E18 H19 => ?_
      refine TW.joinU (X := Unit) (fun _ _ => [(0, .pointer (some ⟨B_w_, 0, none⟩)), (1, .int .i64 a), (2, .int .i64 b), (3, .int .i64 c), (4, .int .i64 d)]) (fun _ _ => [.own (arrS B_w_ 16) (lc (((w_.set a.toNat (Wrd.mk (IntKind.u32.wrap (E1.v + E3.v)))).set d.toNat (Wrd.mk R11)).set c.toNat (Wrd.mk (IntKind.u32.wrap (E16.v + E18.v)))))]) ?_ (fun _ X21 => ?_)
      · refine TW.draw (isH := []) hMix ?_
        refine TA.y (listed' := #[true, false, false, false, false, false, false, false, false, false, false, false, false, false]) 0 [] rfl (Y.move rfl) rfl rfl rfl (by kernel_rfl) (by kernel_rfl) (by kernel_rfl) rfl rfl ?_
        refine TA.y (listed' := #[true, true, false, false, false, false, false, false, false, false, false, false, false, false]) 1 [] rfl (Y.move rfl) rfl rfl rfl (by kernel_rfl) (by kernel_rfl) (by kernel_rfl) rfl rfl ?_
        refine TA.y (listed' := #[true, true, true, false, false, false, false, false, false, false, false, false, false, false]) 2 [] rfl (Y.nilCheck rfl) rfl rfl rfl (by kernel_rfl) (by kernel_rfl) (by kernel_rfl) rfl rfl ?_
        refine TA.y (listed' := #[true, true, true, false, false, true, false, false, false, false, false, false, false, false]) 5 [] rfl (Y.move rfl) rfl rfl rfl (by kernel_rfl) (by kernel_rfl) (by kernel_rfl) rfl rfl ?_
        refine TA.y (listed' := #[true, true, true, false, false, true, true, false, false, false, false, false, false, false]) 6 [] rfl (Y.move rfl) rfl rfl rfl (by kernel_rfl) (by kernel_rfl) (by kernel_rfl) rfl rfl ?_
        refine TA.y (listed' := #[true, true, true, false, false, true, true, true, false, false, false, false, false, false]) 7 [] rfl (Y.nilCheck rfl) rfl rfl rfl (by kernel_rfl) (by kernel_rfl) (by kernel_rfl) rfl rfl ?_
        refine TA.y (listed' := #[true, true, true, false, false, true, true, true, false, false, false, true, false, false]) 11 [] rfl (Y.nilCheck rfl) rfl rfl rfl (by kernel_rfl) (by kernel_rfl) (by kernel_rfl) rfl rfl ?_
        refine TA.two 3 8 (by kernel_rfl) ?_ ?_
        · refine TX.y (listed' := #[true, true, true, true, false, true, true, true, false, false, false, true, false, false]) [] rfl (Y.index_arr (α := Wrd) ka79 (Can.own 0 rfl) H17 rfl rfl) rfl rfl rfl rfl rfl ?_
          refine TA.two 4 8 (by kernel_rfl) ?_ ?_
          · refine TX.y (listed' := #[true, true, true, true, true, true, true, true, false, false, false, true, false, false]) [] rfl (Y.load_el (us := [.int .u32 E16.v]) (u := .int .u32 E16.v) kk78 rfl (Can.own 0 rfl) (idx_get H17).2.2 rfl rfl rfl rfl rfl) rfl rfl rfl rfl rfl ?_
            refine TA.one 8 (by kernel_rfl) ?_
            refine TX.y (listed' := #[true, true, true, true, true, true, true, true, true, false, false, true, false, false]) [] rfl (Y.index_arr (α := Wrd) ka79 (Can.own 0 rfl) H19 rfl rfl) rfl rfl rfl rfl rfl ?_
            refine TA.one 9 (by kernel_rfl) ?_
            refine TX.y (listed' := #[true, true, true, true, true, true, true, true, true, true, false, true, false, false]) [] rfl (Y.load_el (us := [.int .u32 E18.v]) (u := .int .u32 E18.v) kk78 rfl (Can.own 0 rfl) (idx_get H19).2.2 rfl rfl rfl rfl rfl) rfl rfl rfl rfl rfl ?_
            refine TA.y (listed' := #[true, true, true, true, true, true, true, true, true, true, true, true, false, false]) 10 [] rfl (Y.add rfl rfl) rfl rfl rfl (by kernel_rfl) (by kernel_rfl) (by kernel_rfl) rfl rfl ?_
            refine TA.one 12 (by kernel_rfl) ?_
            refine TX.y (listed' := #[true, true, true, true, true, true, true, true, true, true, true, true, true, false]) [] rfl (Y.index_arr (α := Wrd) ka79 (Can.own 0 rfl) H17 rfl rfl) rfl rfl rfl rfl rfl ?_
            refine TA.one 13 (by kernel_rfl) ?_
            refine TX.ef0 (listed' := #[true, true, true, true, true, true, true, true, true, true, true, true, true, true]) [] rfl (Ef.store_el (us := [.int .u32 (IntKind.u32.wrap (E16.v + E18.v))]) (is' := [.own (arrS B_w_ 16) (lc (((w_.set a.toNat (Wrd.mk (IntKind.u32.wrap (E1.v + E3.v)))).set d.toNat (Wrd.mk R11)).set c.toNat (Wrd.mk (IntKind.u32.wrap (E16.v + E18.v)))))]) (Wrd.mk (IntKind.u32.wrap (E16.v + E18.v))) 0 kk78 rfl rfl (idx_get H17).2.2 rfl rfl (Cel.plain rfl rfl) rfl rfl rfl rfl) rfl rfl rfl (fun _ => rfl) (fun _ => ?_)
            refine TA.nil (by kernel_rfl) ?_
            exact TE.jb_go () [0] ⟨rfl, rfl, rfl, rfl, rfl, trivial⟩ rfl
          · refine TX.y (listed' := #[true, true, true, true, false, true, true, true, true, false, false, true, false, false]) [] rfl (Y.index_arr (α := Wrd) ka79 (Can.own 0 rfl) H19 rfl rfl) rfl rfl rfl rfl rfl ?_
            refine TA.two 4 9 (by kernel_rfl) ?_ ?_
            · refine TX.y (listed' := #[true, true, true, true, true, true, true, true, true, false, false, true, false, false]) [] rfl (Y.load_el (us := [.int .u32 E16.v]) (u := .int .u32 E16.v) kk78 rfl (Can.own 0 rfl) (idx_get H17).2.2 rfl rfl rfl rfl rfl) rfl rfl rfl rfl rfl ?_
              refine TA.one 9 (by kernel_rfl) ?_
              refine TX.y (listed' := #[true, true, true, true, true, true, true, true, true, true, false, true, false, false]) [] rfl (Y.load_el (us := [.int .u32 E18.v]) (u := .int .u32 E18.v) kk78 rfl (Can.own 0 rfl) (idx_get H19).2.2 rfl rfl rfl rfl rfl) rfl rfl rfl rfl rfl ?_
              refine TA.y (listed' := #[true, true, true, true, true, true, true, true, true, true, true, true, false, false]) 10 [] rfl (Y.add rfl rfl) rfl rfl rfl (by kernel_rfl) (by kernel_rfl) (by kernel_rfl) rfl rfl ?_
              refine TA.one 12 (by kernel_rfl) ?_
              refine TX.y (listed' := #[true, true, true, true, true, true, true, true, true, true, true, true, true, false]) [] rfl (Y.index_arr (α := Wrd) ka79 (Can.own 0 rfl) H17 rfl rfl) rfl rfl rfl rfl rfl ?_
              refine TA.one 13 (by kernel_rfl) ?_
              refine TX.ef0 (listed' := #[true, true, true, true, true, true, true, true, true, true, true, true, true, true]) [] rfl (Ef.store_el (us := [.int .u32 (IntKind.u32.wrap (E16.v + E18.v))]) (is' := [.own (arrS B_w_ 16) (lc (((w_.set a.toNat (Wrd.mk (IntKind.u32.wrap (E1.v + E3.v)))).set d.toNat (Wrd.mk R11)).set c.toNat (Wrd.mk (IntKind.u32.wrap (E16.v + E18.v)))))]) (Wrd.mk (IntKind.u32.wrap (E16.v + E18.v))) 0 kk78 rfl rfl (idx_get H17).2.2 rfl rfl (Cel.plain rfl rfl) rfl rfl rfl rfl) rfl rfl rfl (fun _ => rfl) (fun _ => ?_)
              refine TA.nil (by kernel_rfl) ?_
              exact TE.jb_go () [0] ⟨rfl, rfl, rfl, rfl, rfl, trivial⟩ rfl
            · refine TX.y (listed' := #[true, true, true, true, false, true, true, true, true, true, false, true, false, false]) [] rfl (Y.load_el (us := [.int .u32 E18.v]) (u := .int .u32 E18.v) kk78 rfl (Can.own 0 rfl) (idx_get H19).2.2 rfl rfl rfl rfl rfl) rfl rfl rfl rfl rfl ?_
              refine TA.one 4 (by kernel_rfl) ?_
              refine TX.y (listed' := #[true, true, true, true, true, true, true, true, true, true, false, true, false, false]) [] rfl (Y.load_el (us := [.int .u32 E16.v]) (u := .int .u32 E16.v) kk78 rfl (Can.own 0 rfl) (idx_get H17).2.2 rfl rfl rfl rfl rfl) rfl rfl rfl rfl rfl ?_
              refine TA.y (listed' := #[true, true, true, true, true, true, true, true, true, true, true, true, false, false]) 10 [] rfl (Y.add rfl rfl) rfl rfl rfl (by kernel_rfl) (by kernel_rfl) (by kernel_rfl) rfl rfl ?_
              refine TA.one 12 (by kernel_rfl) ?_
              refine TX.y (listed' := #[true, true, true, true, true, true, true, true, true, true, true, true, true, false]) [] rfl (Y.index_arr (α := Wrd) ka79 (Can.own 0 rfl) H17 rfl rfl) rfl rfl rfl rfl rfl ?_
              refine TA.one 13 (by kernel_rfl) ?_
              refine TX.ef0 (listed' := #[true, true, true, true, true, true, true, true, true, true, true, true, true, true]) [] rfl (Ef.store_el (us := [.int .u32 (IntKind.u32.wrap (E16.v + E18.v))]) (is' := [.own (arrS B_w_ 16) (lc (((w_.set a.toNat (Wrd.mk (IntKind.u32.wrap (E1.v + E3.v)))).set d.toNat (Wrd.mk R11)).set c.toNat (Wrd.mk (IntKind.u32.wrap (E16.v + E18.v)))))]) (Wrd.mk (IntKind.u32.wrap (E16.v + E18.v))) 0 kk78 rfl rfl (idx_get H17).2.2 rfl rfl (Cel.plain rfl rfl) rfl rfl rfl rfl) rfl rfl rfl (fun _ => rfl) (fun _ => ?_)
              refine TA.nil (by kernel_rfl) ?_
              exact TE.jb_go () [0] ⟨rfl, rfl, rfl, rfl, rfl, trivial⟩ rfl
        · refine TX.y (listed' := #[true, true, true, false, false, true, true, true, true, false, false, true, false, false]) [] rfl (Y.index_arr (α := Wrd) ka79 (Can.own 0 rfl) H19 rfl rfl) rfl rfl rfl rfl rfl ?_
          refine TA.two 3 9 (by kernel_rfl) ?_ ?_
          · refine TX.y (listed' := #[true, true, true, true, false, true, true, true, true, false, false, true, false, false]) [] rfl (Y.index_arr (α := Wrd) ka79 (Can.own 0 rfl) H17 rfl rfl) rfl rfl rfl rfl rfl ?_
            refine TA.two 4 9 (by kernel_rfl) ?_ ?_
            · refine TX.y (listed' := #[true, true, true, true, true, true, true, true, true, false, false, true, false, false]) [] rfl (Y.load_el (us := [.int .u32 E16.v]) (u := .int .u32 E16.v) kk78 rfl (Can.own 0 rfl) (idx_get H17).2.2 rfl rfl rfl rfl rfl) rfl rfl rfl rfl rfl ?_
              refine TA.one 9 (by kernel_rfl) ?_
              refine TX.y (listed' := #[true, true, true, true, true, true, true, true, true, true, false, true, false, false]) [] rfl (Y.load_el (us := [.int .u32 E18.v]) (u := .int .u32 E18.v) kk78 rfl (Can.own 0 rfl) (idx_get H19).2.2 rfl rfl rfl rfl rfl) rfl rfl rfl rfl rfl ?_
              refine TA.y (listed' := #[true, true, true, true, true, true, true, true, true, true, true, true, false, false]) 10 [] rfl (Y.add rfl rfl) rfl rfl rfl (by kernel_rfl) (by kernel_rfl) (by kernel_rfl) rfl rfl ?_
              refine TA.one 12 (by kernel_rfl) ?_
              refine TX.y (listed' := #[true, true, true, true, true, true, true, true, true, true, true, true, true, false]) [] rfl (Y.index_arr (α := Wrd) ka79 (Can.own 0 rfl) H17 rfl rfl) rfl rfl rfl rfl rfl ?_
              refine TA.one 13 (by kernel_rfl) ?_
              refine TX.ef0 (listed' := #[true, true, true, true, true, true, true, true, true, true, true, true, true, true]) [] rfl (Ef.store_el (us := [.int .u32 (IntKind.u32.wrap (E16.v + E18.v))]) (is' := [.own (arrS B_w_ 16) (lc (((w_.set a.toNat (Wrd.mk (IntKind.u32.wrap (E1.v + E3.v)))).set d.toNat (Wrd.mk R11)).set c.toNat (Wrd.mk (IntKind.u32.wrap (E16.v + E18.v)))))]) (Wrd.mk (IntKind.u32.wrap (E16.v + E18.v))) 0 kk78 rfl rfl (idx_get H17).2.2 rfl rfl (Cel.plain rfl rfl) rfl rfl rfl rfl) rfl rfl rfl (fun _ => rfl) (fun _ => ?_)
              refine TA.nil (by kernel_rfl) ?_
              exact TE.jb_go () [0] ⟨rfl, rfl, rfl, rfl, rfl, trivial⟩ rfl
            · refine TX.y (listed' := #[true, true, true, true, false, true, true, true, true, true, false, true, false, false]) [] rfl (Y.load_el (us := [.int .u32 E18.v]) (u := .int .u32 E18.v) kk78 rfl (Can.own 0 rfl) (idx_get H19).2.2 rfl rfl rfl rfl rfl) rfl rfl rfl rfl rfl ?_
              refine TA.one 4 (by kernel_rfl) ?_
              refine TX.y (listed' := #[true, true, true, true, true, true, true, true, true, true, false, true, false, false]) [] rfl (Y.load_el (us := [.int .u32 E16.v]) (u := .int .u32 E16.v) kk78 rfl (Can.own 0 rfl) (idx_get H17).2.2 rfl rfl rfl rfl rfl) rfl rfl rfl rfl rfl ?_
              refine TA.y (listed' := #[true, true, true, true, true, true, true, true, true, true, true, true, false, false]) 10 [] rfl (Y.add rfl rfl) rfl rfl rfl (by kernel_rfl) (by kernel_rfl) (by kernel_rfl) rfl rfl ?_
              refine TA.one 12 (by kernel_rfl) ?_
              refine TX.y (listed' := #[true, true, true, true, true, true, true, true, true, true, true, true, true, false]) [] rfl (Y.index_arr (α := Wrd) ka79 (Can.own 0 rfl) H17 rfl rfl) rfl rfl rfl rfl rfl ?_
              refine TA.one 13 (by kernel_rfl) ?_
              refine TX.ef0 (listed' := #[true, true, true, true, true, true, true, true, true, true, true, true, true, true]) [] rfl (Ef.store_el (us := [.int .u32 (IntKind.u32.wrap (E16.v + E18.v))]) (is' := [.own (arrS B_w_ 16) (lc (((w_.set a.toNat (Wrd.mk (IntKind.u32.wrap (E1.v + E3.v)))).set d.toNat (Wrd.mk R11)).set c.toNat (Wrd.mk (IntKind.u32.wrap (E16.v + E18.v)))))]) (Wrd.mk (IntKind.u32.wrap (E16.v + E18.v))) 0 kk78 rfl rfl (idx_get H17).2.2 rfl rfl (Cel.plain rfl rfl) rfl rfl rfl rfl) rfl rfl rfl (fun _ => rfl) (fun _ => ?_)
              refine TA.nil (by kernel_rfl) ?_
              exact TE.jb_go () [0] ⟨rfl, rfl, rfl, rfl, rfl, trivial⟩ rfl
          · refine TX.y (listed' := #[true, true, true, false, false, true, true, true, true, true, false, true, false, false]) [] rfl (Y.load_el (us := [.int .u32 E18.v]) (u := .int .u32 E18.v) kk78 rfl (Can.own 0 rfl) (idx_get H19).2.2 rfl rfl rfl rfl rfl) rfl rfl rfl rfl rfl ?_
            refine TA.one 3 (by kernel_rfl) ?_
            refine TX.y (listed' := #[true, true, true, true, false, true, true, true, true, true, false, true, false, false]) [] rfl (Y.index_arr (α := Wrd) ka79 (Can.own 0 rfl) H17 rfl rfl) rfl rfl rfl rfl rfl ?_
            refine TA.one 4 (by kernel_rfl) ?_
            refine TX.y (listed' := #[true, true, true, true, true, true, true, true, true, true, false, true, false, false]) [] rfl (Y.load_el (us := [.int .u32 E16.v]) (u := .int .u32 E16.v) kk78 rfl (Can.own 0 rfl) (idx_get H17).2.2 rfl rfl rfl rfl rfl) rfl rfl rfl rfl rfl ?_
            refine TA.y (listed' := #[true, true, true, true, true, true, true, true, true, true, true, true, false, false]) 10 [] rfl (Y.add rfl rfl) rfl rfl rfl (by kernel_rfl) (by kernel_rfl) (by kernel_rfl) rfl rfl ?_
            refine TA.one 12 (by kernel_rfl) ?_
            refine TX.y (listed' := #[true, true, true, true, true, true, true, true, true, true, true, true, true, false]) [] rfl (Y.index_arr (α := Wrd) ka79 (Can.own 0 rfl) H17 rfl rfl) rfl rfl rfl rfl rfl ?_
            refine TA.one 13 (by kernel_rfl) ?_
            refine TX.ef0 (listed' := #[true, true, true, true, true, true, true, true, true, true, true, true, true, true]) [] rfl (Ef.store_el (us := [.int .u32 (IntKind.u32.wrap (E16.v + E18.v))]) (is' := [.own (arrS B_w_ 16) (lc (((w_.set a.toNat (Wrd.mk (IntKind.u32.wrap (E1.v + E3.v)))).set d.toNat (Wrd.mk R11)).set c.toNat (Wrd.mk (IntKind.u32.wrap (E16.v + E18.v)))))]) (Wrd.mk (IntKind.u32.wrap (E16.v + E18.v))) 0 kk78 rfl rfl (idx_get H17).2.2 rfl rfl (Cel.plain rfl rfl) rfl rfl rfl rfl) rfl rfl rfl (fun _ => rfl) (fun _ => ?_)
            refine TA.nil (by kernel_rfl) ?_
            exact TE.jb_go () [0] ⟨rfl, rfl, rfl, rfl, rfl, trivial⟩ rfl
      · refine TE.next ?_
        refine TW.seq ?_
        refine TW.bind fun E22 H23 => ?_
        refine TW.bind fun E24 H25 => ?_
        refine TW.bind fun R26 H27 => ?_
        refine TW.joinU (X := Unit) (fun _ _ => [(0, .pointer (some ⟨B_w_, 0, none⟩)), (1, .int .i64 a), (2, .int .i64 b), (3, .int .i64 c), (4, .int .i64 d)]) (fun _ _ => [.own (arrS B_w_ 16) (lc ((((w_.set a.toNat (Wrd.mk (IntKind.u32.wrap (E1.v + E3.v)))).set d.toNat (Wrd.mk R11)).set c.toNat (Wrd.mk (IntKind.u32.wrap (E16.v + E18.v)))).set b.toNat (Wrd.mk R26)))]) ?_ (fun _ X30 => ?_)
        · refine TW.draw (isH := []) hMix ?_
          refine TA.y (listed' := #[true, false, false, false, false, false, false, false, false, false, false, false, false, false, false, false, false]) 0 [] rfl (Y.move rfl) rfl rfl rfl (by kernel_rfl) (by kernel_rfl) (by kernel_rfl) rfl rfl ?_
          refine TA.y (listed' := #[true, true, false, false, false, false, false, false, false, false, false, false, false, false, false, false, false]) 1 [] rfl (Y.move rfl) rfl rfl rfl (by kernel_rfl) (by kernel_rfl) (by kernel_rfl) rfl rfl ?_
          refine TA.y (listed' := #[true, true, true, false, false, false, false, false, false, false, false, false, false, false, false, false, false]) 2 [] rfl (Y.move rfl) rfl rfl rfl (by kernel_rfl) (by kernel_rfl) (by kernel_rfl) rfl rfl ?_
          refine TA.y (listed' := #[true, true, true, true, false, false, false, false, false, false, false, false, false, false, false, false, false]) 3 [] rfl (Y.move rfl) rfl rfl rfl (by kernel_rfl) (by kernel_rfl) (by kernel_rfl) rfl rfl ?_
          refine TA.y (listed' := #[true, true, true, true, true, false, false, false, false, false, false, false, false, false, false, false, false]) 4 [] rfl (Y.nilCheck rfl) rfl rfl rfl (by kernel_rfl) (by kernel_rfl) (by kernel_rfl) rfl rfl ?_
          refine TA.y (listed' := #[true, true, true, true, true, false, false, true, false, false, false, false, false, false, false, false, false]) 7 [] rfl (Y.move rfl) rfl rfl rfl (by kernel_rfl) (by kernel_rfl) (by kernel_rfl) rfl rfl ?_
          refine TA.y (listed' := #[true, true, true, true, true, false, false, true, true, false, false, false, false, false, false, false, false]) 8 [] rfl (Y.move rfl) rfl rfl rfl (by kernel_rfl) (by kernel_rfl) (by kernel_rfl) rfl rfl ?_
          refine TA.y (listed' := #[true, true, true, true, true, false, false, true, true, true, false, false, false, false, false, false, false]) 9 [] rfl (Y.nilCheck rfl) rfl rfl rfl (by kernel_rfl) (by kernel_rfl) (by kernel_rfl) rfl rfl ?_
          refine TA.y (listed' := #[true, true, true, true, true, false, false, true, true, true, false, false, false, false, true, false, false]) 14 [] rfl (Y.nilCheck rfl) rfl rfl rfl (by kernel_rfl) (by kernel_rfl) (by kernel_rfl) rfl rfl ?_
          refine TA.two 5 10 (by kernel_rfl) ?_ ?_
          · refine TX.y (listed' := #[true, true, true, true, true, true, false, true, true, true, false, false, false, false, true, false, false]) [] rfl (Y.index_arr (α := Wrd) ka79 (Can.own 0 rfl) H23 rfl rfl) rfl rfl rfl rfl rfl ?_
            refine TA.two 6 10 (by kernel_rfl) ?_ ?_
            · refine TX.y (listed' := #[true, true, true, true, true, true, true, true, true, true, false, false, false, false, true, false, false]) [] rfl (Y.load_el (us := [.int .u32 E22.v]) (u := .int .u32 E22.v) kk78 rfl (Can.own 0 rfl) (idx_get H23).2.2 rfl rfl rfl rfl rfl) rfl rfl rfl rfl rfl ?_
              refine TA.one 10 (by kernel_rfl) ?_
              refine TX.y (listed' := #[true, true, true, true, true, true, true, true, true, true, true, false, false, false, true, false, false]) [] rfl (Y.index_arr (α := Wrd) ka79 (Can.own 0 rfl) H25 rfl rfl) rfl rfl rfl rfl rfl ?_
              refine TA.one 11 (by kernel_rfl) ?_
              refine TX.y (listed' := #[true, true, true, true, true, true, true, true, true, true, true, true, false, false, true, false, false]) [] rfl (Y.load_el (us := [.int .u32 E24.v]) (u := .int .u32 E24.v) kk78 rfl (Can.own 0 rfl) (idx_get H25).2.2 rfl rfl rfl rfl rfl) rfl rfl rfl rfl rfl ?_
              refine TA.y (listed' := #[true, true, true, true, true, true, true, true, true, true, true, true, true, false, true, false, false]) 12 [] rfl (Y.xor rfl rfl) rfl rfl rfl (by kernel_rfl) (by kernel_rfl) (by kernel_rfl) rfl rfl ?_
              refine TA.one 13 (by kernel_rfl) ?_
              refine TX.ef (listed' := #[true, true, true, true, true, true, true, true, true, true, true, true, true, true, true, false, false]) [] rfl (Ef.call (rest := [.own (arrS B_w_ 16) (lc (((w_.set a.toNat (Wrd.mk (IntKind.u32.wrap (E1.v + E3.v)))).set d.toNat (Wrd.mk R11)).set c.toNat (Wrd.mk (IntKind.u32.wrap (E16.v + E18.v)))))]) [0] (math_bits_RotateLeft32_con (ixor .u32 E22.v E24.v) (12 : Int)  R26 H27) kc61 rfl rfl trivial) rfl rfl rfl rfl (fun _ => rfl) (fun _ => ?_)
              refine TA.one 15 (by kernel_rfl) ?_
              refine TX.y (listed' := #[true, true, true, true, true, true, true, true, true, true, true, true, true, true, true, true, false]) [] rfl (Y.index_arr (α := Wrd) ka79 (Can.own 0 rfl) H23 rfl rfl) rfl rfl rfl rfl rfl ?_
              refine TA.one 16 (by kernel_rfl) ?_
              refine TX.ef0 (listed' := #[true, true, true, true, true, true, true, true, true, true, true, true, true, true, true, true, true]) [] rfl (Ef.store_el (us := [.int .u32 R26]) (is' := [.own (arrS B_w_ 16) (lc ((((w_.set a.toNat (Wrd.mk (IntKind.u32.wrap (E1.v + E3.v)))).set d.toNat (Wrd.mk R11)).set c.toNat (Wrd.mk (IntKind.u32.wrap (E16.v + E18.v)))).set b.toNat (Wrd.mk R26)))]) (Wrd.mk R26) 0 kk78 rfl rfl (idx_get H23).2.2 rfl rfl (Cel.plain rfl rfl) rfl rfl rfl rfl) rfl rfl rfl (fun _ => rfl) (fun _ => ?_)
              refine TA.nil (by kernel_rfl) ?_
              exact TE.jb_go () [0] ⟨rfl, rfl, rfl, rfl, rfl, trivial⟩ rfl
            · refine TX.y (listed' := #[true, true, true, true, true, true, false, true, true, true, true, false, false, false, true, false, false]) [] rfl (Y.index_arr (α := Wrd) ka79 (Can.own 0 rfl) H25 rfl rfl) rfl rfl rfl rfl rfl ?_
              refine TA.two 6 11 (by kernel_rfl) ?_ ?_
              · refine TX.y (listed' := #[true, true, true, true, true, true, true, true, true, true, true, false, false, false, true, false, false]) [] rfl (Y.load_el (us := [.int .u32 E22.v]) (u := .int .u32 E22.v) kk78 rfl (Can.own 0 rfl) (idx_get H23).2.2 rfl rfl rfl rfl rfl) rfl rfl rfl rfl rfl ?_
                refine TA.one 11 (by kernel_rfl) ?_
                refine TX.y (listed' := #[true, true, true, true, true, true, true, true, true, true, true, true, false, false, true, false, false]) [] rfl (Y.load_el (us := [.int .u32 E24.v]) (u := .int .u32 E24.v) kk78 rfl (Can.own 0 rfl) (idx_get H25).2.2 rfl rfl rfl rfl rfl) rfl rfl rfl rfl rfl ?_
                refine TA.y (listed' := #[true, true, true, true, true, true, true, true, true, true, true, true, true, false, true, false, false]) 12 [] rfl (Y.xor rfl rfl) rfl rfl rfl (by kernel_rfl) (by kernel_rfl) (by kernel_rfl) rfl rfl ?_
                refine TA.one 13 (by kernel_rfl) ?_
                refine TX.ef (listed' := #[true, true, true, true, true, true, true, true, true, true, true, true, true, true, true, false, false]) [] rfl (Ef.call (rest := [.own (arrS B_w_ 16) (lc (((w_.set a.toNat (Wrd.mk (IntKind.u32.wrap (E1.v + E3.v)))).set d.toNat (Wrd.mk R11)).set c.toNat (Wrd.mk (IntKind.u32.wrap (E16.v + E18.v)))))]) [0] (math_bits_RotateLeft32_con (ixor .u32 E22.v E24.v) (12 : Int)  R26 H27) kc61 rfl rfl trivial) rfl rfl rfl rfl (fun _ => rfl) (fun _ => ?_)
                refine TA.one 15 (by kernel_rfl) ?_
                refine TX.y (listed' := #[true, true, true, true, true, true, true, true, true, true, true, true, true, true, true, true, false]) [] rfl (Y.index_arr (α := Wrd) ka79 (Can.own 0 rfl) H23 rfl rfl) rfl rfl rfl rfl rfl ?_
                refine TA.one 16 (by kernel_rfl) ?_
                refine TX.ef0 (listed' := #[true, true, true, true, true, true, true, true, true, true, true, true, true, true, true, true, true]) [] rfl (Ef.store_el (us := [.int .u32 R26]) (is' := [.own (arrS B_w_ 16) (lc ((((w_.set a.toNat (Wrd.mk (IntKind.u32.wrap (E1.v + E3.v)))).set d.toNat (Wrd.mk R11)).set c.toNat (Wrd.mk (IntKind.u32.wrap (E16.v + E18.v)))).set b.toNat (Wrd.mk R26)))]) (Wrd.mk R26) 0 kk78 rfl rfl (idx_get H23).2.2 rfl rfl (Cel.plain rfl rfl) rfl rfl rfl rfl) rfl rfl rfl (fun _ => rfl) (fun _ => ?_)
                refine TA.nil (by kernel_rfl) ?_
                exact TE.jb_go () [0] ⟨rfl, rfl, rfl, rfl, rfl, trivial⟩ rfl
              · refine TX.y (listed' := #[true, true, true, true, true, true, false, true, true, true, true, true, false, false, true, false, false]) [] rfl (Y.load_el (us := [.int .u32 E24.v]) (u := .int .u32 E24.v) kk78 rfl (Can.own 0 rfl) (idx_get H25).2.2 rfl rfl rfl rfl rfl) rfl rfl rfl rfl rfl ?_
                refine TA.one 6 (by kernel_rfl) ?_
                refine TX.y (listed' := #[true, true, true, true, true, true, true, true, true, true, true, true, false, false, true, false, false]) [] rfl (Y.load_el (us := [.int .u32 E22.v]) (u := .int .u32 E22.v) kk78 rfl (Can.own 0 rfl) (idx_get H23).2.2 rfl rfl rfl rfl rfl) rfl rfl rfl rfl rfl ?_
                refine TA.y (listed' := #[true, true, true, true, true, true, true, true, true, true, true, true, true, false, true, false, false]) 12 [] rfl (Y.xor rfl rfl) rfl rfl rfl (by kernel_rfl) (by kernel_rfl) (by kernel_rfl) rfl rfl ?_
                refine TA.one 13 (by kernel_rfl) ?_
                refine TX.ef (listed' := #[true, true, true, true, true, true, true, true, true, true, true, true, true, true, true, false, false]) [] rfl (Ef.call (rest := [.own (arrS B_w_ 16) (lc (((w_.set a.toNat (Wrd.mk (IntKind.u32.wrap (E1.v + E3.v)))).set d.toNat (Wrd.mk R11)).set c.toNat (Wrd.mk (IntKind.u32.wrap (E16.v + E18.v)))))]) [0] (math_bits_RotateLeft32_con (ixor .u32 E22.v E24.v) (12 : Int)  R26 H27) kc61 rfl rfl trivial) rfl rfl rfl rfl (fun _ => rfl) (fun _ => ?_)
                refine TA.one 15 (by kernel_rfl) ?_
                refine TX.y (listed' := #[true, true, true, true, true, true, true, true, true, true, true, true, true, true, true, true, false]) [] rfl (Y.index_arr (α := Wrd) ka79 (Can.own 0 rfl) H23 rfl rfl) rfl rfl rfl rfl rfl ?_
                refine TA.one 16 (by kernel_rfl) ?_
                refine TX.ef0 (listed' := #[true, true, true, true, true, true, true, true, true, true, true, true, true, true, true, true, true]) [] rfl (Ef.store_el (us := [.int .u32 R26]) (is' := [.own (arrS B_w_ 16) (lc ((((w_.set a.toNat (Wrd.mk (IntKind.u32.wrap (E1.v + E3.v)))).set d.toNat (Wrd.mk R11)).set c.toNat (Wrd.mk (IntKind.u32.wrap (E16.v + E18.v)))).set b.toNat (Wrd.mk R26)))]) (Wrd.mk R26) 0 kk78 rfl rfl (idx_get H23).2.2 rfl rfl (Cel.plain rfl rfl) rfl rfl rfl rfl) rfl rfl rfl (fun _ => rfl) (fun _ => ?_)
                refine TA.nil (by kernel_rfl) ?_
                exact TE.jb_go () [0] ⟨rfl, rfl, rfl, rfl, rfl, trivial⟩ rfl
          · refine TX.y (listed' := #[true, true, true, true, true, false, false, true, true, true, true, false, false, false, true, false, false]) [] rfl (Y.index_arr (α := Wrd) ka79 (Can.own 0 rfl) H25 rfl rfl) rfl rfl rfl rfl rfl ?_
            refine TA.two 5 11 (by kernel_rfl) ?_ ?_
            · refine TX.y (listed' := #[true, true, true, true, true, true, false, true, true, true, true, false, false, false, true, false, false]) [] rfl (Y.index_arr (α := Wrd) ka79 (Can.own 0 rfl) H23 rfl rfl) rfl rfl rfl rfl rfl ?_
              refine TA.two 6 11 (by kernel_rfl) ?_ ?_
              · refine TX.y (listed' := #[true, true, true, true, true, true, true, true, true, true, true, false, false, false, true, false, false]) [] rfl (Y.load_el (us := [.int .u32 E22.v]) (u := .int .u32 E22.v) kk78 rfl (Can.own 0 rfl) (idx_get H23).2.2 rfl rfl rfl rfl rfl) rfl rfl rfl rfl rfl ?_
                refine TA.one 11 (by kernel_rfl) ?_
                refine TX.y (listed' := #[true, true, true, true, true, true, true, true, true, true, true, true, false, false, true, false, false]) [] rfl (Y.load_el (us := [.int .u32 E24.v]) (u := .int .u32 E24.v) kk78 rfl (Can.own 0 rfl) (idx_get H25).2.2 rfl rfl rfl rfl rfl) rfl rfl rfl rfl rfl ?_
                refine TA.y (listed' := #[true, true, true, true, true, true, true, true, true, true, true, true, true, false, true, false, false]) 12 [] rfl (Y.xor rfl rfl) rfl rfl rfl (by kernel_rfl) (by kernel_rfl) (by kernel_rfl) rfl rfl ?_
                refine TA.one 13 (by kernel_rfl) ?_
                refine TX.ef (listed' := #[true, true, true, true, true, true, true, true, true, true, true, true, true, true, true, false, false]) [] rfl (Ef.call (rest := [.own (arrS B_w_ 16) (lc (((w_.set a.toNat (Wrd.mk (IntKind.u32.wrap (E1.v + E3.v)))).set d.toNat (Wrd.mk R11)).set c.toNat (Wrd.mk (IntKind.u32.wrap (E16.v + E18.v)))))]) [0] (math_bits_RotateLeft32_con (ixor .u32 E22.v E24.v) (12 : Int)  R26 H27) kc61 rfl rfl trivial) rfl rfl rfl rfl (fun _ => rfl) (fun _ => ?_)
                refine TA.one 15 (by kernel_rfl) ?_
                refine TX.y (listed' := #[true, true, true, true, true, true, true, true, true, true, true, true, true, true, true, true, false]) [] rfl (Y.index_arr (α := Wrd) ka79 (Can.own 0 rfl) H23 rfl rfl) rfl rfl rfl rfl rfl ?_
                refine TA.one 16 (by kernel_rfl) ?_
                refine TX.ef0 (listed' := #[true, true, true, true, true, true, true, true, true, true, true, true, true, true, true, true, true]) [] rfl (Ef.store_el (us := [.int .u32 R26]) (is' := [.own (arrS B_w_ 16) (lc ((((w_.set a.toNat (Wrd.mk (IntKind.u32.wrap (E1.v + E3.v)))).set d.toNat (Wrd.mk R11)).set c.toNat (Wrd.mk (IntKind.u32.wrap (E16.v + E18.v)))).set b.toNat (Wrd.mk R26)))]) (Wrd.mk R26) 0 kk78 rfl rfl (idx_get H23).2.2 rfl rfl (Cel.plain rfl rfl) rfl rfl rfl rfl) rfl rfl rfl (fun _ => rfl) (fun _ => ?_)
                refine TA.nil (by kernel_rfl) ?_
                exact TE.jb_go () [0] ⟨rfl, rfl, rfl, rfl, rfl, trivial⟩ rfl
              · refine TX.y (listed' := #[true, true, true, true, true, true, false, true, true, true, true, true, false, false, true, false, false]) [] rfl (Y.load_el (us := [.int .u32 E24.v]) (u := .int .u32 E24.v) kk78 rfl (Can.own 0 rfl) (idx_get H25).2.2 rfl rfl rfl rfl rfl) rfl rfl rfl rfl rfl ?_
                refine TA.one 6 (by kernel_rfl) ?_
                refine TX.y (listed' := #[true, true, true, true, true, true, true, true, true, true, true, true, false, false, true, false, false]) [] rfl (Y.load_el (us := [.int .u32 E22.v]) (u := .int .u32 E22.v) kk78 rfl (Can.own 0 rfl) (idx_get H23).2.2 rfl rfl rfl rfl rfl) rfl rfl rfl rfl rfl ?_
                refine TA.y (listed' := #[true, true, true, true, true, true, true, true, true, true, true, true, true, false, true, false, false]) 12 [] rfl (Y.xor rfl rfl) rfl rfl rfl (by kernel_rfl) (by kernel_rfl) (by kernel_rfl) rfl rfl ?_
                refine TA.one 13 (by kernel_rfl) ?_
                refine TX.ef (listed' := #[true, true, true, true, true, true, true, true, true, true, true, true, true, true, true, false, false]) [] rfl (Ef.call (rest := [.own (arrS B_w_ 16) (lc (((w_.set a.toNat (Wrd.mk (IntKind.u32.wrap (E1.v + E3.v)))).set d.toNat (Wrd.mk R11)).set c.toNat (Wrd.mk (IntKind.u32.wrap (E16.v + E18.v)))))]) [0] (math_bits_RotateLeft32_con (ixor .u32 E22.v E24.v) (12 : Int)  R26 H27) kc61 rfl rfl trivial) rfl rfl rfl rfl (fun _ => rfl) (fun _ => ?_)
                refine TA.one 15 (by kernel_rfl) ?_
                refine TX.y (listed' := #[true, true, true, true, true, true, true, true, true, true, true, true, true, true, true, true, false]) [] rfl (Y.index_arr (α := Wrd) ka79 (Can.own 0 rfl) H23 rfl rfl) rfl rfl rfl rfl rfl ?_
                refine TA.one 16 (by kernel_rfl) ?_
                refine TX.ef0 (listed' := #[true, true, true, true, true, true, true, true, true, true, true, true, true, true, true, true, true]) [] rfl (Ef.store_el (us := [.int .u32 R26]) (is' := [.own (arrS B_w_ 16) (lc ((((w_.set a.toNat (Wrd.mk (IntKind.u32.wrap (E1.v + E3.v)))).set d.toNat (Wrd.mk R11)).set c.toNat (Wrd.mk (IntKind.u32.wrap (E16.v + E18.v)))).set b.toNat (Wrd.mk R26)))]) (Wrd.mk R26) 0 kk78 rfl rfl (idx_get H23).2.2 rfl rfl (Cel.plain rfl rfl) rfl rfl rfl rfl) rfl rfl rfl (fun _ => rfl) (fun _ => ?_)
                refine TA.nil (by kernel_rfl) ?_
                exact TE.jb_go () [0] ⟨rfl, rfl, rfl, rfl, rfl, trivial⟩ rfl
            · refine TX.y (listed' := #[true, true, true, true, true, false, false, true, true, true, true, true, false, false, true, false, false]) [] rfl (Y.load_el (us := [.int .u32 E24.v]) (u := .int .u32 E24.v) kk78 rfl (Can.own 0 rfl) (idx_get H25).2.2 rfl rfl rfl rfl rfl) rfl rfl rfl rfl rfl ?_
              refine TA.one 5 (by kernel_rfl) ?_
              refine TX.y (listed' := #[true, true, true, true, true, true, false, true, true, true, true, true, false, false, true, false, false]) [] rfl (Y.index_arr (α := Wrd) ka79 (Can.own 0 rfl) H23 rfl rfl) rfl rfl rfl rfl rfl ?_
              refine TA.one 6 (by kernel_rfl) ?_
              refine TX.y (listed' := #[true, true, true, true, true, true, true, true, true, true, true, true, false, false, true, false, false]) [] rfl (Y.load_el (us := [.int .u32 E22.v]) (u := .int .u32 E22.v) kk78 rfl (Can.own 0 rfl) (idx_get H23).2.2 rfl rfl rfl rfl rfl) rfl rfl rfl rfl rfl ?_
              refine TA.y (listed' := #[true, true, true, true, true, true, true, true, true, true, true, true, true, false, true, false, false]) 12 [] rfl (Y.xor rfl rfl) rfl rfl rfl (by kernel_rfl) (by kernel_rfl) (by kernel_rfl) rfl rfl ?_
              refine TA.one 13 (by kernel_rfl) ?_
              refine TX.ef (listed' := #[true, true, true, true, true, true, true, true, true, true, true, true, true, true, true, false, false]) [] rfl (Ef.call (rest := [.own (arrS B_w_ 16) (lc (((w_.set a.toNat (Wrd.mk (IntKind.u32.wrap (E1.v + E3.v)))).set d.toNat (Wrd.mk R11)).set c.toNat (Wrd.mk (IntKind.u32.wrap (E16.v + E18.v)))))]) [0] (math_bits_RotateLeft32_con (ixor .u32 E22.v E24.v) (12 : Int)  R26 H27) kc61 rfl rfl trivial) rfl rfl rfl rfl (fun _ => rfl) (fun _ => ?_)
              refine TA.one 15 (by kernel_rfl) ?_
              refine TX.y (listed' := #[true, true, true, true, true, true, true, true, true, true, true, true, true, true, true, true, false]) [] rfl (Y.index_arr (α := Wrd) ka79 (Can.own 0 rfl) H23 rfl rfl) rfl rfl rfl rfl rfl ?_
              refine TA.one 16 (by kernel_rfl) ?_
              refine TX.ef0 (listed' := #[true, true, true, true, true, true, true, true, true, true, true, true, true, true, true, true, true]) [] rfl (Ef.store_el (us := [.int .u32 R26]) (is' := [.own (arrS B_w_ 16) (lc ((((w_.set a.toNat (Wrd.mk (IntKind.u32.wrap (E1.v + E3.v)))).set d.toNat (Wrd.mk R11)).set c.toNat (Wrd.mk (IntKind.u32.wrap (E16.v + E18.v)))).set b.toNat (Wrd.mk R26)))]) (Wrd.mk R26) 0 kk78 rfl rfl (idx_get H23).2.2 rfl rfl (Cel.plain rfl rfl) rfl rfl rfl rfl) rfl rfl rfl (fun _ => rfl) (fun _ => ?_)
              refine TA.nil (by kernel_rfl) ?_
              exact TE.jb_go () [0] ⟨rfl, rfl, rfl, rfl, rfl, trivial⟩ rfl
        · refine TE.next ?_
          refine TW.seq ?_
          refine TW.bind fun E31 H32 => ?_
          refine TW.bind fun E33 H34 => ?_
          refine TW.joinU (X := Unit) (fun _ _ => [(0, .pointer (some ⟨B_w_, 0, none⟩)), (1, .int .i64 a), (2, .int .i64 b), (3, .int .i64 c), (4, .int .i64 d)]) (fun _ _ => [.own (arrS B_w_ 16) (lc (((((w_.set a.toNat (Wrd.mk (IntKind.u32.wrap (E1.v + E3.v)))).set d.toNat (Wrd.mk R11)).set c.toNat (Wrd.mk (IntKind.u32.wrap (E16.v + E18.v)))).set b.toNat (Wrd.mk R26)).set a.toNat (Wrd.mk (IntKind.u32.wrap (E31.v + E33.v)))))]) ?_ (fun _ X36 => ?_)
          · refine TW.draw (isH := []) hMix ?_
            refine TA.y (listed' := #[true, false, false, false, false, false, false, false, false, false, false, false, false, false]) 0 [] rfl (Y.move rfl) rfl rfl rfl (by kernel_rfl) (by kernel_rfl) (by kernel_rfl) rfl rfl ?_
            refine TA.y (listed' := #[true, true, false, false, false, false, false, false, false, false, false, false, false, false]) 1 [] rfl (Y.move rfl) rfl rfl rfl (by kernel_rfl) (by kernel_rfl) (by kernel_rfl) rfl rfl ?_
            refine TA.y (listed' := #[true, true, true, false, false, false, false, false, false, false, false, false, false, false]) 2 [] rfl (Y.nilCheck rfl) rfl rfl rfl (by kernel_rfl) (by kernel_rfl) (by kernel_rfl) rfl rfl ?_
            refine TA.y (listed' := #[true, true, true, false, false, true, false, false, false, false, false, false, false, false]) 5 [] rfl (Y.move rfl) rfl rfl rfl (by kernel_rfl) (by kernel_rfl) (by kernel_rfl) rfl rfl ?_
            refine TA.y (listed' := #[true, true, true, false, false, true, true, false, false, false, false, false, false, false]) 6 [] rfl (Y.move rfl) rfl rfl rfl (by kernel_rfl) (by kernel_rfl) (by kernel_rfl) rfl rfl ?_
            refine TA.y (listed' := #[true, true, true, false, false, true, true, true, false, false, false, false, false, false]) 7 [] rfl (Y.nilCheck rfl) rfl rfl rfl (by kernel_rfl) (by kernel_rfl) (by kernel_rfl) rfl rfl ?_
            refine TA.y (listed' := #[true, true, true, false, false, true, true, true, false, false, false, true, false, false]) 11 [] rfl (Y.nilCheck rfl) rfl rfl rfl (by kernel_rfl) (by kernel_rfl) (by kernel_rfl) rfl rfl ?_
            refine TA.two 3 8 (by kernel_rfl) ?_ ?_
            · refine TX.y (listed' := #[true, true, true, true, false, true, true, true, false, false, false, true, false, false]) [] rfl (Y.index_arr (α := Wrd) ka79 (Can.own 0 rfl) H32 rfl rfl) rfl rfl rfl rfl rfl ?_
              refine TA.two 4 8 (by kernel_rfl) ?_ ?_
              · refine TX.y (listed' := #[true, true, true, true, true, true, true, true, false, false, false, true, false, false]) [] rfl (Y.load_el (us := [.int .u32 E31.v]) (u := .int .u32 E31.v) kk78 rfl (Can.own 0 rfl) (idx_get H32).2.2 rfl rfl rfl rfl rfl) rfl rfl rfl rfl rfl ?_
                refine TA.one 8 (by kernel_rfl) ?_
                refine TX.y (listed' := #[true, true, true, true, true, true, true, true, true, false, false, true, false, false]) [] rfl (Y.index_arr (α := Wrd) ka79 (Can.own 0 rfl) H34 rfl rfl) rfl rfl rfl rfl rfl ?_
                refine TA.one 9 (by kernel_rfl) ?_
                refine TX.y (listed' := #[true, true, true, true, true, true, true, true, true, true, false, true, false, false]) [] rfl (Y.load_el (us := [.int .u32 E33.v]) (u := .int .u32 E33.v) kk78 rfl (Can.own 0 rfl) (idx_get H34).2.2 rfl rfl rfl rfl rfl) rfl rfl rfl rfl rfl ?_
                refine TA.y (listed' := #[true, true, true, true, true, true, true, true, true, true, true, true, false, false]) 10 [] rfl (Y.add rfl rfl) rfl rfl rfl (by kernel_rfl) (by kernel_rfl) (by kernel_rfl) rfl rfl ?_
                refine TA.one 12 (by kernel_rfl) ?_
                refine TX.y (listed' := #[true, true, true, true, true, true, true, true, true, true, true, true, true, false]) [] rfl (Y.index_arr (α := Wrd) ka79 (Can.own 0 rfl) H32 rfl rfl) rfl rfl rfl rfl rfl ?_
                refine TA.one 13 (by kernel_rfl) ?_
                refine TX.ef0 (listed' := #[true, true, true, true, true, true, true, true, true, true, true, true, true, true]) [] rfl (Ef.store_el (us := [.int .u32 (IntKind.u32.wrap (E31.v + E33.v))]) (is' := [.own (arrS B_w_ 16) (lc (((((w_.set a.toNat (Wrd.mk (IntKind.u32.wrap (E1.v + E3.v)))).set d.toNat (Wrd.mk R11)).set c.toNat (Wrd.mk (IntKind.u32.wrap (E16.v + E18.v)))).set b.toNat (Wrd.mk R26)).set a.toNat (Wrd.mk (IntKind.u32.wrap (E31.v + E33.v)))))]) (Wrd.mk (IntKind.u32.wrap (E31.v + E33.v))) 0 kk78 rfl rfl (idx_get H32).2.2 rfl rfl (Cel.plain rfl rfl) rfl rfl rfl rfl) rfl rfl rfl (fun _ => rfl) (fun _ => ?_)
                refine TA.nil (by kernel_rfl) ?_
                exact TE.jb_go () [0] ⟨rfl, rfl, rfl, rfl, rfl, trivial⟩ rfl
              · refine TX.y (listed' := #[true, true, true, true, false, true, true, true, true, false, false, true, false, false]) [] rfl (Y.index_arr (α := Wrd) ka79 (Can.own 0 rfl) H34 rfl rfl) rfl rfl rfl rfl rfl ?_
                refine TA.two 4 9 (by kernel_rfl) ?_ ?_
                · refine TX.y (listed' := #[true, true, true, true, true, true, true, true, true, false, false, true, false, false]) [] rfl (Y.load_el (us := [.int .u32 E31.v]) (u := .int .u32 E31.v) kk78 rfl (Can.own 0 rfl) (idx_get H32).2.2 rfl rfl rfl rfl rfl) rfl rfl rfl rfl rfl ?_
                  refine TA.one 9 (by kernel_rfl) ?_
                  refine TX.y (listed' := #[true, true, true, true, true, true, true, true, true, true, false, true, false, false]) [] rfl (Y.load_el (us := [.int .u32 E33.v]) (u := .int .u32 E33.v) kk78 rfl (Can.own 0 rfl) (idx_get H34).2.2 rfl rfl rfl rfl rfl) rfl rfl rfl rfl rfl ?_
                  refine TA.y (listed' := #[true, true, true, true, true, true, true, true, true, true, true, true, false, false]) 10 [] rfl (Y.add rfl rfl) rfl rfl rfl (by kernel_rfl) (by kernel_rfl) (by kernel_rfl) rfl rfl ?_
                  refine TA.one 12 (by kernel_rfl) ?_
                  refine TX.y (listed' := #[true, true, true, true, true, true, true, true, true, true, true, true, true, false]) [] rfl (Y.index_arr (α := Wrd) ka79 (Can.own 0 rfl) H32 rfl rfl) rfl rfl rfl rfl rfl ?_
                  refine TA.one 13 (by kernel_rfl) ?_
                  refine TX.ef0 (listed' := #[true, true, true, true, true, true, true, true, true, true, true, true, true, true]) [] rfl (Ef.store_el (us := [.int .u32 (IntKind.u32.wrap (E31.v + E33.v))]) (is' := [.own (arrS B_w_ 16) (lc (((((w_.set a.toNat (Wrd.mk (IntKind.u32.wrap (E1.v + E3.v)))).set d.toNat (Wrd.mk R11)).set c.toNat (Wrd.mk (IntKind.u32.wrap (E16.v + E18.v)))).set b.toNat (Wrd.mk R26)).set a.toNat (Wrd.mk (IntKind.u32.wrap (E31.v + E33.v)))))]) (Wrd.mk (IntKind.u32.wrap (E31.v + E33.v))) 0 kk78 rfl rfl (idx_get H32).2.2 rfl rfl (Cel.plain rfl rfl) rfl rfl rfl rfl) rfl rfl rfl (fun _ => rfl) (fun _ => ?_)
                  refine TA.nil (by kernel_rfl) ?_
                  exact TE.jb_go () [0] ⟨rfl, rfl, rfl, rfl, rfl, trivial⟩ rfl
                · refine TX.y (listed' := #[true, true, true, true, false, true, true, true, true, true, false, true, false, false]) [] rfl (Y.load_el (us := [.int .u32 E33.v]) (u := .int .u32 E33.v) kk78 rfl (Can.own 0 rfl) (idx_get H34).2.2 rfl rfl rfl rfl rfl) rfl rfl rfl rfl rfl ?_
                  refine TA.one 4 (by kernel_rfl) ?_
                  refine TX.y (listed' := #[true, true, true, true, true, true, true, true, true, true, false, true, false, false]) [] rfl (Y.load_el (us := [.int .u32 E31.v]) (u := .int .u32 E31.v) kk78 rfl (Can.own 0 rfl) (idx_get H32).2.2 rfl rfl rfl rfl rfl) rfl rfl rfl rfl rfl ?_
                  refine TA.y (listed' := #[true, true, true, true, true, true, true, true, true, true, true, true, false, false]) 10 [] rfl (Y.add rfl rfl) rfl rfl rfl (by kernel_rfl) (by kernel_rfl) (by kernel_rfl) rfl rfl ?_
                  refine TA.one 12 (by kernel_rfl) ?_
                  refine TX.y (listed' := #[true, true, true, true, true, true, true, true, true, true, true, true, true, false]) [] rfl (Y.index_arr (α := Wrd) ka79 (Can.own 0 rfl) H32 rfl rfl) rfl rfl rfl rfl rfl ?_
                  refine TA.one 13 (by kernel_rfl) ?_
                  refine TX.ef0 (listed' := #[true, true, true, true, true, true, true, true, true, true, true, true, true, true]) [] rfl (Ef.store_el (us := [.int .u32 (IntKind.u32.wrap (E31.v + E33.v))]) (is' := [.own (arrS B_w_ 16) (lc (((((w_.set a.toNat (Wrd.mk (IntKind.u32.wrap (E1.v + E3.v)))).set d.toNat (Wrd.mk R11)).set c.toNat (Wrd.mk (IntKind.u32.wrap (E16.v + E18.v)))).set b.toNat (Wrd.mk R26)).set a.toNat (Wrd.mk (IntKind.u32.wrap (E31.v + E33.v)))))]) (Wrd.mk (IntKind.u32.wrap (E31.v + E33.v))) 0 kk78 rfl rfl (idx_get H32).2.2 rfl rfl (Cel.plain rfl rfl) rfl rfl rfl rfl) rfl rfl rfl (fun _ => rfl) (fun _ => ?_)
                  refine TA.nil (by kernel_rfl) ?_
                  exact TE.jb_go () [0] ⟨rfl, rfl, rfl, rfl, rfl, trivial⟩ rfl
            · refine TX.y (listed' := #[true, true, true, false, false, true, true, true, true, false, false, true, false, false]) [] rfl (Y.index_arr (α := Wrd) ka79 (Can.own 0 rfl) H34 rfl rfl) rfl rfl rfl rfl rfl ?_
              refine TA.two 3 9 (by kernel_rfl) ?_ ?_
              · refine TX.y (listed' := #[true, true, true, true, false, true, true, true, true, false, false, true, false, false]) [] rfl (Y.index_arr (α := Wrd) ka79 (Can.own 0 rfl) H32 rfl rfl) rfl rfl rfl rfl rfl ?_
                refine TA.two 4 9 (by kernel_rfl) ?_ ?_
                · refine TX.y (listed' := #[true, true, true, true, true, true, true, true, true, false, false, true, false, false]) [] rfl (Y.load_el (us := [.int .u32 E31.v]) (u := .int .u32 E31.v) kk78 rfl (Can.own 0 rfl) (idx_get H32).2.2 rfl rfl rfl rfl rfl) rfl rfl rfl rfl rfl ?_
                  refine TA.one 9 (by kernel_rfl) ?_
                  refine TX.y (listed' := #[true, true, true, true, true, true, true, true, true, true, false, true, false, false]) [] rfl (Y.load_el (us := [.int .u32 E33.v]) (u := .int .u32 E33.v) kk78 rfl (Can.own 0 rfl) (idx_get H34).2.2 rfl rfl rfl rfl rfl) rfl rfl rfl rfl rfl ?_
                  refine TA.y (listed' := #[true, true, true, true, true, true, true, true, true, true, true, true, false, false]) 10 [] rfl (Y.add rfl rfl) rfl rfl rfl (by kernel_rfl) (by kernel_rfl) (by kernel_rfl) rfl rfl ?_
                  refine TA.one 12 (by kernel_rfl) ?_
                  refine TX.y (listed' := #[true, true, true, true, true, true, true, true, true, true, true, true, true, false]) [] rfl (Y.index_arr (α := Wrd) ka79 (Can.own 0 rfl) H32 rfl rfl) rfl rfl rfl rfl rfl ?_
                  refine TA.one 13 (by kernel_rfl) ?_
                  refine TX.ef0 (listed' := #[true, true, true, true, true, true, true, true, true, true, true, true, true, true]) [] rfl (Ef.store_el (us := [.int .u32 (IntKind.u32.wrap (E31.v + E33.v))]) (is' := [.own (arrS B_w_ 16) (lc (((((w_.set a.toNat (Wrd.mk (IntKind.u32.wrap (E1.v + E3.v)))).set d.toNat (Wrd.mk R11)).set c.toNat (Wrd.mk (IntKind.u32.wrap (E16.v + E18.v)))).set b.toNat (Wrd.mk R26)).set a.toNat (Wrd.mk (IntKind.u32.wrap (E31.v + E33.v)))))]) (Wrd.mk (IntKind.u32.wrap (E31.v + E33.v))) 0 kk78 rfl rfl (idx_get H32).2.2 rfl rfl (Cel.plain rfl rfl) rfl rfl rfl rfl) rfl rfl rfl (fun _ => rfl) (fun _ => ?_)
                  refine TA.nil (by kernel_rfl) ?_
                  exact TE.jb_go () [0] ⟨rfl, rfl, rfl, rfl, rfl, trivial⟩ rfl
                · refine TX.y (listed' := #[true, true, true, true, false, true, true, true, true, true, false, true, false, false]) [] rfl (Y.load_el (us := [.int .u32 E33.v]) (u := .int .u32 E33.v) kk78 rfl (Can.own 0 rfl) (idx_get H34).2.2 rfl rfl rfl rfl rfl) rfl rfl rfl rfl rfl ?_
                  refine TA.one 4 (by kernel_rfl) ?_
                  refine TX.y (listed' := #[true, true, true, true, true, true, true, true, true, true, false, true, false, false]) [] rfl (Y.load_el (us := [.int .u32 E31.v]) (u := .int .u32 E31.v) kk78 rfl (Can.own 0 rfl) (idx_get H32).2.2 rfl rfl rfl rfl rfl) rfl rfl rfl rfl rfl ?_
                  refine TA.y (listed' := #[true, true, true, true, true, true, true, true, true, true, true, true, false, false]) 10 [] rfl (Y.add rfl rfl) rfl rfl rfl (by kernel_rfl) (by kernel_rfl) (by kernel_rfl) rfl rfl ?_
                  refine TA.one 12 (by kernel_rfl) ?_
                  refine TX.y (listed' := #[true, true, true, true, true, true, true, true, true, true, true, true, true, false]) [] rfl (Y.index_arr (α := Wrd) ka79 (Can.own 0 rfl) H32 rfl rfl) rfl rfl rfl rfl rfl ?_
                  refine TA.one 13 (by kernel_rfl) ?_
                  refine TX.ef0 (listed' := #[true, true, true, true, true, true, true, true, true, true, true, true, true, true]) [] rfl (Ef.store_el (us := [.int .u32 (IntKind.u32.wrap (E31.v + E33.v))]) (is' := [.own (arrS B_w_ 16) (lc (((((w_.set a.toNat (Wrd.mk (IntKind.u32.wrap (E1.v + E3.v)))).set d.toNat (Wrd.mk R11)).set c.toNat (Wrd.mk (IntKind.u32.wrap (E16.v + E18.v)))).set b.toNat (Wrd.mk R26)).set a.toNat (Wrd.mk (IntKind.u32.wrap (E31.v + E33.v)))))]) (Wrd.mk (IntKind.u32.wrap (E31.v + E33.v))) 0 kk78 rfl rfl (idx_get H32).2.2 rfl rfl (Cel.plain rfl rfl) rfl rfl rfl rfl) rfl rfl rfl (fun _ => rfl) (fun _ => ?_)
                  refine TA.nil (by kernel_rfl) ?_
                  exact TE.jb_go () [0] ⟨rfl, rfl, rfl, rfl, rfl, trivial⟩ rfl
              · refine TX.y (listed' := #[true, true, true, false, false, true, true, true, true, true, false, true, false, false]) [] rfl (Y.load_el (us := [.int .u32 E33.v]) (u := .int .u32 E33.v) kk78 rfl (Can.own 0 rfl) (idx_get H34).2.2 rfl rfl rfl rfl rfl) rfl rfl rfl rfl rfl ?_
                refine TA.one 3 (by kernel_rfl) ?_
                refine TX.y (listed' := #[true, true, true, true, false, true, true, true, true, true, false, true, false, false]) [] rfl (Y.index_arr (α := Wrd) ka79 (Can.own 0 rfl) H32 rfl rfl) rfl rfl rfl rfl rfl ?_
                refine TA.one 4 (by kernel_rfl) ?_
                refine TX.y (listed' := #[true, true, true, true, true, true, true, true, true, true, false, true, false, false]) [] rfl (Y.load_el (us := [.int .u32 E31.v]) (u := .int .u32 E31.v) kk78 rfl (Can.own 0 rfl) (idx_get H32).2.2 rfl rfl rfl rfl rfl) rfl rfl rfl rfl rfl ?_
                refine TA.y (listed' := #[true, true, true, true, true, true, true, true, true, true, true, true, false, false]) 10 [] rfl (Y.add rfl rfl) rfl rfl rfl (by kernel_rfl) (by kernel_rfl) (by kernel_rfl) rfl rfl ?_
                refine TA.one 12 (by kernel_rfl) ?_
                refine TX.y (listed' := #[true, true, true, true, true, true, true, true, true, true, true, true, true, false]) [] rfl (Y.index_arr (α := Wrd) ka79 (Can.own 0 rfl) H32 rfl rfl) rfl rfl rfl rfl rfl ?_
                refine TA.one 13 (by kernel_rfl) ?_
                refine TX.ef0 (listed' := #[true, true, true, true, true, true, true, true, true, true, true, true, true, true]) [] rfl (Ef.store_el (us := [.int .u32 (IntKind.u32.wrap (E31.v + E33.v))]) (is' := [.own (arrS B_w_ 16) (lc (((((w_.set a.toNat (Wrd.mk (IntKind.u32.wrap (E1.v + E3.v)))).set d.toNat (Wrd.mk R11)).set c.toNat (Wrd.mk (IntKind.u32.wrap (E16.v + E18.v)))).set b.toNat (Wrd.mk R26)).set a.toNat (Wrd.mk (IntKind.u32.wrap (E31.v + E33.v)))))]) (Wrd.mk (IntKind.u32.wrap (E31.v + E33.v))) 0 kk78 rfl rfl (idx_get H32).2.2 rfl rfl (Cel.plain rfl rfl) rfl rfl rfl rfl) rfl rfl rfl (fun _ => rfl) (fun _ => ?_)
                refine TA.nil (by kernel_rfl) ?_
                exact TE.jb_go () [0] ⟨rfl, rfl, rfl, rfl, rfl, trivial⟩ rfl
          · refine TE.next ?_
            refine TW.seq ?_
            refine TW.bind fun E37 H38 => ?_
            refine TW.bind fun E39 H40 => ?_
            refine TW.bind fun R41 H42 => ?_
            refine TW.joinU (X := Unit) (fun _ _ => [(0, .pointer (some ⟨B_w_, 0, none⟩)), (2, .int .i64 b), (3, .int .i64 c), (4, .int .i64 d)]) (fun _ _ => [.own (arrS B_w_ 16) (lc ((((((w_.set a.toNat (Wrd.mk (IntKind.u32.wrap (E1.v + E3.v)))).set d.toNat (Wrd.mk R11)).set c.toNat (Wrd.mk (IntKind.u32.wrap (E16.v + E18.v)))).set b.toNat (Wrd.mk R26)).set a.toNat (Wrd.mk (IntKind.u32.wrap (E31.v + E33.v)))).set d.toNat (Wrd.mk R41)))]) ?_ (fun _ X45 => ?_)
            · refine TW.draw (isH := []) hMix ?_
              refine TA.y (listed' := #[true, false, false, false, false, false, false, false, false, false, false, false, false, false, false, false, false]) 0 [] rfl (Y.move rfl) rfl rfl rfl (by kernel_rfl) (by kernel_rfl) (by kernel_rfl) rfl rfl ?_
              refine TA.y (listed' := #[true, true, false, false, false, false, false, false, false, false, false, false, false, false, false, false, false]) 1 [] rfl (Y.move rfl) rfl rfl rfl (by kernel_rfl) (by kernel_rfl) (by kernel_rfl) rfl rfl ?_
              refine TA.y (listed' := #[true, true, true, false, false, false, false, false, false, false, false, false, false, false, false, false, false]) 2 [] rfl (Y.move rfl) rfl rfl rfl (by kernel_rfl) (by kernel_rfl) (by kernel_rfl) rfl rfl ?_
              refine TA.y (listed' := #[true, true, true, true, false, false, false, false, false, false, false, false, false, false, false, false, false]) 3 [] rfl (Y.move rfl) rfl rfl rfl (by kernel_rfl) (by kernel_rfl) (by kernel_rfl) rfl rfl ?_
              refine TA.y (listed' := #[true, true, true, true, true, false, false, false, false, false, false, false, false, false, false, false, false]) 4 [] rfl (Y.nilCheck rfl) rfl rfl rfl (by kernel_rfl) (by kernel_rfl) (by kernel_rfl) rfl rfl ?_
              refine TA.y (listed' := #[true, true, true, true, true, false, false, true, false, false, false, false, false, false, false, false, false]) 7 [] rfl (Y.move rfl) rfl rfl rfl (by kernel_rfl) (by kernel_rfl) (by kernel_rfl) rfl rfl ?_
              refine TA.y (listed' := #[true, true, true, true, true, false, false, true, true, false, false, false, false, false, false, false, false]) 8 [] rfl (Y.move rfl) rfl rfl rfl (by kernel_rfl) (by kernel_rfl) (by kernel_rfl) rfl rfl ?_
              refine TA.y (listed' := #[true, true, true, true, true, false, false, true, true, true, false, false, false, false, false, false, false]) 9 [] rfl (Y.nilCheck rfl) rfl rfl rfl (by kernel_rfl) (by kernel_rfl) (by kernel_rfl) rfl rfl ?_
              refine TA.y (listed' := #[true, true, true, true, true, false, false, true, true, true, false, false, false, false, true, false, false]) 14 [] rfl (Y.nilCheck rfl) rfl rfl rfl (by kernel_rfl) (by kernel_rfl) (by kernel_rfl) rfl rfl ?_
              refine TA.two 5 10 (by kernel_rfl) ?_ ?_
              · refine TX.y (listed' := #[true, true, true, true, true, true, false, true, true, true, false, false, false, false, true, false, false]) [] rfl (Y.index_arr (α := Wrd) ka79 (Can.own 0 rfl) H38 rfl rfl) rfl rfl rfl rfl rfl ?_
                refine TA.two 6 10 (by kernel_rfl) ?_ ?_
                · refine TX.y (listed' := #[true, true, true, true, true, true, true, true, true, true, false, false, false, false, true, false, false]) [] rfl (Y.load_el (us := [.int .u32 E37.v]) (u := .int .u32 E37.v) kk78 rfl (Can.own 0 rfl) (idx_get H38).2.2 rfl rfl rfl rfl rfl) rfl rfl rfl rfl rfl ?_
                  refine TA.one 10 (by kernel_rfl) ?_
                  refine TX.y (listed' := #[true, true, true, true, true, true, true, true, true, true, true, false, false, false, true, false, false]) [] rfl (Y.index_arr (α := Wrd) ka79 (Can.own 0 rfl) H40 rfl rfl) rfl rfl rfl rfl rfl ?_
                  refine TA.one 11 (by kernel_rfl) ?_
                  refine TX.y (listed' := #[true, true, true, true, true, true, true, true, true, true, true, true, false, false, true, false, false]) [] rfl (Y.load_el (us := [.int .u32 E39.v]) (u := .int .u32 E39.v) kk78 rfl (Can.own 0 rfl) (idx_get H40).2.2 rfl rfl rfl rfl rfl) rfl rfl rfl rfl rfl ?_
                  refine TA.y (listed' := #[true, true, true, true, true, true, true, true, true, true, true, true, true, false, true, false, false]) 12 [] rfl (Y.xor rfl rfl) rfl rfl rfl (by kernel_rfl) (by kernel_rfl) (by kernel_rfl) rfl rfl ?_
                  refine TA.one 13 (by kernel_rfl) ?_
                  refine TX.ef (listed' := #[true, true, true, true, true, true, true, true, true, true, true, true, true, true, true, false, false]) [] rfl (Ef.call (rest := [.own (arrS B_w_ 16) (lc (((((w_.set a.toNat (Wrd.mk (IntKind.u32.wrap (E1.v + E3.v)))).set d.toNat (Wrd.mk R11)).set c.toNat (Wrd.mk (IntKind.u32.wrap (E16.v + E18.v)))).set b.toNat (Wrd.mk R26)).set a.toNat (Wrd.mk (IntKind.u32.wrap (E31.v + E33.v)))))]) [0] (math_bits_RotateLeft32_con (ixor .u32 E37.v E39.v) (8 : Int)  R41 H42) kc61 rfl rfl trivial) rfl rfl rfl rfl (fun _ => rfl) (fun _ => ?_)
                  refine TA.one 15 (by kernel_rfl) ?_
                  refine TX.y (listed' := #[true, true, true, true, true, true, true, true, true, true, true, true, true, true, true, true, false]) [] rfl (Y.index_arr (α := Wrd) ka79 (Can.own 0 rfl) H38 rfl rfl) rfl rfl rfl rfl rfl ?_
                  refine TA.one 16 (by kernel_rfl) ?_
                  refine TX.ef0 (listed' := #[true, true, true, true, true, true, true, true, true, true, true, true, true, true, true, true, true]) [] rfl (Ef.store_el (us := [.int .u32 R41]) (is' := [.own (arrS B_w_ 16) (lc ((((((w_.set a.toNat (Wrd.mk (IntKind.u32.wrap (E1.v + E3.v)))).set d.toNat (Wrd.mk R11)).set c.toNat (Wrd.mk (IntKind.u32.wrap (E16.v + E18.v)))).set b.toNat (Wrd.mk R26)).set a.toNat (Wrd.mk (IntKind.u32.wrap (E31.v + E33.v)))).set d.toNat (Wrd.mk R41)))]) (Wrd.mk R41) 0 kk78 rfl rfl (idx_get H38).2.2 rfl rfl (Cel.plain rfl rfl) rfl rfl rfl rfl) rfl rfl rfl (fun _ => rfl) (fun _ => ?_)
                  refine TA.nil (by kernel_rfl) ?_
                  exact TE.jb_go () [0] ⟨rfl, rfl, rfl, rfl, trivial⟩ rfl
                · refine TX.y (listed' := #[true, true, true, true, true, true, false, true, true, true, true, false, false, false, true, false, false]) [] rfl (Y.index_arr (α := Wrd) ka79 (Can.own 0 rfl) H40 rfl rfl) rfl rfl rfl rfl rfl ?_
                  refine TA.two 6 11 (by kernel_rfl) ?_ ?_
                  · refine TX.y (listed' := #[true, true, true, true, true, true, true, true, true, true, true, false, false, false, true, false, false]) [] rfl (Y.load_el (us := [.int .u32 E37.v]) (u := .int .u32 E37.v) kk78 rfl (Can.own 0 rfl) (idx_get H38).2.2 rfl rfl rfl rfl rfl) rfl rfl rfl rfl rfl ?_
                    refine TA.one 11 (by kernel_rfl) ?_
                    refine TX.y (listed' := #[true, true, true, true, true, true, true, true, true, true, true, true, false, false, true, false, false]) [] rfl (Y.load_el (us := [.int .u32 E39.v]) (u := .int .u32 E39.v) kk78 rfl (Can.own 0 rfl) (idx_get H40).2.2 rfl rfl rfl rfl rfl) rfl rfl rfl rfl rfl ?_
                    refine TA.y (listed' := #[true, true, true, true, true, true, true, true, true, true, true, true, true, false, true, false, false]) 12 [] rfl (Y.xor rfl rfl) rfl rfl rfl (by kernel_rfl) (by kernel_rfl) (by kernel_rfl) rfl rfl ?_
                    refine TA.one 13 (by kernel_rfl) ?_
                    refine TX.ef (listed' := #[true, true, true, true, true, true, true, true, true, true, true, true, true, true, true, false, false]) [] rfl (Ef.call (rest := [.own (arrS B_w_ 16) (lc (((((w_.set a.toNat (Wrd.mk (IntKind.u32.wrap (E1.v + E3.v)))).set d.toNat (Wrd.mk R11)).set c.toNat (Wrd.mk (IntKind.u32.wrap (E16.v + E18.v)))).set b.toNat (Wrd.mk R26)).set a.toNat (Wrd.mk (IntKind.u32.wrap (E31.v + E33.v)))))]) [0] (math_bits_RotateLeft32_con (ixor .u32 E37.v E39.v) (8 : Int)  R41 H42) kc61 rfl rfl trivial) rfl rfl rfl rfl (fun _ => rfl) (fun _ => ?_)
                    refine TA.one 15 (by kernel_rfl) ?_
                    refine TX.y (listed' := #[true, true, true, true, true, true, true, true, true, true, true, true, true, true, true, true, false]) [] rfl (Y.index_arr (α := Wrd) ka79 (Can.own 0 rfl) H38 rfl rfl) rfl rfl rfl rfl rfl ?_
                    refine TA.one 16 (by kernel_rfl) ?_
                    refine TX.ef0 (listed' := #[true, true, true, true, true, true, true, true, true, true, true, true, true, true, true, true, true]) [] rfl (Ef.store_el (us := [.int .u32 R41]) (is' := [.own (arrS B_w_ 16) (lc ((((((w_.set a.toNat (Wrd.mk (IntKind.u32.wrap (E1.v + E3.v)))).set d.toNat (Wrd.mk R11)).set c.toNat (Wrd.mk (IntKind.u32.wrap (E16.v + E18.v)))).set b.toNat (Wrd.mk R26)).set a.toNat (Wrd.mk (IntKind.u32.wrap (E31.v + E33.v)))).set d.toNat (Wrd.mk R41)))]) (Wrd.mk R41) 0 kk78 rfl rfl (idx_get H38).2.2 rfl rfl (Cel.plain rfl rfl) rfl rfl rfl rfl) rfl rfl rfl (fun _ => rfl) (fun _ => ?_)
                    refine TA.nil (by kernel_rfl) ?_
                    exact TE.jb_go () [0] ⟨rfl, rfl, rfl, rfl, trivial⟩ rfl
                  · refine TX.y (listed' := #[true, true, true, true, true, true, false, true, true, true, true, true, false, false, true, false, false]) [] rfl (Y.load_el (us := [.int .u32 E39.v]) (u := .int .u32 E39.v) kk78 rfl (Can.own 0 rfl) (idx_get H40).2.2 rfl rfl rfl rfl rfl) rfl rfl rfl rfl rfl ?_
                    refine TA.one 6 (by kernel_rfl) ?_
                    refine TX.y (listed' := #[true, true, true, true, true, true, true, true, true, true, true, true, false, false, true, false, false]) [] rfl (Y.load_el (us := [.int .u32 E37.v]) (u := .int .u32 E37.v) kk78 rfl (Can.own 0 rfl) (idx_get H38).2.2 rfl rfl rfl rfl rfl) rfl rfl rfl rfl rfl ?_
                    refine TA.y (listed' := #[true, true, true, true, true, true, true, true, true, true, true, true, true, false, true, false, false]) 12 [] rfl (Y.xor rfl rfl) rfl rfl rfl (by kernel_rfl) (by kernel_rfl) (by kernel_rfl) rfl rfl ?_
                    refine TA.one 13 (by kernel_rfl) ?_
                    refine TX.ef (listed' := #[true, true, true, true, true, true, true, true, true, true, true, true, true, true, true, false, false]) [] rfl (Ef.call (rest := [.own (arrS B_w_ 16) (lc (((((w_.set a.toNat (Wrd.mk (IntKind.u32.wrap (E1.v + E3.v)))).set d.toNat (Wrd.mk R11)).set c.toNat (Wrd.mk (IntKind.u32.wrap (E16.v + E18.v)))).set b.toNat (Wrd.mk R26)).set a.toNat (Wrd.mk (IntKind.u32.wrap (E31.v + E33.v)))))]) [0] (math_bits_RotateLeft32_con (ixor .u32 E37.v E39.v) (8 : Int)  R41 H42) kc61 rfl rfl trivial) rfl rfl rfl rfl (fun _ => rfl) (fun _ => ?_)
                    refine TA.one 15 (by kernel_rfl) ?_
                    refine TX.y (listed' := #[true, true, true, true, true, true, true, true, true, true, true, true, true, true, true, true, false]) [] rfl (Y.index_arr (α := Wrd) ka79 (Can.own 0 rfl) H38 rfl rfl) rfl rfl rfl rfl rfl ?_
                    refine TA.one 16 (by kernel_rfl) ?_
                    refine TX.ef0 (listed' := #[true, true, true, true, true, true, true, true, true, true, true, true, true, true, true, true, true]) [] rfl (Ef.store_el (us := [.int .u32 R41]) (is' := [.own (arrS B_w_ 16) (lc ((((((w_.set a.toNat (Wrd.mk (IntKind.u32.wrap (E1.v + E3.v)))).set d.toNat (Wrd.mk R11)).set c.toNat (Wrd.mk (IntKind.u32.wrap (E16.v + E18.v)))).set b.toNat (Wrd.mk R26)).set a.toNat (Wrd.mk (IntKind.u32.wrap (E31.v + E33.v)))).set d.toNat (Wrd.mk R41)))]) (Wrd.mk R41) 0 kk78 rfl rfl (idx_get H38).2.2 rfl rfl (Cel.plain rfl rfl) rfl rfl rfl rfl) rfl rfl rfl (fun _ => rfl) (fun _ => ?_)
                    refine TA.nil (by kernel_rfl) ?_
                    exact TE.jb_go () [0] ⟨rfl, rfl, rfl, rfl, trivial⟩ rfl
              · refine TX.y (listed' := #[true, true, true, true, true, false, false, true, true, true, true, false, false, false, true, false, false]) [] rfl (Y.index_arr (α := Wrd) ka79 (Can.own 0 rfl) H40 rfl rfl) rfl rfl rfl rfl rfl ?_
                refine TA.two 5 11 (by kernel_rfl) ?_ ?_
                · refine TX.y (listed' := #[true, true, true, true, true, true, false, true, true, true, true, false, false, false, true, false, false]) [] rfl (Y.index_arr (α := Wrd) ka79 (Can.own 0 rfl) H38 rfl rfl) rfl rfl rfl rfl rfl ?_
                  refine TA.two 6 11 (by kernel_rfl) ?_ ?_
                  · refine TX.y (listed' := #[true, true, true, true, true, true, true, true, true, true, true, false, false, false, true, false, false]) [] rfl (Y.load_el (us := [.int .u32 E37.v]) (u := .int .u32 E37.v) kk78 rfl (Can.own 0 rfl) (idx_get H38).2.2 rfl rfl rfl rfl rfl) rfl rfl rfl rfl rfl ?_
                    refine TA.one 11 (by kernel_rfl) ?_
                    refine TX.y (listed' := #[true, true, true, true, true, true, true, true, true, true, true, true, false, false, true, false, false]) [] rfl (Y.load_el (us := [.int .u32 E39.v]) (u := .int .u32 E39.v) kk78 rfl (Can.own 0 rfl) (idx_get H40).2.2 rfl rfl rfl rfl rfl) rfl rfl rfl rfl rfl ?_
                    refine TA.y (listed' := #[true, true, true, true, true, true, true, true, true, true, true, true, true, false, true, false, false]) 12 [] rfl (Y.xor rfl rfl) rfl rfl rfl (by kernel_rfl) (by kernel_rfl) (by kernel_rfl) rfl rfl ?_
                    refine TA.one 13 (by kernel_rfl) ?_
                    refine TX.ef (listed' := #[true, true, true, true, true, true, true, true, true, true, true, true, true, true, true, false, false]) [] rfl (Ef.call (rest := [.own (arrS B_w_ 16) (lc (((((w_.set a.toNat (Wrd.mk (IntKind.u32.wrap (E1.v + E3.v)))).set d.toNat (Wrd.mk R11)).set c.toNat (Wrd.mk (IntKind.u32.wrap (E16.v + E18.v)))).set b.toNat (Wrd.mk R26)).set a.toNat (Wrd.mk (IntKind.u32.wrap (E31.v + E33.v)))))]) [0] (math_bits_RotateLeft32_con (ixor .u32 E37.v E39.v) (8 : Int)  R41 H42) kc61 rfl rfl trivial) rfl rfl rfl rfl (fun _ => rfl) (fun _ => ?_)
                    refine TA.one 15 (by kernel_rfl) ?_
                    refine TX.y (listed' := #[true, true, true, true, true, true, true, true, true, true, true, true, true, true, true, true, false]) [] rfl (Y.index_arr (α := Wrd) ka79 (Can.own 0 rfl) H38 rfl rfl) rfl rfl rfl rfl rfl ?_
                    refine TA.one 16 (by kernel_rfl) ?_
                    refine TX.ef0 (listed' := #[true, true, true, true, true, true, true, true, true, true, true, true, true, true, true, true, true]) [] rfl (Ef.store_el (us := [.int .u32 R41]) (is' := [.own (arrS B_w_ 16) (lc ((((((w_.set a.toNat (Wrd.mk (IntKind.u32.wrap (E1.v + E3.v)))).set d.toNat (Wrd.mk R11)).set c.toNat (Wrd.mk (IntKind.u32.wrap (E16.v + E18.v)))).set b.toNat (Wrd.mk R26)).set a.toNat (Wrd.mk (IntKind.u32.wrap (E31.v + E33.v)))).set d.toNat (Wrd.mk R41)))]) (Wrd.mk R41) 0 kk78 rfl rfl (idx_get H38).2.2 rfl rfl (Cel.plain rfl rfl) rfl rfl rfl rfl) rfl rfl rfl (fun _ => rfl) (fun _ => ?_)
                    refine TA.nil (by kernel_rfl) ?_
                    exact TE.jb_go () [0] ⟨rfl, rfl, rfl, rfl, trivial⟩ rfl
                  · refine TX.y (listed' := #[true, true, true, true, true, true, false, true, true, true, true, true, false, false, true, false, false]) [] rfl (Y.load_el (us := [.int .u32 E39.v]) (u := .int .u32 E39.v) kk78 rfl (Can.own 0 rfl) (idx_get H40).2.2 rfl rfl rfl rfl rfl) rfl rfl rfl rfl rfl ?_
                    refine TA.one 6 (by kernel_rfl) ?_
                    refine TX.y (listed' := #[true, true, true, true, true, true, true, true, true, true, true, true, false, false, true, false, false]) [] rfl (Y.load_el (us := [.int .u32 E37.v]) (u := .int .u32 E37.v) kk78 rfl (Can.own 0 rfl) (idx_get H38).2.2 rfl rfl rfl rfl rfl) rfl rfl rfl rfl rfl ?_
                    refine TA.y (listed' := #[true, true, true, true, true, true, true, true, true, true, true, true, true, false, true, false, false]) 12 [] rfl (Y.xor rfl rfl) rfl rfl rfl (by kernel_rfl) (by kernel_rfl) (by kernel_rfl) rfl rfl ?_
                    refine TA.one 13 (by kernel_rfl) ?_
                    refine TX.ef (listed' := #[true, true, true, true, true, true, true, true, true, true, true, true, true, true, true, false, false]) [] rfl (Ef.call (rest := [.own (arrS B_w_ 16) (lc (((((w_.set a.toNat (Wrd.mk (IntKind.u32.wrap (E1.v + E3.v)))).set d.toNat (Wrd.mk R11)).set c.toNat (Wrd.mk (IntKind.u32.wrap (E16.v + E18.v)))).set b.toNat (Wrd.mk R26)).set a.toNat (Wrd.mk (IntKind.u32.wrap (E31.v + E33.v)))))]) [0] (math_bits_RotateLeft32_con (ixor .u32 E37.v E39.v) (8 : Int)  R41 H42) kc61 rfl rfl trivial) rfl rfl rfl rfl (fun _ => rfl) (fun _ => ?_)
                    refine TA.one 15 (by kernel_rfl) ?_
                    refine TX.y (listed' := #[true, true, true, true, true, true, true, true, true, true, true, true, true, true, true, true, false]) [] rfl (Y.index_arr (α := Wrd) ka79 (Can.own 0 rfl) H38 rfl rfl) rfl rfl rfl rfl rfl ?_
                    refine TA.one 16 (by kernel_rfl) ?_
                    refine TX.ef0 (listed' := #[true, true, true, true, true, true, true, true, true, true, true, true, true, true, true, true, true]) [] rfl (Ef.store_el (us := [.int .u32 R41]) (is' := [.own (arrS B_w_ 16) (lc ((((((w_.set a.toNat (Wrd.mk (IntKind.u32.wrap (E1.v + E3.v)))).set d.toNat (Wrd.mk R11)).set c.toNat (Wrd.mk (IntKind.u32.wrap (E16.v + E18.v)))).set b.toNat (Wrd.mk R26)).set a.toNat (Wrd.mk (IntKind.u32.wrap (E31.v + E33.v)))).set d.toNat (Wrd.mk R41)))]) (Wrd.mk R41) 0 kk78 rfl rfl (idx_get H38).2.2 rfl rfl (Cel.plain rfl rfl) rfl rfl rfl rfl) rfl rfl rfl (fun _ => rfl) (fun _ => ?_)
                    refine TA.nil (by kernel_rfl) ?_
                    exact TE.jb_go () [0] ⟨rfl, rfl, rfl, rfl, trivial⟩ rfl
                · refine TX.y (listed' := #[true, true, true, true, true, false, false, true, true, true, true, true, false, false, true, false, false]) [] rfl (Y.load_el (us := [.int .u32 E39.v]) (u := .int .u32 E39.v) kk78 rfl (Can.own 0 rfl) (idx_get H40).2.2 rfl rfl rfl rfl rfl) rfl rfl rfl rfl rfl ?_
                  refine TA.one 5 (by kernel_rfl) ?_
                  refine TX.y (listed' := #[true, true, true, true, true, true, false, true, true, true, true, true, false, false, true, false, false]) [] rfl (Y.index_arr (α := Wrd) ka79 (Can.own 0 rfl) H38 rfl rfl) rfl rfl rfl rfl rfl ?_
                  refine TA.one 6 (by kernel_rfl) ?_
                  refine TX.y (listed' := #[true, true, true, true, true, true, true, true, true, true, true, true, false, false, true, false, false]) [] rfl (Y.load_el (us := [.int .u32 E37.v]) (u := .int .u32 E37.v) kk78 rfl (Can.own 0 rfl) (idx_get H38).2.2 rfl rfl rfl rfl rfl) rfl rfl rfl rfl rfl ?_
                  refine TA.y (listed' := #[true, true, true, true, true, true, true, true, true, true, true, true, true, false, true, false, false]) 12 [] rfl (Y.xor rfl rfl) rfl rfl rfl (by kernel_rfl) (by kernel_rfl) (by kernel_rfl) rfl rfl ?_
                  refine TA.one 13 (by kernel_rfl) ?_
                  refine TX.ef (listed' := #[true, true, true, true, true, true, true, true, true, true, true, true, true, true, true, false, false]) [] rfl (Ef.call (rest := [.own (arrS B_w_ 16) (lc (((((w_.set a.toNat (Wrd.mk (IntKind.u32.wrap (E1.v + E3.v)))).set d.toNat (Wrd.mk R11)).set c.toNat (Wrd.mk (IntKind.u32.wrap (E16.v + E18.v)))).set b.toNat (Wrd.mk R26)).set a.toNat (Wrd.mk (IntKind.u32.wrap (E31.v + E33.v)))))]) [0] (math_bits_RotateLeft32_con (ixor .u32 E37.v E39.v) (8 : Int)  R41 H42) kc61 rfl rfl trivial) rfl rfl rfl rfl (fun _ => rfl) (fun _ => ?_)
                  refine TA.one 15 (by kernel_rfl) ?_
                  refine TX.y (listed' := #[true, true, true, true, true, true, true, true, true, true, true, true, true, true, true, true, false]) [] rfl (Y.index_arr (α := Wrd) ka79 (Can.own 0 rfl) H38 rfl rfl) rfl rfl rfl rfl rfl ?_
                  refine TA.one 16 (by kernel_rfl) ?_
                  refine TX.ef0 (listed' := #[true, true, true, true, true, true, true, true, true, true, true, true, true, true, true, true, true]) [] rfl (Ef.store_el (us := [.int .u32 R41]) (is' := [.own (arrS B_w_ 16) (lc ((((((w_.set a.toNat (Wrd.mk (IntKind.u32.wrap (E1.v + E3.v)))).set d.toNat (Wrd.mk R11)).set c.toNat (Wrd.mk (IntKind.u32.wrap (E16.v + E18.v)))).set b.toNat (Wrd.mk R26)).set a.toNat (Wrd.mk (IntKind.u32.wrap (E31.v + E33.v)))).set d.toNat (Wrd.mk R41)))]) (Wrd.mk R41) 0 kk78 rfl rfl (idx_get H38).2.2 rfl rfl (Cel.plain rfl rfl) rfl rfl rfl rfl) rfl rfl rfl (fun _ => rfl) (fun _ => ?_)
                  refine TA.nil (by kernel_rfl) ?_
                  exact TE.jb_go () [0] ⟨rfl, rfl, rfl, rfl, trivial⟩ rfl
            · refine TE.next ?_
              refine TW.seq ?_
              refine TW.bind fun E46 H47 => ?_
              refine TW.bind fun E48 H49 => ?_
              refine TW.joinU (X := Unit) (fun _ _ => [(0, .pointer (some ⟨B_w_, 0, none⟩)), (2, .int .i64 b), (3, .int .i64 c)]) (fun _ _ => [.own (arrS B_w_ 16) (lc (((((((w_.set a.toNat (Wrd.mk (IntKind.u32.wrap (E1.v + E3.v)))).set d.toNat (Wrd.mk R11)).set c.toNat (Wrd.mk (IntKind.u32.wrap (E16.v + E18.v)))).set b.toNat (Wrd.mk R26)).set a.toNat (Wrd.mk (IntKind.u32.wrap (E31.v + E33.v)))).set d.toNat (Wrd.mk R41)).set c.toNat (Wrd.mk (IntKind.u32.wrap (E46.v + E48.v)))))]) ?_ (fun _ X51 => ?_)
              · refine TW.draw (isH := []) hMix ?_
                refine TA.y (listed' := #[true, false, false, false, false, false, false, false, false, false, false, false, false, false]) 0 [] rfl (Y.move rfl) rfl rfl rfl (by kernel_rfl) (by kernel_rfl) (by kernel_rfl) rfl rfl ?_
                refine TA.y (listed' := #[true, true, false, false, false, false, false, false, false, false, false, false, false, false]) 1 [] rfl (Y.move rfl) rfl rfl rfl (by kernel_rfl) (by kernel_rfl) (by kernel_rfl) rfl rfl ?_
                refine TA.y (listed' := #[true, true, true, false, false, false, false, false, false, false, false, false, false, false]) 2 [] rfl (Y.nilCheck rfl) rfl rfl rfl (by kernel_rfl) (by kernel_rfl) (by kernel_rfl) rfl rfl ?_
                refine TA.y (listed' := #[true, true, true, false, false, true, false, false, false, false, false, false, false, false]) 5 [] rfl (Y.move rfl) rfl rfl rfl (by kernel_rfl) (by kernel_rfl) (by kernel_rfl) rfl rfl ?_
                refine TA.y (listed' := #[true, true, true, false, false, true, true, false, false, false, false, false, false, false]) 6 [] rfl (Y.move rfl) rfl rfl rfl (by kernel_rfl) (by kernel_rfl) (by kernel_rfl) rfl rfl ?_
                refine TA.y (listed' := #[true, true, true, false, false, true, true, true, false, false, false, false, false, false]) 7 [] rfl (Y.nilCheck rfl) rfl rfl rfl (by kernel_rfl) (by kernel_rfl) (by kernel_rfl) rfl rfl ?_
                refine TA.y (listed' := #[true, true, true, false, false, true, true, true, false, false, false, true, false, false]) 11 [] rfl (Y.nilCheck rfl) rfl rfl rfl (by kernel_rfl) (by kernel_rfl) (by kernel_rfl) rfl rfl ?_
                refine TA.two 3 8 (by kernel_rfl) ?_ ?_
                · refine TX.y (listed' := #[true, true, true, true, false, true, true, true, false, false, false, true, false, false]) [] rfl (Y.index_arr (α := Wrd) ka79 (Can.own 0 rfl) H47 rfl rfl) rfl rfl rfl rfl rfl ?_
                  refine TA.two 4 8 (by kernel_rfl) ?_ ?_
                  · refine TX.y (listed' := #[true, true, true, true, true, true, true, true, false, false, false, true, false, false]) [] rfl (Y.load_el (us := [.int .u32 E46.v]) (u := .int .u32 E46.v) kk78 rfl (Can.own 0 rfl) (idx_get H47).2.2 rfl rfl rfl rfl rfl) rfl rfl rfl rfl rfl ?_
                    refine TA.one 8 (by kernel_rfl) ?_
                    refine TX.y (listed' := #[true, true, true, true, true, true, true, true, true, false, false, true, false, false]) [] rfl (Y.index_arr (α := Wrd) ka79 (Can.own 0 rfl) H49 rfl rfl) rfl rfl rfl rfl rfl ?_
                    refine TA.one 9 (by kernel_rfl) ?_
                    refine TX.y (listed' := #[true, true, true, true, true, true, true, true, true, true, false, true, false, false]) [] rfl (Y.load_el (us := [.int .u32 E48.v]) (u := .int .u32 E48.v) kk78 rfl (Can.own 0 rfl) (idx_get H49).2.2 rfl rfl rfl rfl rfl) rfl rfl rfl rfl rfl ?_
                    refine TA.y (listed' := #[true, true, true, true, true, true, true, true, true, true, true, true, false, false]) 10 [] rfl (Y.add rfl rfl) rfl rfl rfl (by kernel_rfl) (by kernel_rfl) (by kernel_rfl) rfl rfl ?_
                    refine TA.one 12 (by kernel_rfl) ?_
                    refine TX.y (listed' := #[true, true, true, true, true, true, true, true, true, true, true, true, true, false]) [] rfl (Y.index_arr (α := Wrd) ka79 (Can.own 0 rfl) H47 rfl rfl) rfl rfl rfl rfl rfl ?_
                    refine TA.one 13 (by kernel_rfl) ?_
                    refine TX.ef0 (listed' := #[true, true, true, true, true, true, true, true, true, true, true, true, true, true]) [] rfl (Ef.store_el (us := [.int .u32 (IntKind.u32.wrap (E46.v + E48.v))]) (is' := [.own (arrS B_w_ 16) (lc (((((((w_.set a.toNat (Wrd.mk (IntKind.u32.wrap (E1.v + E3.v)))).set d.toNat (Wrd.mk R11)).set c.toNat (Wrd.mk (IntKind.u32.wrap (E16.v + E18.v)))).set b.toNat (Wrd.mk R26)).set a.toNat (Wrd.mk (IntKind.u32.wrap (E31.v + E33.v)))).set d.toNat (Wrd.mk R41)).set c.toNat (Wrd.mk (IntKind.u32.wrap (E46.v + E48.v)))))]) (Wrd.mk (IntKind.u32.wrap (E46.v + E48.v))) 0 kk78 rfl rfl (idx_get H47).2.2 rfl rfl (Cel.plain rfl rfl) rfl rfl rfl rfl) rfl rfl rfl (fun _ => rfl) (fun _ => ?_)
                    refine TA.nil (by kernel_rfl) ?_
                    exact TE.jb_go () [0] ⟨rfl, rfl, rfl, trivial⟩ rfl
                  · refine TX.y (listed' := #[true, true, true, true, false, true, true, true, true, false, false, true, false, false]) [] rfl (Y.index_arr (α := Wrd) ka79 (Can.own 0 rfl) H49 rfl rfl) rfl rfl rfl rfl rfl ?_
                    refine TA.two 4 9 (by kernel_rfl) ?_ ?_
                    · refine TX.y (listed' := #[true, true, true, true, true, true, true, true, true, false, false, true, false, false]) [] rfl (Y.load_el (us := [.int .u32 E46.v]) (u := .int .u32 E46.v) kk78 rfl (Can.own 0 rfl) (idx_get H47).2.2 rfl rfl rfl rfl rfl) rfl rfl rfl rfl rfl ?_
                      refine TA.one 9 (by kernel_rfl) ?_
                      refine TX.y (listed' := #[true, true, true, true, true, true, true, true, true, true, false, true, false, false]) [] rfl (Y.load_el (us := [.int .u32 E48.v]) (u := .int .u32 E48.v) kk78 rfl (Can.own 0 rfl) (idx_get H49).2.2 rfl rfl rfl rfl rfl) rfl rfl rfl rfl rfl ?_
                      refine TA.y (listed' := #[true, true, true, true, true, true, true, true, true, true, true, true, false, false]) 10 [] rfl (Y.add rfl rfl) rfl rfl rfl (by kernel_rfl) (by kernel_rfl) (by kernel_rfl) rfl rfl ?_
                      refine TA.one 12 (by kernel_rfl) ?_
                      refine TX.y (listed' := #[true, true, true, true, true, true, true, true, true, true, true, true, true, false]) [] rfl (Y.index_arr (α := Wrd) ka79 (Can.own 0 rfl) H47 rfl rfl) rfl rfl rfl rfl rfl ?_
                      refine TA.one 13 (by kernel_rfl) ?_
                      refine TX.ef0 (listed' := #[true, true, true, true, true, true, true, true, true, true, true, true, true, true]) [] rfl (Ef.store_el (us := [.int .u32 (IntKind.u32.wrap (E46.v + E48.v))]) (is' := [.own (arrS B_w_ 16) (lc (((((((w_.set a.toNat (Wrd.mk (IntKind.u32.wrap (E1.v + E3.v)))).set d.toNat (Wrd.mk R11)).set c.toNat (Wrd.mk (IntKind.u32.wrap (E16.v + E18.v)))).set b.toNat (Wrd.mk R26)).set a.toNat (Wrd.mk (IntKind.u32.wrap (E31.v + E33.v)))).set d.toNat (Wrd.mk R41)).set c.toNat (Wrd.mk (IntKind.u32.wrap (E46.v + E48.v)))))]) (Wrd.mk (IntKind.u32.wrap (E46.v + E48.v))) 0 kk78 rfl rfl (idx_get H47).2.2 rfl rfl (Cel.plain rfl rfl) rfl rfl rfl rfl) rfl rfl rfl (fun _ => rfl) (fun _ => ?_)
                      refine TA.nil (by kernel_rfl) ?_
                      exact TE.jb_go () [0] ⟨rfl, rfl, rfl, trivial⟩ rfl
                    · refine TX.y (listed' := #[true, true, true, true, false, true, true, true, true, true, false, true, false, false]) [] rfl (Y.load_el (us := [.int .u32 E48.v]) (u := .int .u32 E48.v) kk78 rfl (Can.own 0 rfl) (idx_get H49).2.2 rfl rfl rfl rfl rfl) rfl rfl rfl rfl rfl ?_
                      refine TA.one 4 (by kernel_rfl) ?_
                      refine TX.y (listed' := #[true, true, true, true, true, true, true, true, true, true, false, true, false, false]) [] rfl (Y.load_el (us := [.int .u32 E46.v]) (u := .int .u32 E46.v) kk78 rfl (Can.own 0 rfl) (idx_get H47).2.2 rfl rfl rfl rfl rfl) rfl rfl rfl rfl rfl ?_
                      refine TA.y (listed' := #[true, true, true, true, true, true, true, true, true, true, true, true, false, false]) 10 [] rfl (Y.add rfl rfl) rfl rfl rfl (by kernel_rfl) (by kernel_rfl) (by kernel_rfl) rfl rfl ?_
                      refine TA.one 12 (by kernel_rfl) ?_
                      refine TX.y (listed' := #[true, true, true, true, true, true, true, true, true, true, true, true, true, false]) [] rfl (Y.index_arr (α := Wrd) ka79 (Can.own 0 rfl) H47 rfl rfl) rfl rfl rfl rfl rfl ?_
                      refine TA.one 13 (by kernel_rfl) ?_
                      refine TX.ef0 (listed' := #[true, true, true, true, true, true, true, true, true, true, true, true, true, true]) [] rfl (Ef.store_el (us := [.int .u32 (IntKind.u32.wrap (E46.v + E48.v))]) (is' := [.own (arrS B_w_ 16) (lc (((((((w_.set a.toNat (Wrd.mk (IntKind.u32.wrap (E1.v + E3.v)))).set d.toNat (Wrd.mk R11)).set c.toNat (Wrd.mk (IntKind.u32.wrap (E16.v + E18.v)))).set b.toNat (Wrd.mk R26)).set a.toNat (Wrd.mk (IntKind.u32.wrap (E31.v + E33.v)))).set d.toNat (Wrd.mk R41)).set c.toNat (Wrd.mk (IntKind.u32.wrap (E46.v + E48.v)))))]) (Wrd.mk (IntKind.u32.wrap (E46.v + E48.v))) 0 kk78 rfl rfl (idx_get H47).2.2 rfl rfl (Cel.plain rfl rfl) rfl rfl rfl rfl) rfl rfl rfl (fun _ => rfl) (fun _ => ?_)
                      refine TA.nil (by kernel_rfl) ?_
                      exact TE.jb_go () [0] ⟨rfl, rfl, rfl, trivial⟩ rfl
                · refine TX.y (listed' := #[true, true, true, false, false, true, true, true, true, false, false, true, false, false]) [] rfl (Y.index_arr (α := Wrd) ka79 (Can.own 0 rfl) H49 rfl rfl) rfl rfl rfl rfl rfl ?_
                  refine TA.two 3 9 (by kernel_rfl) ?_ ?_
                  · refine TX.y (listed' := #[true, true, true, true, false, true, true, true, true, false, false, true, false, false]) [] rfl (Y.index_arr (α := Wrd) ka79 (Can.own 0 rfl) H47 rfl rfl) rfl rfl rfl rfl rfl ?_
                    refine TA.two 4 9 (by kernel_rfl) ?_ ?_
                    · refine TX.y (listed' := #[true, true, true, true, true, true, true, true, true, false, false, true, false, false]) [] rfl (Y.load_el (us := [.int .u32 E46.v]) (u := .int .u32 E46.v) kk78 rfl (Can.own 0 rfl) (idx_get H47).2.2 rfl rfl rfl rfl rfl) rfl rfl rfl rfl rfl ?_
                      refine TA.one 9 (by kernel_rfl) ?_
                      refine TX.y (listed' := #[true, true, true, true, true, true, true, true, true, true, false, true, false, false]) [] rfl (Y.load_el (us := [.int .u32 E48.v]) (u := .int .u32 E48.v) kk78 rfl (Can.own 0 rfl) (idx_get H49).2.2 rfl rfl rfl rfl rfl) rfl rfl rfl rfl rfl ?_
                      refine TA.y (listed' := #[true, true, true, true, true, true, true, true, true, true, true, true, false, false]) 10 [] rfl (Y.add rfl rfl) rfl rfl rfl (by kernel_rfl) (by kernel_rfl) (by kernel_rfl) rfl rfl ?_
                      refine TA.one 12 (by kernel_rfl) ?_
                      refine TX.y (listed' := #[true, true, true, true, true, true, true, true, true, true, true, true, true, false]) [] rfl (Y.index_arr (α := Wrd) ka79 (Can.own 0 rfl) H47 rfl rfl) rfl rfl rfl rfl rfl ?_
                      refine TA.one 13 (by kernel_rfl) ?_
                      refine TX.ef0 (listed' := #[true, true, true, true, true, true, true, true, true, true, true, true, true, true]) [] rfl (Ef.store_el (us := [.int .u32 (IntKind.u32.wrap (E46.v + E48.v))]) (is' := [.own (arrS B_w_ 16) (lc (((((((w_.set a.toNat (Wrd.mk (IntKind.u32.wrap (E1.v + E3.v)))).set d.toNat (Wrd.mk R11)).set c.toNat (Wrd.mk (IntKind.u32.wrap (E16.v + E18.v)))).set b.toNat (Wrd.mk R26)).set a.toNat (Wrd.mk (IntKind.u32.wrap (E31.v + E33.v)))).set d.toNat (Wrd.mk R41)).set c.toNat (Wrd.mk (IntKind.u32.wrap (E46.v + E48.v)))))]) (Wrd.mk (IntKind.u32.wrap (E46.v + E48.v))) 0 kk78 rfl rfl (idx_get H47).2.2 rfl rfl (Cel.plain rfl rfl) rfl rfl rfl rfl) rfl rfl rfl (fun _ => rfl) (fun _ => ?_)
                      refine TA.nil (by kernel_rfl) ?_
                      exact TE.jb_go () [0] ⟨rfl, rfl, rfl, trivial⟩ rfl
                    · refine TX.y (listed' := #[true, true, true, true, false, true, true, true, true, true, false, true, false, false]) [] rfl (Y.load_el (us := [.int .u32 E48.v]) (u := .int .u32 E48.v) kk78 rfl (Can.own 0 rfl) (idx_get H49).2.2 rfl rfl rfl rfl rfl) rfl rfl rfl rfl rfl ?_
                      refine TA.one 4 (by kernel_rfl) ?_
                      refine TX.y (listed' := #[true, true, true, true, true, true, true, true, true, true, false, true, false, false]) [] rfl (Y.load_el (us := [.int .u32 E46.v]) (u := .int .u32 E46.v) kk78 rfl (Can.own 0 rfl) (idx_get H47).2.2 rfl rfl rfl rfl rfl) rfl rfl rfl rfl rfl ?_
                      refine TA.y (listed' := #[true, true, true, true, true, true, true, true, true, true, true, true, false, false]) 10 [] rfl (Y.add rfl rfl) rfl rfl rfl (by kernel_rfl) (by kernel_rfl) (by kernel_rfl) rfl rfl ?_
                      refine TA.one 12 (by kernel_rfl) ?_
                      refine TX.y (listed' := #[true, true, true, true, true, true, true, true, true, true, true, true, true, false]) [] rfl (Y.index_arr (α := Wrd) ka79 (Can.own 0 rfl) H47 rfl rfl) rfl rfl rfl rfl rfl ?_
                      refine TA.one 13 (by kernel_rfl) ?_
                      refine TX.ef0 (listed' := #[true, true, true, true, true, true, true, true, true, true, true, true, true, true]) [] rfl (Ef.store_el (us := [.int .u32 (IntKind.u32.wrap (E46.v + E48.v))]) (is' := [.own (arrS B_w_ 16) (lc (((((((w_.set a.toNat (Wrd.mk (IntKind.u32.wrap (E1.v + E3.v)))).set d.toNat (Wrd.mk R11)).set c.toNat (Wrd.mk (IntKind.u32.wrap (E16.v + E18.v)))).set b.toNat (Wrd.mk R26)).set a.toNat (Wrd.mk (IntKind.u32.wrap (E31.v + E33.v)))).set d.toNat (Wrd.mk R41)).set c.toNat (Wrd.mk (IntKind.u32.wrap (E46.v + E48.v)))))]) (Wrd.mk (IntKind.u32.wrap (E46.v + E48.v))) 0 kk78 rfl rfl (idx_get H47).2.2 rfl rfl (Cel.plain rfl rfl) rfl rfl rfl rfl) rfl rfl rfl (fun _ => rfl) (fun _ => ?_)
                      refine TA.nil (by kernel_rfl) ?_
                      exact TE.jb_go () [0] ⟨rfl, rfl, rfl, trivial⟩ rfl
                  · refine TX.y (listed' := #[true, true, true, false, false, true, true, true, true, true, false, true, false, false]) [] rfl (Y.load_el (us := [.int .u32 E48.v]) (u := .int .u32 E48.v) kk78 rfl (Can.own 0 rfl) (idx_get H49).2.2 rfl rfl rfl rfl rfl) rfl rfl rfl rfl rfl ?_
                    refine TA.one 3 (by kernel_rfl) ?_
                    refine TX.y (listed' := #[true, true, true, true, false, true, true, true, true, true, false, true, false, false]) [] rfl (Y.index_arr (α := Wrd) ka79 (Can.own 0 rfl) H47 rfl rfl) rfl rfl rfl rfl rfl ?_
                    refine TA.one 4 (by kernel_rfl) ?_
                    refine TX.y (listed' := #[true, true, true, true, true, true, true, true, true, true, false, true, false, false]) [] rfl (Y.load_el (us := [.int .u32 E46.v]) (u := .int .u32 E46.v) kk78 rfl (Can.own 0 rfl) (idx_get H47).2.2 rfl rfl rfl rfl rfl) rfl rfl rfl rfl rfl ?_
                    refine TA.y (listed' := #[true, true, true, true, true, true, true, true, true, true, true, true, false, false]) 10 [] rfl (Y.add rfl rfl) rfl rfl rfl (by kernel_rfl) (by kernel_rfl) (by kernel_rfl) rfl rfl ?_
                    refine TA.one 12 (by kernel_rfl) ?_
                    refine TX.y (listed' := #[true, true, true, true, true, true, true, true, true, true, true, true, true, false]) [] rfl (Y.index_arr (α := Wrd) ka79 (Can.own 0 rfl) H47 rfl rfl) rfl rfl rfl rfl rfl ?_
                    refine TA.one 13 (by kernel_rfl) ?_
                    refine TX.ef0 (listed' := #[true, true, true, true, true, true, true, true, true, true, true, true, true, true]) [] rfl (Ef.store_el (us := [.int .u32 (IntKind.u32.wrap (E46.v + E48.v))]) (is' := [.own (arrS B_w_ 16) (lc (((((((w_.set a.toNat (Wrd.mk (IntKind.u32.wrap (E1.v + E3.v)))).set d.toNat (Wrd.mk R11)).set c.toNat (Wrd.mk (IntKind.u32.wrap (E16.v + E18.v)))).set b.toNat (Wrd.mk R26)).set a.toNat (Wrd.mk (IntKind.u32.wrap (E31.v + E33.v)))).set d.toNat (Wrd.mk R41)).set c.toNat (Wrd.mk (IntKind.u32.wrap (E46.v + E48.v)))))]) (Wrd.mk (IntKind.u32.wrap (E46.v + E48.v))) 0 kk78 rfl rfl (idx_get H47).2.2 rfl rfl (Cel.plain rfl rfl) rfl rfl rfl rfl) rfl rfl rfl (fun _ => rfl) (fun _ => ?_)
                    refine TA.nil (by kernel_rfl) ?_
                    exact TE.jb_go () [0] ⟨rfl, rfl, rfl, trivial⟩ rfl
              · refine TE.next ?_
                refine TW.bind fun E52 H53 => ?_
                refine TW.bind fun E54 H55 => ?_
                refine TW.bind fun R56 H57 => ?_
                refine TW.joinU (X := Unit) (fun _ _ => []) (fun _ _ => [.own (arrS B_w_ 16) (lc ((((((((w_.set a.toNat (Wrd.mk (IntKind.u32.wrap (E1.v + E3.v)))).set d.toNat (Wrd.mk R11)).set c.toNat (Wrd.mk (IntKind.u32.wrap (E16.v + E18.v)))).set b.toNat (Wrd.mk R26)).set a.toNat (Wrd.mk (IntKind.u32.wrap (E31.v + E33.v)))).set d.toNat (Wrd.mk R41)).set c.toNat (Wrd.mk (IntKind.u32.wrap (E46.v + E48.v)))).set b.toNat (Wrd.mk R56)))]) ?_ (fun _ X60 => ?_)
                · refine TW.draw (isH := []) hMix ?_
                  refine TA.y (listed' := #[true, false, false, false, false, false, false, false, false, false, false, false, false, false, false, false, false]) 0 [] rfl (Y.move rfl) rfl rfl rfl (by kernel_rfl) (by kernel_rfl) (by kernel_rfl) rfl rfl ?_
                  refine TA.y (listed' := #[true, true, false, false, false, false, false, false, false, false, false, false, false, false, false, false, false]) 1 [] rfl (Y.move rfl) rfl rfl rfl (by kernel_rfl) (by kernel_rfl) (by kernel_rfl) rfl rfl ?_
                  refine TA.y (listed' := #[true, true, true, false, false, false, false, false, false, false, false, false, false, false, false, false, false]) 2 [] rfl (Y.move rfl) rfl rfl rfl (by kernel_rfl) (by kernel_rfl) (by kernel_rfl) rfl rfl ?_
                  refine TA.y (listed' := #[true, true, true, true, false, false, false, false, false, false, false, false, false, false, false, false, false]) 3 [] rfl (Y.move rfl) rfl rfl rfl (by kernel_rfl) (by kernel_rfl) (by kernel_rfl) rfl rfl ?_
                  refine TA.y (listed' := #[true, true, true, true, true, false, false, false, false, false, false, false, false, false, false, false, false]) 4 [] rfl (Y.nilCheck rfl) rfl rfl rfl (by kernel_rfl) (by kernel_rfl) (by kernel_rfl) rfl rfl ?_
                  refine TA.y (listed' := #[true, true, true, true, true, false, false, true, false, false, false, false, false, false, false, false, false]) 7 [] rfl (Y.move rfl) rfl rfl rfl (by kernel_rfl) (by kernel_rfl) (by kernel_rfl) rfl rfl ?_
                  refine TA.y (listed' := #[true, true, true, true, true, false, false, true, true, false, false, false, false, false, false, false, false]) 8 [] rfl (Y.move rfl) rfl rfl rfl (by kernel_rfl) (by kernel_rfl) (by kernel_rfl) rfl rfl ?_
                  refine TA.y (listed' := #[true, true, true, true, true, false, false, true, true, true, false, false, false, false, false, false, false]) 9 [] rfl (Y.nilCheck rfl) rfl rfl rfl (by kernel_rfl) (by kernel_rfl) (by kernel_rfl) rfl rfl ?_
                  refine TA.y (listed' := #[true, true, true, true, true, false, false, true, true, true, false, false, false, false, true, false, false]) 14 [] rfl (Y.nilCheck rfl) rfl rfl rfl (by kernel_rfl) (by kernel_rfl) (by kernel_rfl) rfl rfl ?_
                  refine TA.two 5 10 (by kernel_rfl) ?_ ?_
                  · refine TX.y (listed' := #[true, true, true, true, true, true, false, true, true, true, false, false, false, false, true, false, false]) [] rfl (Y.index_arr (α := Wrd) ka79 (Can.own 0 rfl) H53 rfl rfl) rfl rfl rfl rfl rfl ?_
                    refine TA.two 6 10 (by kernel_rfl) ?_ ?_
                    · refine TX.y (listed' := #[true, true, true, true, true, true, true, true, true, true, false, false, false, false, true, false, false]) [] rfl (Y.load_el (us := [.int .u32 E52.v]) (u := .int .u32 E52.v) kk78 rfl (Can.own 0 rfl) (idx_get H53).2.2 rfl rfl rfl rfl rfl) rfl rfl rfl rfl rfl ?_
                      refine TA.one 10 (by kernel_rfl) ?_
                      refine TX.y (listed' := #[true, true, true, true, true, true, true, true, true, true, true, false, false, false, true, false, false]) [] rfl (Y.index_arr (α := Wrd) ka79 (Can.own 0 rfl) H55 rfl rfl) rfl rfl rfl rfl rfl ?_
                      refine TA.one 11 (by kernel_rfl) ?_
                      refine TX.y (listed' := #[true, true, true, true, true, true, true, true, true, true, true, true, false, false, true, false, false]) [] rfl (Y.load_el (us := [.int .u32 E54.v]) (u := .int .u32 E54.v) kk78 rfl (Can.own 0 rfl) (idx_get H55).2.2 rfl rfl rfl rfl rfl) rfl rfl rfl rfl rfl ?_
                      refine TA.y (listed' := #[true, true, true, true, true, true, true, true, true, true, true, true, true, false, true, false, false]) 12 [] rfl (Y.xor rfl rfl) rfl rfl rfl (by kernel_rfl) (by kernel_rfl) (by kernel_rfl) rfl rfl ?_
                      refine TA.one 13 (by kernel_rfl) ?_
                      refine TX.ef (listed' := #[true, true, true, true, true, true, true, true, true, true, true, true, true, true, true, false, false]) [] rfl (Ef.call (rest := [.own (arrS B_w_ 16) (lc (((((((w_.set a.toNat (Wrd.mk (IntKind.u32.wrap (E1.v + E3.v)))).set d.toNat (Wrd.mk R11)).set c.toNat (Wrd.mk (IntKind.u32.wrap (E16.v + E18.v)))).set b.toNat (Wrd.mk R26)).set a.toNat (Wrd.mk (IntKind.u32.wrap (E31.v + E33.v)))).set d.toNat (Wrd.mk R41)).set c.toNat (Wrd.mk (IntKind.u32.wrap (E46.v + E48.v)))))]) [0] (math_bits_RotateLeft32_con (ixor .u32 E52.v E54.v) (7 : Int)  R56 H57) kc61 rfl rfl trivial) rfl rfl rfl rfl (fun _ => rfl) (fun _ => ?_)
                      refine TA.one 15 (by kernel_rfl) ?_
                      refine TX.y (listed' := #[true, true, true, true, true, true, true, true, true, true, true, true, true, true, true, true, false]) [] rfl (Y.index_arr (α := Wrd) ka79 (Can.own 0 rfl) H53 rfl rfl) rfl rfl rfl rfl rfl ?_
                      refine TA.one 16 (by kernel_rfl) ?_
                      refine TX.ef0 (listed' := #[true, true, true, true, true, true, true, true, true, true, true, true, true, true, true, true, true]) [] rfl (Ef.store_el (us := [.int .u32 R56]) (is' := [.own (arrS B_w_ 16) (lc ((((((((w_.set a.toNat (Wrd.mk (IntKind.u32.wrap (E1.v + E3.v)))).set d.toNat (Wrd.mk R11)).set c.toNat (Wrd.mk (IntKind.u32.wrap (E16.v + E18.v)))).set b.toNat (Wrd.mk R26)).set a.toNat (Wrd.mk (IntKind.u32.wrap (E31.v + E33.v)))).set d.toNat (Wrd.mk R41)).set c.toNat (Wrd.mk (IntKind.u32.wrap (E46.v + E48.v)))).set b.toNat (Wrd.mk R56)))]) (Wrd.mk R56) 0 kk78 rfl rfl (idx_get H53).2.2 rfl rfl (Cel.plain rfl rfl) rfl rfl rfl rfl) rfl rfl rfl (fun _ => rfl) (fun _ => ?_)
                      refine TA.nil (by kernel_rfl) ?_
                      exact TE.jb_go () [0] trivial rfl
                    · refine TX.y (listed' := #[true, true, true, true, true, true, false, true, true, true, true, false, false, false, true, false, false]) [] rfl (Y.index_arr (α := Wrd) ka79 (Can.own 0 rfl) H55 rfl rfl) rfl rfl rfl rfl rfl ?_
                      refine TA.two 6 11 (by kernel_rfl) ?_ ?_
                      · refine TX.y (listed' := #[true, true, true, true, true, true, true, true, true, true, true, false, false, false, true, false, false]) [] rfl (Y.load_el (us := [.int .u32 E52.v]) (u := .int .u32 E52.v) kk78 rfl (Can.own 0 rfl) (idx_get H53).2.2 rfl rfl rfl rfl rfl) rfl rfl rfl rfl rfl ?_
                        refine TA.one 11 (by kernel_rfl) ?_
                        refine TX.y (listed' := #[true, true, true, true, true, true, true, true, true, true, true, true, false, false, true, false, false]) [] rfl (Y.load_el (us := [.int .u32 E54.v]) (u := .int .u32 E54.v) kk78 rfl (Can.own 0 rfl) (idx_get H55).2.2 rfl rfl rfl rfl rfl) rfl rfl rfl rfl rfl ?_
                        refine TA.y (listed' := #[true, true, true, true, true, true, true, true, true, true, true, true, true, false, true, false, false]) 12 [] rfl (Y.xor rfl rfl) rfl rfl rfl (by kernel_rfl) (by kernel_rfl) (by kernel_rfl) rfl rfl ?_
                        refine TA.one 13 (by kernel_rfl) ?_
                        refine TX.ef (listed' := #[true, true, true, true, true, true, true, true, true, true, true, true, true, true, true, false, false]) [] rfl (Ef.call (rest := [.own (arrS B_w_ 16) (lc (((((((w_.set a.toNat (Wrd.mk (IntKind.u32.wrap (E1.v + E3.v)))).set d.toNat (Wrd.mk R11)).set c.toNat (Wrd.mk (IntKind.u32.wrap (E16.v + E18.v)))).set b.toNat (Wrd.mk R26)).set a.toNat (Wrd.mk (IntKind.u32.wrap (E31.v + E33.v)))).set d.toNat (Wrd.mk R41)).set c.toNat (Wrd.mk (IntKind.u32.wrap (E46.v + E48.v)))))]) [0] (math_bits_RotateLeft32_con (ixor .u32 E52.v E54.v) (7 : Int)  R56 H57) kc61 rfl rfl trivial) rfl rfl rfl rfl (fun _ => rfl) (fun _ => ?_)
                        refine TA.one 15 (by kernel_rfl) ?_
                        refine TX.y (listed' := #[true, true, true, true, true, true, true, true, true, true, true, true, true, true, true, true, false]) [] rfl (Y.index_arr (α := Wrd) ka79 (Can.own 0 rfl) H53 rfl rfl) rfl rfl rfl rfl rfl ?_
                        refine TA.one 16 (by kernel_rfl) ?_
                        refine TX.ef0 (listed' := #[true, true, true, true, true, true, true, true, true, true, true, true, true, true, true, true, true]) [] rfl (Ef.store_el (us := [.int .u32 R56]) (is' := [.own (arrS B_w_ 16) (lc ((((((((w_.set a.toNat (Wrd.mk (IntKind.u32.wrap (E1.v + E3.v)))).set d.toNat (Wrd.mk R11)).set c.toNat (Wrd.mk (IntKind.u32.wrap (E16.v + E18.v)))).set b.toNat (Wrd.mk R26)).set a.toNat (Wrd.mk (IntKind.u32.wrap (E31.v + E33.v)))).set d.toNat (Wrd.mk R41)).set c.toNat (Wrd.mk (IntKind.u32.wrap (E46.v + E48.v)))).set b.toNat (Wrd.mk R56)))]) (Wrd.mk R56) 0 kk78 rfl rfl (idx_get H53).2.2 rfl rfl (Cel.plain rfl rfl) rfl rfl rfl rfl) rfl rfl rfl (fun _ => rfl) (fun _ => ?_)
                        refine TA.nil (by kernel_rfl) ?_
                        exact TE.jb_go () [0] trivial rfl
                      · refine TX.y (listed' := #[true, true, true, true, true, true, false, true, true, true, true, true, false, false, true, false, false]) [] rfl (Y.load_el (us := [.int .u32 E54.v]) (u := .int .u32 E54.v) kk78 rfl (Can.own 0 rfl) (idx_get H55).2.2 rfl rfl rfl rfl rfl) rfl rfl rfl rfl rfl ?_
                        refine TA.one 6 (by kernel_rfl) ?_
                        refine TX.y (listed' := #[true, true, true, true, true, true, true, true, true, true, true, true, false, false, true, false, false]) [] rfl (Y.load_el (us := [.int .u32 E52.v]) (u := .int .u32 E52.v) kk78 rfl (Can.own 0 rfl) (idx_get H53).2.2 rfl rfl rfl rfl rfl) rfl rfl rfl rfl rfl ?_
                        refine TA.y (listed' := #[true, true, true, true, true, true, true, true, true, true, true, true, true, false, true, false, false]) 12 [] rfl (Y.xor rfl rfl) rfl rfl rfl (by kernel_rfl) (by kernel_rfl) (by kernel_rfl) rfl rfl ?_
                        refine TA.one 13 (by kernel_rfl) ?_
                        refine TX.ef (listed' := #[true, true, true, true, true, true, true, true, true, true, true, true, true, true, true, false, false]) [] rfl (Ef.call (rest := [.own (arrS B_w_ 16) (lc (((((((w_.set a.toNat (Wrd.mk (IntKind.u32.wrap (E1.v + E3.v)))).set d.toNat (Wrd.mk R11)).set c.toNat (Wrd.mk (IntKind.u32.wrap (E16.v + E18.v)))).set b.toNat (Wrd.mk R26)).set a.toNat (Wrd.mk (IntKind.u32.wrap (E31.v + E33.v)))).set d.toNat (Wrd.mk R41)).set c.toNat (Wrd.mk (IntKind.u32.wrap (E46.v + E48.v)))))]) [0] (math_bits_RotateLeft32_con (ixor .u32 E52.v E54.v) (7 : Int)  R56 H57) kc61 rfl rfl trivial) rfl rfl rfl rfl (fun _ => rfl) (fun _ => ?_)
                        refine TA.one 15 (by kernel_rfl) ?_
                        refine TX.y (listed' := #[true, true, true, true, true, true, true, true, true, true, true, true, true, true, true, true, false]) [] rfl (Y.index_arr (α := Wrd) ka79 (Can.own 0 rfl) H53 rfl rfl) rfl rfl rfl rfl rfl ?_
                        refine TA.one 16 (by kernel_rfl) ?_
                        refine TX.ef0 (listed' := #[true, true, true, true, true, true, true, true, true, true, true, true, true, true, true, true, true]) [] rfl (Ef.store_el (us := [.int .u32 R56]) (is' := [.own (arrS B_w_ 16) (lc ((((((((w_.set a.toNat (Wrd.mk (IntKind.u32.wrap (E1.v + E3.v)))).set d.toNat (Wrd.mk R11)).set c.toNat (Wrd.mk (IntKind.u32.wrap (E16.v + E18.v)))).set b.toNat (Wrd.mk R26)).set a.toNat (Wrd.mk (IntKind.u32.wrap (E31.v + E33.v)))).set d.toNat (Wrd.mk R41)).set c.toNat (Wrd.mk (IntKind.u32.wrap (E46.v + E48.v)))).set b.toNat (Wrd.mk R56)))]) (Wrd.mk R56) 0 kk78 rfl rfl (idx_get H53).2.2 rfl rfl (Cel.plain rfl rfl) rfl rfl rfl rfl) rfl rfl rfl (fun _ => rfl) (fun _ => ?_)
                        refine TA.nil (by kernel_rfl) ?_
                        exact TE.jb_go () [0] trivial rfl
                  · refine TX.y (listed' := #[true, true, true, true, true, false, false, true, true, true, true, false, false, false, true, false, false]) [] rfl (Y.index_arr (α := Wrd) ka79 (Can.own 0 rfl) H55 rfl rfl) rfl rfl rfl rfl rfl ?_
                    refine TA.two 5 11 (by kernel_rfl) ?_ ?_
                    · refine TX.y (listed' := #[true, true, true, true, true, true, false, true, true, true, true, false, false, false, true, false, false]) [] rfl (Y.index_arr (α := Wrd) ka79 (Can.own 0 rfl) H53 rfl rfl) rfl rfl rfl rfl rfl ?_
                      refine TA.two 6 11 (by kernel_rfl) ?_ ?_
                      · refine TX.y (listed' := #[true, true, true, true, true, true, true, true, true, true, true, false, false, false, true, false, false]) [] rfl (Y.load_el (us := [.int .u32 E52.v]) (u := .int .u32 E52.v) kk78 rfl (Can.own 0 rfl) (idx_get H53).2.2 rfl rfl rfl rfl rfl) rfl rfl rfl rfl rfl ?_
                        refine TA.one 11 (by kernel_rfl) ?_
                        refine TX.y (listed' := #[true, true, true, true, true, true, true, true, true, true, true, true, false, false, true, false, false]) [] rfl (Y.load_el (us := [.int .u32 E54.v]) (u := .int .u32 E54.v) kk78 rfl (Can.own 0 rfl) (idx_get H55).2.2 rfl rfl rfl rfl rfl) rfl rfl rfl rfl rfl ?_
                        refine TA.y (listed' := #[true, true, true, true, true, true, true, true, true, true, true, true, true, false, true, false, false]) 12 [] rfl (Y.xor rfl rfl) rfl rfl rfl (by kernel_rfl) (by kernel_rfl) (by kernel_rfl) rfl rfl ?_
                        refine TA.one 13 (by kernel_rfl) ?_
                        refine TX.ef (listed' := #[true, true, true, true, true, true, true, true, true, true, true, true, true, true, true, false, false]) [] rfl (Ef.call (rest := [.own (arrS B_w_ 16) (lc (((((((w_.set a.toNat (Wrd.mk (IntKind.u32.wrap (E1.v + E3.v)))).set d.toNat (Wrd.mk R11)).set c.toNat (Wrd.mk (IntKind.u32.wrap (E16.v + E18.v)))).set b.toNat (Wrd.mk R26)).set a.toNat (Wrd.mk (IntKind.u32.wrap (E31.v + E33.v)))).set d.toNat (Wrd.mk R41)).set c.toNat (Wrd.mk (IntKind.u32.wrap (E46.v + E48.v)))))]) [0] (math_bits_RotateLeft32_con (ixor .u32 E52.v E54.v) (7 : Int)  R56 H57) kc61 rfl rfl trivial) rfl rfl rfl rfl (fun _ => rfl) (fun _ => ?_)
                        refine TA.one 15 (by kernel_rfl) ?_
                        refine TX.y (listed' := #[true, true, true, true, true, true, true, true, true, true, true, true, true, true, true, true, false]) [] rfl (Y.index_arr (α := Wrd) ka79 (Can.own 0 rfl) H53 rfl rfl) rfl rfl rfl rfl rfl ?_
                        refine TA.one 16 (by kernel_rfl) ?_
                        refine TX.ef0 (listed' := #[true, true, true, true, true, true, true, true, true, true, true, true, true, true, true, true, true]) [] rfl (Ef.store_el (us := [.int .u32 R56]) (is' := [.own (arrS B_w_ 16) (lc ((((((((w_.set a.toNat (Wrd.mk (IntKind.u32.wrap (E1.v + E3.v)))).set d.toNat (Wrd.mk R11)).set c.toNat (Wrd.mk (IntKind.u32.wrap (E16.v + E18.v)))).set b.toNat (Wrd.mk R26)).set a.toNat (Wrd.mk (IntKind.u32.wrap (E31.v + E33.v)))).set d.toNat (Wrd.mk R41)).set c.toNat (Wrd.mk (IntKind.u32.wrap (E46.v + E48.v)))).set b.toNat (Wrd.mk R56)))]) (Wrd.mk R56) 0 kk78 rfl rfl (idx_get H53).2.2 rfl rfl (Cel.plain rfl rfl) rfl rfl rfl rfl) rfl rfl rfl (fun _ => rfl) (fun _ => ?_)
                        refine TA.nil (by kernel_rfl) ?_
                        exact TE.jb_go () [0] trivial rfl
                      · refine TX.y (listed' := #[true, true, true, true, true, true, false, true, true, true, true, true, false, false, true, false, false]) [] rfl (Y.load_el (us := [.int .u32 E54.v]) (u := .int .u32 E54.v) kk78 rfl (Can.own 0 rfl) (idx_get H55).2.2 rfl rfl rfl rfl rfl) rfl rfl rfl rfl rfl ?_
                        refine TA.one 6 (by kernel_rfl) ?_
                        refine TX.y (listed' := #[true, true, true, true, true, true, true, true, true, true, true, true, false, false, true, false, false]) [] rfl (Y.load_el (us := [.int .u32 E52.v]) (u := .int .u32 E52.v) kk78 rfl (Can.own 0 rfl) (idx_get H53).2.2 rfl rfl rfl rfl rfl) rfl rfl rfl rfl rfl ?_
                        refine TA.y (listed' := #[true, true, true, true, true, true, true, true, true, true, true, true, true, false, true, false, false]) 12 [] rfl (Y.xor rfl rfl) rfl rfl rfl (by kernel_rfl) (by kernel_rfl) (by kernel_rfl) rfl rfl ?_
                        refine TA.one 13 (by kernel_rfl) ?_
                        refine TX.ef (listed' := #[true, true, true, true, true, true, true, true, true, true, true, true, true, true, true, false, false]) [] rfl (Ef.call (rest := [.own (arrS B_w_ 16) (lc (((((((w_.set a.toNat (Wrd.mk (IntKind.u32.wrap (E1.v + E3.v)))).set d.toNat (Wrd.mk R11)).set c.toNat (Wrd.mk (IntKind.u32.wrap (E16.v + E18.v)))).set b.toNat (Wrd.mk R26)).set a.toNat (Wrd.mk (IntKind.u32.wrap (E31.v + E33.v)))).set d.toNat (Wrd.mk R41)).set c.toNat (Wrd.mk (IntKind.u32.wrap (E46.v + E48.v)))))]) [0] (math_bits_RotateLeft32_con (ixor .u32 E52.v E54.v) (7 : Int)  R56 H57) kc61 rfl rfl trivial) rfl rfl rfl rfl (fun _ => rfl) (fun _ => ?_)
                        refine TA.one 15 (by kernel_rfl) ?_
                        refine TX.y (listed' := #[true, true, true, true, true, true, true, true, true, true, true, true, true, true, true, true, false]) [] rfl (Y.index_arr (α := Wrd) ka79 (Can.own 0 rfl) H53 rfl rfl) rfl rfl rfl rfl rfl ?_
                        refine TA.one 16 (by kernel_rfl) ?_
                        refine TX.ef0 (listed' := #[true, true, true, true, true, true, true, true, true, true, true, true, true, true, true, true, true]) [] rfl (Ef.store_el (us := [.int .u32 R56]) (is' := [.own (arrS B_w_ 16) (lc ((((((((w_.set a.toNat (Wrd.mk (IntKind.u32.wrap (E1.v + E3.v)))).set d.toNat (Wrd.mk R11)).set c.toNat (Wrd.mk (IntKind.u32.wrap (E16.v + E18.v)))).set b.toNat (Wrd.mk R26)).set a.toNat (Wrd.mk (IntKind.u32.wrap (E31.v + E33.v)))).set d.toNat (Wrd.mk R41)).set c.toNat (Wrd.mk (IntKind.u32.wrap (E46.v + E48.v)))).set b.toNat (Wrd.mk R56)))]) (Wrd.mk R56) 0 kk78 rfl rfl (idx_get H53).2.2 rfl rfl (Cel.plain rfl rfl) rfl rfl rfl rfl) rfl rfl rfl (fun _ => rfl) (fun _ => ?_)
                        refine TA.nil (by kernel_rfl) ?_
                        exact TE.jb_go () [0] trivial rfl
                    · refine TX.y (listed' := #[true, true, true, true, true, false, false, true, true, true, true, true, false, false, true, false, false]) [] rfl (Y.load_el (us := [.int .u32 E54.v]) (u := .int .u32 E54.v) kk78 rfl (Can.own 0 rfl) (idx_get H55).2.2 rfl rfl rfl rfl rfl) rfl rfl rfl rfl rfl ?_
                      refine TA.one 5 (by kernel_rfl) ?_
                      refine TX.y (listed' := #[true, true, true, true, true, true, false, true, true, true, true, true, false, false, true, false, false]) [] rfl (Y.index_arr (α := Wrd) ka79 (Can.own 0 rfl) H53 rfl rfl) rfl rfl rfl rfl rfl ?_
                      refine TA.one 6 (by kernel_rfl) ?_
                      refine TX.y (listed' := #[true, true, true, true, true, true, true, true, true, true, true, true, false, false, true, false, false]) [] rfl (Y.load_el (us := [.int .u32 E52.v]) (u := .int .u32 E52.v) kk78 rfl (Can.own 0 rfl) (idx_get H53).2.2 rfl rfl rfl rfl rfl) rfl rfl rfl rfl rfl ?_
                      refine TA.y (listed' := #[true, true, true, true, true, true, true, true, true, true, true, true, true, false, true, false, false]) 12 [] rfl (Y.xor rfl rfl) rfl rfl rfl (by kernel_rfl) (by kernel_rfl) (by kernel_rfl) rfl rfl ?_
                      refine TA.one 13 (by kernel_rfl) ?_
                      refine TX.ef (listed' := #[true, true, true, true, true, true, true, true, true, true, true, true, true, true, true, false, false]) [] rfl (Ef.call (rest := [.own (arrS B_w_ 16) (lc (((((((w_.set a.toNat (Wrd.mk (IntKind.u32.wrap (E1.v + E3.v)))).set d.toNat (Wrd.mk R11)).set c.toNat (Wrd.mk (IntKind.u32.wrap (E16.v + E18.v)))).set b.toNat (Wrd.mk R26)).set a.toNat (Wrd.mk (IntKind.u32.wrap (E31.v + E33.v)))).set d.toNat (Wrd.mk R41)).set c.toNat (Wrd.mk (IntKind.u32.wrap (E46.v + E48.v)))))]) [0] (math_bits_RotateLeft32_con (ixor .u32 E52.v E54.v) (7 : Int)  R56 H57) kc61 rfl rfl trivial) rfl rfl rfl rfl (fun _ => rfl) (fun _ => ?_)
                      refine TA.one 15 (by kernel_rfl) ?_
                      refine TX.y (listed' := #[true, true, true, true, true, true, true, true, true, true, true, true, true, true, true, true, false]) [] rfl (Y.index_arr (α := Wrd) ka79 (Can.own 0 rfl) H53 rfl rfl) rfl rfl rfl rfl rfl ?_
                      refine TA.one 16 (by kernel_rfl) ?_
                      refine TX.ef0 (listed' := #[true, true, true, true, true, true, true, true, true, true, true, true, true, true, true, true, true]) [] rfl (Ef.store_el (us := [.int .u32 R56]) (is' := [.own (arrS B_w_ 16) (lc ((((((((w_.set a.toNat (Wrd.mk (IntKind.u32.wrap (E1.v + E3.v)))).set d.toNat (Wrd.mk R11)).set c.toNat (Wrd.mk (IntKind.u32.wrap (E16.v + E18.v)))).set b.toNat (Wrd.mk R26)).set a.toNat (Wrd.mk (IntKind.u32.wrap (E31.v + E33.v)))).set d.toNat (Wrd.mk R41)).set c.toNat (Wrd.mk (IntKind.u32.wrap (E46.v + E48.v)))).set b.toNat (Wrd.mk R56)))]) (Wrd.mk R56) 0 kk78 rfl rfl (idx_get H53).2.2 rfl rfl (Cel.plain rfl rfl) rfl rfl rfl rfl) rfl rfl rfl (fun _ => rfl) (fun _ => ?_)
                      refine TA.nil (by kernel_rfl) ?_
                      exact TE.jb_go () [0] trivial rfl
                · exact TE.leaf fun _ _ hf_ hs_ => ret_any (rs := []) (vs := []) (.inr rfl) rfl trivial hf_ hs_ ⟨(), rfl, hs_.pulls [0] rfl⟩

/-- loop.example/g00950/impl.ChaBlock -/
noncomputable def impl_ChaBlock (key : List UInt8) (counter : Int) (nonce : List UInt8) : Option (List UInt8) :=
  (impl_isCha key counter nonce).bind fun R1 =>
  if (!R1) = true then (some ([]))
  else ((impl_firstWords key counter nonce).bind fun R5 =>
  (lenIs 16 R5).bind fun E9 =>
  bindC (loopO (fun (S12 : Int × List Wrd) => if (decide (S12.1 < (10 : Int))) = true then (bindC (loopO (fun (S17 : Int × List Wrd) => if (decide (S17.1 < (4 : Int))) = true then ((impl_quarter S17.2 S17.1 (IntKind.i64.wrap ((4 : Int) + S17.1)) (IntKind.i64.wrap ((8 : Int) + S17.1)) (IntKind.i64.wrap ((12 : Int) + S17.1))).bind fun R22 =>
  some (.go (IntKind.i64.wrap (S17.1 + (1 : Int)), R22)))
  else (some (.done (.go S17.2))))
  ((0 : Int), S12.2))
  (fun (T19 : List Wrd) => bindC (loopO (fun (S25 : Int × List Wrd) => if (decide (S25.1 < (4 : Int))) = true then ((impl_quarter S25.2 S25.1 (IntKind.i64.wrap ((4 : Int) + (Int.tmod (IntKind.i64.wrap (S25.1 + (1 : Int))) (4 : Int)))) (IntKind.i64.wrap ((8 : Int) + (Int.tmod (IntKind.i64.wrap (S25.1 + (2 : Int))) (4 : Int)))) (IntKind.i64.wrap ((12 : Int) + (Int.tmod (IntKind.i64.wrap (S25.1 + (3 : Int))) (4 : Int))))).bind fun R30 =>
  some (.go (IntKind.i64.wrap (S25.1 + (1 : Int)), R30)))
  else (some (.done (.go S25.2))))
  ((0 : Int), T19))
  (fun (T27 : List Wrd) => some (.go (IntKind.i64.wrap (S12.1 + (1 : Int)), T27)))))
  else (some (.done (.go S12.2))))
  ((0 : Int), R5))
  (fun (T14 : List Wrd) => (mkLen 1 (64 : Int)).bind fun E34 =>
  bindC (loopO (fun (S36 : Int × List UInt8) => if (decide (S36.1 < (16 : Int))) = true then ((lenIs 16 T14).bind fun E41 =>
  (idx T14 S36.1).bind fun E43 =>
  (idx R5 S36.1).bind fun E45 =>
  (app 1 S36.2 ([toU8 (IntKind.u32.wrap (E43.v + E45.v)), toU8 (ishr .u32 (IntKind.u32.wrap (E43.v + E45.v)) (8 : Int)), toU8 (ishr .u32 (IntKind.u32.wrap (E43.v + E45.v)) (16 : Int)), toU8 (ishr .u32 (IntKind.u32.wrap (E43.v + E45.v)) (24 : Int))])).bind fun E49 =>
  some (.go (IntKind.i64.wrap (S36.1 + (1 : Int)), E49)))
  else (some (.done (.go S36.2))))
  ((0 : Int), ([] : List UInt8)))
  (fun (T38 : List UInt8) => some T38)))

theorem impl_ChaBlock_con (key : List UInt8) (counter : Int) (nonce : List UInt8)  (r : List UInt8) (hm : impl_ChaBlock key counter nonce = some r) :
    Con Try.prog 43 [strV key, .int .i64 counter, strV nonce] [] [] (fun _ : Unit => strV r) (fun _ => []) := by
  refine Con.intro (args := [strV key, .int .i64 counter, strV nonce]) (n := 85) (val := fun r (_ : Unit) => strV r) (post := fun _ _ => []) (m := impl_ChaBlock key counter nonce) Try.func43 rfl rfl rfl hm ?_
  intro w S _
  unfold impl_ChaBlock
  refine TW.seq ?_
  refine TW.region ?_
  refine TO.y (Y.assign rfl) rfl rfl rfl ?_
  refine TO.nil ?_
  refine TE.next ?_
  refine TW.seq ?_
  refine TW.seq ?_
  refine TW.region ?_
  refine TO.y (Y.move rfl) rfl rfl rfl ?_
  refine TO.y (Y.move rfl) rfl rfl rfl ?_
  refine TO.y (Y.move rfl) rfl rfl rfl ?_
  refine TO.bind fun R1 H2 => ?_
  refine TO.ef (Ef.call (rest := []) [] (impl_isCha_con key counter nonce  R1 H2) kc54 rfl rfl trivial) rfl rfl rfl (fun _ => ?_)
  refine TO.y (Y.not rfl) rfl rfl rfl ?_
  refine TO.nil ?_
  refine TE.next ?_
  refine TW.cond rfl (fun H4 => ?_) (fun H4 => ?_)
  · refine TW.seq ?_
    refine TW.region ?_
    refine TO.y (Y.assign rfl) rfl rfl rfl ?_
    refine TO.nil ?_
    refine TE.next ?_
    refine TW.ret ?_
    refine TE.then_ret ?_
    exact TE.leaf fun _ _ hf_ hs_ => ret_any (rs := [.tmp 6]) (vs := [strV ([])]) (.inl rfl) rfl ⟨rfl, trivial⟩ hf_ hs_ ⟨(), rfl, hs_.pulls [] rfl⟩
  · refine TW.skip ?_
    refine TE.next ?_
    refine TW.seq ?_
    refine TW.region ?_
    refine TO.y (Y.move rfl) rfl rfl rfl ?_
    refine TO.y (Y.move rfl) rfl rfl rfl ?_
    refine TO.y (Y.move rfl) rfl rfl rfl ?_
    refine TO.bind fun R5 H6 => ?_
    refine TO.ef (Ef.call (rest := []) [] (impl_firstWords_con key counter nonce  R5 H6) kc55 rfl rfl trivial) rfl rfl rfl (fun _ => ?_)
    refine TO.ef (Ef.allocArr (α := Wrd) (List.replicate 16 (Wrd.mk 0)) kz79 rfl (by decide)) rfl rfl rfl (fun B8 => ?_)
    refine TO.bind fun E9 H10 => ?_
    refine TO.ef0 (Ef.store_arr (α := Wrd) (is' := [.own (arrS B8 16) (lc R5)]) 0 kk79 rfl (by decide) (lenIs_eq H10) rfl rfl rfl rfl) rfl rfl (fun _ => ?_)
    refine TO.nil ?_
    refine TE.next ?_
    refine TW.seq ?_
    refine TW.region ?_
    refine TO.y (Y.load_arr (α := Wrd) kk79 rfl (by decide) (Can.own 0 rfl) rfl) rfl rfl rfl ?_
    refine TO.ef (Ef.allocArr (α := Wrd) (List.replicate 16 (Wrd.mk 0)) kz79 rfl (by decide)) rfl rfl rfl (fun B11 => ?_)
    refine TO.ef0 (Ef.store_arr (α := Wrd) (is' := [.own (arrS B11 16) (lc R5), .own (arrS B8 16) (lc R5)]) 0 kk79 rfl (by decide) (lenIs_eq H10) rfl rfl rfl rfl) rfl rfl (fun _ => ?_)
    refine TO.nil ?_
    refine TE.next ?_
    refine TW.seq ?_
    refine TW.seq ?_
    refine TW.region ?_
    refine TO.y (Y.move rfl) rfl rfl rfl ?_
    refine TO.nil ?_
    refine TE.next ?_
    refine TW.joinX (τ := List Wrd) (X := Unit) (fun _ _ => [(7, .pointer (some ⟨B8, 0, none⟩)), (8, .pointer (some ⟨B11, 0, none⟩))]) (fun T _ => [.own (arrS B8 16) (lc R5), .own (arrS B11 16) (lc T)]) ?_ (fun T14 X15 => ?_)
    · refine TW.block ?_
      refine TW.loopX (σ := Int × List Wrd) (X := Unit) (fun T _ => [(7, .pointer (some ⟨B8, 0, none⟩)), (8, .pointer (some ⟨B11, 0, none⟩)), (24, .int .i64 T.1)]) (fun T _ => [.own (arrS B8 16) (lc R5), .own (arrS B11 16) (lc T.2)]) () [1, 0] ⟨rfl, rfl, rfl, trivial⟩ rfl (fun S12 X13 => ?_)
      refine TW.seq ?_
      refine TW.region ?_
      refine TO.y (Y.lss rfl rfl) rfl rfl rfl ?_
      refine TO.nil ?_
      refine TE.next ?_
      refine TW.seq ?_
      refine TW.cond rfl (fun H16 => ?_) (fun H16 => ?_)
      · refine TW.skip ?_
        refine TE.next ?_
        refine TW.seq ?_
        refine TW.block ?_
        refine TW.seq ?_
        refine TW.seq ?_
        refine TW.region ?_
        refine TO.y (Y.move rfl) rfl rfl rfl ?_
        refine TO.nil ?_
        refine TE.next ?_
        refine TW.joinX (τ := List Wrd) (X := Unit) (fun _ _ => [(7, .pointer (some ⟨B8, 0, none⟩)), (8, .pointer (some ⟨B11, 0, none⟩)), (24, .int .i64 S12.1)]) (fun T _ => [.own (arrS B8 16) (lc R5), .own (arrS B11 16) (lc T)]) ?_ (fun T19 X20 => ?_)
        · refine TW.block ?_
          refine TW.loopX (σ := Int × List Wrd) (X := Unit) (fun T _ => [(7, .pointer (some ⟨B8, 0, none⟩)), (8, .pointer (some ⟨B11, 0, none⟩)), (24, .int .i64 S12.1), (26, .int .i64 T.1)]) (fun T _ => [.own (arrS B8 16) (lc R5), .own (arrS B11 16) (lc T.2)]) () [0, 0] ⟨rfl, rfl, rfl, rfl, trivial⟩ rfl (fun S17 X18 => ?_)
          refine TW.seq ?_
          refine TW.region ?_
          refine TO.y (Y.lss rfl rfl) rfl rfl rfl ?_
          refine TO.nil ?_
          refine TE.next ?_
          refine TW.seq ?_
          refine TW.cond rfl (fun H21 => ?_) (fun H21 => ?_)
          · refine TW.skip ?_
            refine TE.next ?_
            refine TW.seq ?_
            refine TW.block ?_
            refine TW.seq ?_
            refine TW.region ?_
            refine TO.y (Y.move rfl) rfl rfl rfl ?_
            refine TO.y (Y.assign rfl) rfl rfl rfl ?_
            refine TO.nil ?_
            refine TE.next ?_
            refine TW.region ?_
            refine TO.y (Y.move rfl) rfl rfl rfl ?_
            refine TO.y (Y.move rfl) rfl rfl rfl ?_
            refine TO.y (Y.add rfl rfl) rfl rfl rfl ?_
            refine TO.y (Y.move rfl) rfl rfl rfl ?_
            refine TO.y (Y.add rfl rfl) rfl rfl rfl ?_
            refine TO.y (Y.move rfl) rfl rfl rfl ?_
            refine TO.y (Y.add rfl rfl) rfl rfl rfl ?_
            refine TO.bind fun R22 H23 => ?_
            refine TO.ef (Ef.call (rest := [.own (arrS B8 16) (lc R5)]) [1, 0] (impl_quarter_con S17.2 S17.1 (IntKind.i64.wrap ((4 : Int) + S17.1)) (IntKind.i64.wrap ((8 : Int) + S17.1)) (IntKind.i64.wrap ((12 : Int) + S17.1)) B11 R22 H23) kc56 rfl rfl trivial) rfl rfl rfl (fun _ => ?_)
            refine TO.nil ?_
            refine TE.block_normal ?_
            refine TE.next ?_
            refine TW.region ?_
            refine TO.y (Y.add rfl rfl) rfl rfl rfl ?_
            refine TO.y (Y.move rfl) rfl rfl rfl ?_
            refine TO.nil ?_
            exact TE.lp_go () [1, 0] ⟨rfl, rfl, rfl, rfl, trivial⟩ rfl
          · refine TW.exit ?_
            refine TE.then_exit ?_
            refine TE.lp_exit ?_
            refine TE.block_exit ?_
            exact TE.jn_go () [0, 0] ⟨rfl, rfl, rfl, trivial⟩ rfl
        · refine TE.next ?_
          refine TW.seq ?_
          refine TW.region ?_
          refine TO.y (Y.move rfl) rfl rfl rfl ?_
          refine TO.nil ?_
          refine TE.next ?_
          refine TW.joinX (τ := List Wrd) (X := Unit) (fun _ _ => [(7, .pointer (some ⟨B8, 0, none⟩)), (8, .pointer (some ⟨B11, 0, none⟩)), (24, .int .i64 S12.1)]) (fun T _ => [.own (arrS B8 16) (lc R5), .own (arrS B11 16) (lc T)]) ?_ (fun T27 X28 => ?_)
          · refine TW.block ?_
            refine TW.loopX (σ := Int × List Wrd) (X := Unit) (fun T _ => [(7, .pointer (some ⟨B8, 0, none⟩)), (8, .pointer (some ⟨B11, 0, none⟩)), (24, .int .i64 S12.1), (38, .int .i64 T.1)]) (fun T _ => [.own (arrS B8 16) (lc R5), .own (arrS B11 16) (lc T.2)]) () [0, 0] ⟨rfl, rfl, rfl, rfl, trivial⟩ rfl (fun S25 X26 => ?_)
            refine TW.seq ?_
            refine TW.region ?_
            refine TO.y (Y.lss rfl rfl) rfl rfl rfl ?_
            refine TO.nil ?_
            refine TE.next ?_
            refine TW.seq ?_
            refine TW.cond rfl (fun H29 => ?_) (fun H29 => ?_)
            · refine TW.skip ?_
              refine TE.next ?_
              refine TW.seq ?_
              refine TW.block ?_
              refine TW.seq ?_
              refine TW.region ?_
              refine TO.y (Y.move rfl) rfl rfl rfl ?_
              refine TO.y (Y.assign rfl) rfl rfl rfl ?_
              refine TO.nil ?_
              refine TE.next ?_
              refine TW.region ?_
              refine TO.y (Y.move rfl) rfl rfl rfl ?_
              refine TO.y (Y.move rfl) rfl rfl rfl ?_
              refine TO.y (Y.add rfl rfl) rfl rfl rfl ?_
              refine TO.y (Y.rem (by decide) rfl rfl) rfl rfl rfl ?_
              refine TO.y (Y.add rfl rfl) rfl rfl rfl ?_
              refine TO.y (Y.move rfl) rfl rfl rfl ?_
              refine TO.y (Y.add rfl rfl) rfl rfl rfl ?_
              refine TO.y (Y.rem (by decide) rfl rfl) rfl rfl rfl ?_
              refine TO.y (Y.add rfl rfl) rfl rfl rfl ?_
              refine TO.y (Y.move rfl) rfl rfl rfl ?_
              refine TO.y (Y.add rfl rfl) rfl rfl rfl ?_
              refine TO.y (Y.rem (by decide) rfl rfl) rfl rfl rfl ?_
              refine TO.y (Y.add rfl rfl) rfl rfl rfl ?_
              refine TO.bind fun R30 H31 => ?_
              refine TO.ef (Ef.call (rest := [.own (arrS B8 16) (lc R5)]) [1, 0] (impl_quarter_con S25.2 S25.1 (IntKind.i64.wrap ((4 : Int) + (Int.tmod (IntKind.i64.wrap (S25.1 + (1 : Int))) (4 : Int)))) (IntKind.i64.wrap ((8 : Int) + (Int.tmod (IntKind.i64.wrap (S25.1 + (2 : Int))) (4 : Int)))) (IntKind.i64.wrap ((12 : Int) + (Int.tmod (IntKind.i64.wrap (S25.1 + (3 : Int))) (4 : Int)))) B11 R30 H31) kc56 rfl rfl trivial) rfl rfl rfl (fun _ => ?_)
              refine TO.nil ?_
              refine TE.block_normal ?_
              refine TE.next ?_
              refine TW.region ?_
              refine TO.y (Y.add rfl rfl) rfl rfl rfl ?_
              refine TO.y (Y.move rfl) rfl rfl rfl ?_
              refine TO.nil ?_
              exact TE.lp_go () [1, 0] ⟨rfl, rfl, rfl, rfl, trivial⟩ rfl
            · refine TW.exit ?_
              refine TE.then_exit ?_
              refine TE.lp_exit ?_
              refine TE.block_exit ?_
              exact TE.jn_go () [0, 0] ⟨rfl, rfl, rfl, trivial⟩ rfl
          · refine TE.block_normal ?_
            refine TE.next ?_
            refine TW.region ?_
            refine TO.y (Y.add rfl rfl) rfl rfl rfl ?_
            refine TO.y (Y.move rfl) rfl rfl rfl ?_
            refine TO.nil ?_
            exact TE.lp_go () [0, 0] ⟨rfl, rfl, rfl, trivial⟩ rfl
      · refine TW.exit ?_
        refine TE.then_exit ?_
        refine TE.lp_exit ?_
        refine TE.block_exit ?_
        exact TE.jn_go () [0, 0] ⟨rfl, rfl, trivial⟩ rfl
    · refine TE.next ?_
      refine TW.seq ?_
      refine TW.region ?_
      refine TO.bind fun E34 H35 => ?_
      refine TO.ef (Ef.make0 (α := UInt8) (z := (0 : UInt8)) H35 ke22 kz5 rfl rfl rfl rfl) rfl rfl rfl (fun V33 => ?_)
      refine TO.y (Y.assign rfl) rfl rfl rfl ?_
      refine TO.nil ?_
      refine TE.next ?_
      refine TW.seq ?_
      refine TW.seq ?_
      refine TW.region ?_
      refine TO.y (Y.load_arr (α := Wrd) kk79 rfl (by decide) (Can.own 2 rfl) rfl) rfl rfl rfl ?_
      refine TO.y (Y.move rfl) rfl rfl rfl ?_
      refine TO.nil ?_
      refine TE.next ?_
      refine TW.joinX (τ := List UInt8) (X := Value) (fun _ X => [(11, X)]) (fun T X => [.own X (lc T)]) ?_ (fun T38 X39 => ?_)
      · refine TW.block ?_
        refine TW.loopX (σ := Int × List UInt8) (X := Value) (fun T X => [(7, .pointer (some ⟨B8, 0, none⟩)), (11, X), (58, arrV T14), (59, .int .i64 T.1)]) (fun T X => [.own (arrS B8 16) (lc R5), .own X (lc T.2)]) V33 [1, 0] ⟨rfl, rfl, rfl, rfl, trivial⟩ rfl (fun S36 X37 => ?_)
        refine TW.seq ?_
        refine TW.region ?_
        refine TO.y (Y.lss rfl rfl) rfl rfl rfl ?_
        refine TO.nil ?_
        refine TE.next ?_
        refine TW.seq ?_
        refine TW.cond rfl (fun H40 => ?_) (fun H40 => ?_)
        · refine TW.skip ?_
          refine TE.next ?_
          refine TW.seq ?_
          refine TW.block ?_
          refine TW.seq ?_
          refine TW.region ?_
          refine TO.y (Y.move rfl) rfl rfl rfl ?_
          refine TO.bind fun E41 H42 => ?_
          refine TO.bind fun E43 H44 => ?_
          refine TO.y (Y.idx_arr ka79 kk78 (lenIs_eq H42) H44 rfl rfl) rfl rfl rfl ?_
          refine TO.y (Y.assign rfl) rfl rfl rfl ?_
          refine TO.y (Y.assign rfl) rfl rfl rfl ?_
          refine TO.nil ?_
          refine TE.next ?_
          refine TW.seq ?_
          refine TW.region ?_
          refine TO.y (Y.move rfl) rfl rfl rfl ?_
          refine TO.y (Y.move rfl) rfl rfl rfl ?_
          refine TO.bind fun E45 H46 => ?_
          refine TO.y (Y.index_arr (α := Wrd) ka79 (Can.own 0 rfl) H46 rfl rfl) rfl rfl rfl ?_
          refine TO.y (Y.load_el (us := [.int .u32 E45.v]) (u := .int .u32 E45.v) kk78 rfl (Can.own 0 rfl) (idx_get H46).2.2 rfl rfl rfl rfl rfl) rfl rfl rfl ?_
          refine TO.y (Y.add rfl rfl) rfl rfl rfl ?_
          refine TO.y (Y.assign rfl) rfl rfl rfl ?_
          refine TO.nil ?_
          refine TE.next ?_
          refine TW.region ?_
          refine TO.y (Y.move rfl) rfl rfl rfl ?_
          refine TO.y (Y.move rfl) rfl rfl rfl ?_
          refine TO.y (Y.conv8 ki78 ki5 rfl) rfl rfl rfl ?_
          refine TO.y (Y.move rfl) rfl rfl rfl ?_
          refine TO.y (Y.shr (by decide) rfl rfl) rfl rfl rfl ?_
          refine TO.y (Y.conv8 ki78 ki5 rfl) rfl rfl rfl ?_
          refine TO.y (Y.move rfl) rfl rfl rfl ?_
          refine TO.y (Y.shr (by decide) rfl rfl) rfl rfl rfl ?_
          refine TO.y (Y.conv8 ki78 ki5 rfl) rfl rfl rfl ?_
          refine TO.y (Y.move rfl) rfl rfl rfl ?_
          refine TO.y (Y.shr (by decide) rfl rfl) rfl rfl rfl ?_
          refine TO.y (Y.conv8 ki78 ki5 rfl) rfl rfl rfl ?_
          refine TO.ef (Ef.buildSlice (α := UInt8) (Vs := [.int .u8 (((toU8 (IntKind.u32.wrap (E43.v + E45.v))).toNat : Nat) : Int), .int .u8 (((toU8 (ishr .u32 (IntKind.u32.wrap (E43.v + E45.v)) (8 : Int))).toNat : Nat) : Int), .int .u8 (((toU8 (ishr .u32 (IntKind.u32.wrap (E43.v + E45.v)) (16 : Int))).toNat : Nat) : Int), .int .u8 (((toU8 (ishr .u32 (IntKind.u32.wrap (E43.v + E45.v)) (24 : Int))).toNat : Nat) : Int)]) [toU8 (IntKind.u32.wrap (E43.v + E45.v)), toU8 (ishr .u32 (IntKind.u32.wrap (E43.v + E45.v)) (8 : Int)), toU8 (ishr .u32 (IntKind.u32.wrap (E43.v + E45.v)) (16 : Int)), toU8 (ishr .u32 (IntKind.u32.wrap (E43.v + E45.v)) (24 : Int))] ke22 kz5 rfl rfl rfl rfl rfl) rfl rfl rfl (fun B47 => ?_)
          refine TO.bind fun E49 H50 => ?_
          refine TO.ef (Ef.append (α := UInt8) (is' := [.own (.slice (some ⟨B47, 0, none⟩) 4 4) (lc ([toU8 (IntKind.u32.wrap (E43.v + E45.v)), toU8 (ishr .u32 (IntKind.u32.wrap (E43.v + E45.v)) (8 : Int)), toU8 (ishr .u32 (IntKind.u32.wrap (E43.v + E45.v)) (16 : Int)), toU8 (ishr .u32 (IntKind.u32.wrap (E43.v + E45.v)) (24 : Int))])), .own (arrS B8 16) (lc R5)]) [2, 0, 0] H50 ke22 kz5 rfl rfl rfl rfl rfl (Can.own 0 rfl)) rfl rfl rfl (fun V48 => ?_)
          refine TO.y (Y.assign rfl) rfl rfl rfl ?_
          refine TO.nil ?_
          refine TE.block_normal ?_
          refine TE.next ?_
          refine TW.region ?_
          refine TO.y (Y.add rfl rfl) rfl rfl rfl ?_
          refine TO.y (Y.move rfl) rfl rfl rfl ?_
          refine TO.nil ?_
          exact TE.lp_go V48 [2, 0] ⟨rfl, rfl, rfl, rfl, trivial⟩ rfl
        · refine TW.exit ?_
          refine TE.then_exit ?_
          refine TE.lp_exit ?_
          refine TE.block_exit ?_
          exact TE.jn_go X37 [1] ⟨rfl, trivial⟩ rfl
      · refine TE.next ?_
        refine TW.seq ?_
        refine TW.region ?_
        refine TO.y (Y.move rfl) rfl rfl rfl ?_
        refine TO.y (Y.toStr ke22 ki5 ks9 (Can.own 0 rfl) rfl) rfl rfl rfl ?_
        refine TO.y (Y.assign rfl) rfl rfl rfl ?_
        refine TO.nil ?_
        refine TE.next ?_
        refine TW.ret ?_
        exact TE.leaf fun _ _ hf_ hs_ => ret_any (rs := [.tmp 6]) (vs := [strV T38]) (.inl rfl) rfl ⟨rfl, trivial⟩ hf_ hs_ ⟨(), rfl, hs_.pulls [] rfl⟩

/-- loop.example/g00950/impl.MintToken -/
noncomputable def impl_MintToken (secret : List UInt8) (tenant : Int) (epoch : Int) : Option (List UInt8) :=
  (if (!(decide (((secret.length : Nat) : Int) = (32 : Int)))) = true then (some true)
  else ((impl_isTenant tenant).bind fun R4 =>
  if (!R4) = true then (some true)
  else ((impl_isNumber epoch).bind fun R8 =>
  some (!R8)))).bind (fun (T1 : Bool) =>
  if T1 = true then (some ([]))
  else ((impl_Var tenant).bind fun R12 =>
  (impl_Var epoch).bind fun R15 =>
  (cat R12 R15).bind fun E18 =>
  (impl_NonceOf (2 : Int) tenant).bind fun R20 =>
  (impl_ChaBlock secret epoch R20).bind fun R23 =>
  (ssub R23 0 (8 : Int)).bind fun E26 =>
  (cat E18 E26).bind fun E28 =>
  some E28))

theorem impl_MintToken_con (secret : List UInt8) (tenant : Int) (epoch : Int)  (r : List UInt8) (hm : impl_MintToken secret tenant epoch = some r) :
    Con Try.prog 20 [strV secret, .int .i64 tenant, .int .i64 epoch] [] [] (fun _ : Unit => strV r) (fun _ => []) := by
  refine Con.intro (args := [strV secret, .int .i64 tenant, .int .i64 epoch]) (n := 32) (val := fun r (_ : Unit) => strV r) (post := fun _ _ => []) (m := impl_MintToken secret tenant epoch) Try.func20 rfl rfl rfl hm ?_
  intro w S _
  unfold impl_MintToken
  refine TW.seq ?_
  refine TW.region ?_
  refine TO.y (Y.assign rfl) rfl rfl rfl ?_
  refine TO.nil ?_
  refine TE.next ?_
  refine TW.seq ?_
  refine TW.seq ?_
  refine TW.joinBX (τ := Bool) (X := Unit) (fun T _ => [(0, strV secret), (1, .int .i64 tenant), (2, .int .i64 epoch), (19, .bool T)]) (fun _ _ => []) ?_ (fun T1 X2 => ?_)
  · refine TW.region ?_
    refine TO.y (Y.move rfl) rfl rfl rfl ?_
    refine TO.y (Y.slen ks9 rfl) rfl rfl rfl ?_
    refine TO.y (Y.neq rfl rfl) rfl rfl rfl ?_
    refine TO.y (Y.move rfl) rfl rfl rfl ?_
    refine TO.ite (b := !(decide (((secret.length : Nat) : Int) = (32 : Int)))) (fun H3 => ?_) (fun H3 => ?_)
    · refine TO.off (Gd.at 3 false 10 (!(decide (((secret.length : Nat) : Int) = (32 : Int)))) rfl rfl rfl (beq_tf H3)) rfl rfl ?_
      refine TO.off (Gd.at 3 false 10 (!(decide (((secret.length : Nat) : Int) = (32 : Int)))) rfl rfl rfl (beq_tf H3)) rfl rfl ?_
      refine TO.off (Gd.at 3 false 10 (!(decide (((secret.length : Nat) : Int) = (32 : Int)))) rfl rfl rfl (beq_tf H3)) rfl rfl ?_
      refine TO.y (Y.pick_t H3 rfl rfl) rfl rfl rfl ?_
      refine TO.y (Y.move rfl) rfl rfl rfl ?_
      refine TO.off (Gd.at 8 false 15 true rfl rfl rfl rfl) rfl rfl ?_
      refine TO.off (Gd.at 8 false 15 true rfl rfl rfl rfl) rfl rfl ?_
      refine TO.off (Gd.at 8 false 15 true rfl rfl rfl rfl) rfl rfl ?_
      refine TO.y (Y.pick_t rfl rfl rfl) rfl rfl rfl ?_
      refine TO.nil ?_
      exact TE.jb_go () [] ⟨rfl, rfl, rfl, rfl, trivial⟩ rfl
    · refine TO.y (Y.move rfl) (Gd.at 3 false 10 (!(decide (((secret.length : Nat) : Int) = (32 : Int)))) rfl rfl rfl (beq_ff H3)) rfl rfl ?_
      refine TO.bind fun R4 H5 => ?_
      refine TO.ef (Ef.call (rest := []) [] (impl_isTenant_con tenant  R4 H5) kc29 rfl rfl trivial) (Gd.at 3 false 10 (!(decide (((secret.length : Nat) : Int) = (32 : Int)))) rfl rfl rfl (beq_ff H3)) rfl rfl (fun _ => ?_)
      refine TO.y (Y.not rfl) (Gd.at 3 false 10 (!(decide (((secret.length : Nat) : Int) = (32 : Int)))) rfl rfl rfl (beq_ff H3)) rfl rfl ?_
      refine TO.y (Y.pick_f H3 rfl rfl) rfl rfl rfl ?_
      refine TO.y (Y.move rfl) rfl rfl rfl ?_
      refine TO.ite (b := !R4) (fun H7 => ?_) (fun H7 => ?_)
      · refine TO.off (Gd.at 8 false 15 (!R4) rfl rfl rfl (beq_tf H7)) rfl rfl ?_
        refine TO.off (Gd.at 8 false 15 (!R4) rfl rfl rfl (beq_tf H7)) rfl rfl ?_
        refine TO.off (Gd.at 8 false 15 (!R4) rfl rfl rfl (beq_tf H7)) rfl rfl ?_
        refine TO.y (Y.pick_t H7 rfl rfl) rfl rfl rfl ?_
        refine TO.nil ?_
        exact TE.jb_go () [] ⟨rfl, rfl, rfl, rfl, trivial⟩ rfl
      · refine TO.y (Y.move rfl) (Gd.at 8 false 15 (!R4) rfl rfl rfl (beq_ff H7)) rfl rfl ?_
        refine TO.bind fun R8 H9 => ?_
        refine TO.ef (Ef.call (rest := []) [] (impl_isNumber_con epoch  R8 H9) kc41 rfl rfl trivial) (Gd.at 8 false 15 (!R4) rfl rfl rfl (beq_ff H7)) rfl rfl (fun _ => ?_)
        refine TO.y (Y.not rfl) (Gd.at 8 false 15 (!R4) rfl rfl rfl (beq_ff H7)) rfl rfl ?_
        refine TO.y (Y.pick_f H7 rfl rfl) rfl rfl rfl ?_
        refine TO.nil ?_
        exact TE.jb_go () [] ⟨rfl, rfl, rfl, rfl, trivial⟩ rfl
  · refine TE.next ?_
    refine TW.cond rfl (fun H11 => ?_) (fun H11 => ?_)
    · refine TW.seq ?_
      refine TW.region ?_
      refine TO.y (Y.assign rfl) rfl rfl rfl ?_
      refine TO.nil ?_
      refine TE.next ?_
      refine TW.ret ?_
      refine TE.then_ret ?_
      exact TE.leaf fun _ _ hf_ hs_ => ret_any (rs := [.tmp 6]) (vs := [strV ([])]) (.inl rfl) rfl ⟨rfl, trivial⟩ hf_ hs_ ⟨(), rfl, hs_.pulls [] rfl⟩
    · refine TW.skip ?_
      refine TE.next ?_
      refine TW.seq ?_
      refine TW.region ?_
      refine TO.y (Y.move rfl) rfl rfl rfl ?_
      refine TO.bind fun R12 H13 => ?_
      refine TO.ef (Ef.call (rest := []) [] (impl_Var_con tenant  R12 H13) kc42 rfl rfl trivial) rfl rfl rfl (fun _ => ?_)
      refine TO.y (Y.move rfl) rfl rfl rfl ?_
      refine TO.bind fun R15 H16 => ?_
      refine TO.ef (Ef.call (rest := []) [] (impl_Var_con epoch  R15 H16) kc42 rfl rfl trivial) rfl rfl rfl (fun _ => ?_)
      refine TO.bind fun E18 H19 => ?_
      refine TO.y (Y.cat H19 rfl rfl) rfl rfl rfl ?_
      refine TO.y (Y.move rfl) rfl rfl rfl ?_
      refine TO.y (Y.move rfl) rfl rfl rfl ?_
      refine TO.y (Y.move rfl) rfl rfl rfl ?_
      refine TO.bind fun R20 H21 => ?_
      refine TO.ef (Ef.call (rest := []) [] (impl_NonceOf_con (2 : Int) tenant  R20 H21) kc44 rfl rfl trivial) rfl rfl rfl (fun _ => ?_)
      refine TO.bind fun R23 H24 => ?_
      refine TO.ef (Ef.call (rest := []) [] (impl_ChaBlock_con secret epoch R20  R23 H24) kc43 rfl rfl trivial) rfl rfl rfl (fun _ => ?_)
      refine TO.bind fun E26 H27 => ?_
      refine TO.y (Y.ssub_to H27 ks9 rfl rfl) rfl rfl rfl ?_
      refine TO.bind fun E28 H29 => ?_
      refine TO.y (Y.cat H29 rfl rfl) rfl rfl rfl ?_
      refine TO.y (Y.assign rfl) rfl rfl rfl ?_
      refine TO.nil ?_
      refine TE.next ?_
      refine TW.ret ?_
      exact TE.leaf fun _ _ hf_ hs_ => ret_any (rs := [.tmp 6]) (vs := [strV E28]) (.inl rfl) rfl ⟨rfl, trivial⟩ hf_ hs_ ⟨(), rfl, hs_.pulls [] rfl⟩

/-- loop.example/g00950/impl.ReadToken -/
noncomputable def impl_ReadToken (secret : List UInt8) (s : List UInt8) : Option (Int × Int × Bool) :=
  (impl_reader_number ({ text := s, at_ := (0 : Int), bad := false : Reader })).bind fun R2 =>
  (impl_reader_number R2.2).bind fun R5 =>
  (impl_reader_bytes R5.2 (8 : Int)).bind fun R8 =>
  ((impl_reader_done R8.2).bind fun R13 =>
  if (!R13) = true then (some true)
  else ((impl_MintToken secret R2.1 R5.1).bind fun R17 =>
  some (!(decide (R17 = s))))).bind (fun (T11 : Bool) =>
  if T11 = true then (some ((0 : Int), (0 : Int), false))
  else (some (R2.1, R5.1, true)))

theorem impl_ReadToken_con (secret : List UInt8) (s : List UInt8)  (r : Int × Int × Bool) (hm : impl_ReadToken secret s = some r) :
    Con Try.prog 18 [strV secret, strV s] [] [] (fun _ : Unit => .tuple #[.int .i64 r.1, .int .i64 r.2.1, .bool r.2.2]) (fun _ => []) := by
  refine Con.intro (args := [strV secret, strV s]) (n := 27) (val := fun r (_ : Unit) => .tuple #[.int .i64 r.1, .int .i64 r.2.1, .bool r.2.2]) (post := fun _ _ => []) (m := impl_ReadToken secret s) Try.func18 rfl rfl rfl hm ?_
  intro w S _
  unfold impl_ReadToken
  refine TW.seq ?_
  refine TW.region ?_
  refine TO.y (Y.assign rfl) rfl rfl rfl ?_
  refine TO.y (Y.assign rfl) rfl rfl rfl ?_
  refine TO.y (Y.assign rfl) rfl rfl rfl ?_
  refine TO.nil ?_
  refine TE.next ?_
  refine TW.seq ?_
  refine TW.region ?_
  refine TO.y (Y.move rfl) rfl rfl rfl ?_
  refine TO.y (Y.build (cells := [strV s, .int .i64 (0 : Int), .bool false]) [(0, [strV s])] kp60 kz60 ⟨rfl, ⟨_, rfl, (Cel.plain rfl rfl)⟩, trivial⟩ rfl) rfl rfl rfl ?_
  refine TO.ef (Ef.alloc kz60 rfl) rfl rfl rfl (fun B1 => ?_)
  refine TO.ef0 (Ef.store_box (us := [strV s, .int .i64 (0 : Int), .bool false]) (vs' := [strV s, .int .i64 (0 : Int), .bool false]) (is' := [.box B1 60 [strV s, .int .i64 (0 : Int), .bool false]]) 0 kk60 rfl rfl rfl (Cel.plain rfl rfl) rfl rfl rfl rfl) rfl rfl (fun _ => ?_)
  refine TO.nil ?_
  refine TE.next ?_
  refine TW.seq ?_
  refine TW.region ?_
  refine TO.bind fun R2 H3 => ?_
  refine TO.ef (Ef.call (rest := []) [0] (impl_reader_number_con ({ text := s, at_ := (0 : Int), bad := false : Reader }) B1 R2 H3) kc37 rfl rfl trivial) rfl rfl rfl (fun _ => ?_)
  refine TO.y (Y.assign rfl) rfl rfl rfl ?_
  refine TO.nil ?_
  refine TE.next ?_
  refine TW.seq ?_
  refine TW.region ?_
  refine TO.bind fun R5 H6 => ?_
  refine TO.ef (Ef.call (rest := []) [0] (impl_reader_number_con R2.2 B1 R5 H6) kc37 rfl rfl trivial) rfl rfl rfl (fun _ => ?_)
  refine TO.y (Y.assign rfl) rfl rfl rfl ?_
  refine TO.nil ?_
  refine TE.next ?_
  refine TW.seq ?_
  refine TW.region ?_
  refine TO.bind fun R8 H9 => ?_
  refine TO.ef (Ef.call (rest := []) [0] (impl_reader_bytes_con R5.2 (8 : Int) B1 R8 H9) kc38 rfl rfl trivial) rfl rfl rfl (fun _ => ?_)
  refine TO.nil ?_
  refine TE.next ?_
  refine TW.seq ?_
  refine TW.seq ?_
  refine TW.joinBX (τ := Bool) (X := Unit) (fun T _ => [(8, .int .i64 R2.1), (9, .int .i64 R5.1), (24, .bool T)]) (fun _ _ => []) ?_ (fun T11 X12 => ?_)
  · refine TW.region ?_
    refine TO.bind fun R13 H14 => ?_
    refine TO.ef (Ef.call (rest := []) [0] (impl_reader_done_con R8.2 B1 R13 H14) kc39 rfl rfl trivial) rfl rfl rfl (fun _ => ?_)
    refine TO.y (Y.not rfl) rfl rfl rfl ?_
    refine TO.y (Y.move rfl) rfl rfl rfl ?_
    refine TO.ite (b := !R13) (fun H16 => ?_) (fun H16 => ?_)
    · refine TO.off (Gd.at 2 false 17 (!R13) rfl rfl rfl (beq_tf H16)) rfl rfl ?_
      refine TO.off (Gd.at 2 false 17 (!R13) rfl rfl rfl (beq_tf H16)) rfl rfl ?_
      refine TO.off (Gd.at 2 false 17 (!R13) rfl rfl rfl (beq_tf H16)) rfl rfl ?_
      refine TO.off (Gd.at 2 false 17 (!R13) rfl rfl rfl (beq_tf H16)) rfl rfl ?_
      refine TO.off (Gd.at 2 false 17 (!R13) rfl rfl rfl (beq_tf H16)) rfl rfl ?_
      refine TO.off (Gd.at 2 false 17 (!R13) rfl rfl rfl (beq_tf H16)) rfl rfl ?_
      refine TO.y (Y.pick_t H16 rfl rfl) rfl rfl rfl ?_
      refine TO.nil ?_
      exact TE.jb_go () [] ⟨rfl, rfl, rfl, trivial⟩ rfl
    · refine TO.y (Y.move rfl) (Gd.at 2 false 17 (!R13) rfl rfl rfl (beq_ff H16)) rfl rfl ?_
      refine TO.y (Y.move rfl) (Gd.at 2 false 17 (!R13) rfl rfl rfl (beq_ff H16)) rfl rfl ?_
      refine TO.y (Y.move rfl) (Gd.at 2 false 17 (!R13) rfl rfl rfl (beq_ff H16)) rfl rfl ?_
      refine TO.bind fun R17 H18 => ?_
      refine TO.ef (Ef.call (rest := [.box B1 60 [strV R8.2.text, .int .i64 R8.2.at_, .bool R8.2.bad]]) [0] (impl_MintToken_con secret R2.1 R5.1  R17 H18) kc20 rfl rfl trivial) (Gd.at 2 false 17 (!R13) rfl rfl rfl (beq_ff H16)) rfl rfl (fun _ => ?_)
      refine TO.y (Y.move rfl) (Gd.at 2 false 17 (!R13) rfl rfl rfl (beq_ff H16)) rfl rfl ?_
      refine TO.y (Y.sneq rfl rfl) (Gd.at 2 false 17 (!R13) rfl rfl rfl (beq_ff H16)) rfl rfl ?_
      refine TO.y (Y.pick_f H16 rfl rfl) rfl rfl rfl ?_
      refine TO.nil ?_
      exact TE.jb_go () [] ⟨rfl, rfl, rfl, trivial⟩ rfl
  · refine TE.next ?_
    refine TW.cond rfl (fun H20 => ?_) (fun H20 => ?_)
    · refine TW.seq ?_
      refine TW.region ?_
      refine TO.y (Y.assign rfl) rfl rfl rfl ?_
      refine TO.y (Y.assign rfl) rfl rfl rfl ?_
      refine TO.y (Y.assign rfl) rfl rfl rfl ?_
      refine TO.nil ?_
      refine TE.next ?_
      refine TW.ret ?_
      refine TE.then_ret ?_
      exact TE.leaf fun _ _ hf_ hs_ => ret_any (rs := [.tmp 4, .tmp 5, .tmp 6]) (vs := [.int .i64 (0 : Int), .int .i64 (0 : Int), .bool false]) (.inl rfl) rfl ⟨rfl, ⟨rfl, ⟨rfl, trivial⟩⟩⟩ hf_ hs_ ⟨(), rfl, hs_.pulls [] rfl⟩
    · refine TW.skip ?_
      refine TE.next ?_
      refine TW.seq ?_
      refine TW.region ?_
      refine TO.y (Y.move rfl) rfl rfl rfl ?_
      refine TO.y (Y.move rfl) rfl rfl rfl ?_
      refine TO.y (Y.assign rfl) rfl rfl rfl ?_
      refine TO.y (Y.assign rfl) rfl rfl rfl ?_
      refine TO.y (Y.assign rfl) rfl rfl rfl ?_
      refine TO.nil ?_
      refine TE.next ?_
      refine TW.ret ?_
      exact TE.leaf fun _ _ hf_ hs_ => ret_any (rs := [.tmp 4, .tmp 5, .tmp 6]) (vs := [.int .i64 R2.1, .int .i64 R5.1, .bool true]) (.inl rfl) rfl ⟨rfl, ⟨rfl, ⟨rfl, trivial⟩⟩⟩ hf_ hs_ ⟨(), rfl, hs_.pulls [] rfl⟩

/-- loop.example/g00950/spec.ReadVar -/
noncomputable def spec_ReadVar (s : List UInt8) : Option (Int × Int) :=
  bindC (loopO (fun (S1 : Int) => (if (decide (S1 ≤ (7 : Int))) = true then (some (decide (S1 ≤ ((s.length : Nat) : Int))))
  else (some false)).bind (fun (T5 : Bool) =>
  if T5 = true then (bindC (loopO (fun (S9 : Int × Int) => if (decide (S9.2 ≥ (0 : Int))) = true then ((sidx s S9.2).bind fun E14 =>
  some (.go (IntKind.i64.wrap (IntKind.i64.wrap (S9.1 * (128 : Int)) + (Int.tmod (IntKind.i64.wrap ((E14.toNat : Nat) : Int)) (128 : Int))), IntKind.i64.wrap (S9.2 - (1 : Int)))))
  else (some (.done (.go S9.1))))
  ((0 : Int), IntKind.i64.wrap (S1 - (1 : Int))))
  (fun (T11 : Int) => (ssub s 0 S1).bind fun E16 =>
  (spec_Var T11).bind fun R18 =>
  if (decide (R18 = E16)) = true then (some (.done (.done (T11, S1))))
  else (some (.go (IntKind.i64.wrap (S1 + (1 : Int)))))))
  else (some (.done (.go ())))))
  (1 : Int))
  (fun (T3 : Unit) => some ((0 : Int), (0 : Int)))

theorem spec_ReadVar_con (s : List UInt8)  (r : Int × Int) (hm : spec_ReadVar s = some r) :
    Con Try.prog 53 [strV s] [] [] (fun _ : Unit => .tuple #[.int .i64 r.1, .int .i64 r.2]) (fun _ => []) := by
  refine Con.intro (args := [strV s]) (n := 39) (val := fun r (_ : Unit) => .tuple #[.int .i64 r.1, .int .i64 r.2]) (post := fun _ _ => []) (m := spec_ReadVar s) Try.func53 rfl rfl rfl hm ?_
  intro w S _
  unfold spec_ReadVar
  refine TW.seq ?_
  refine TW.region ?_
  refine TO.y (Y.assign rfl) rfl rfl rfl ?_
  refine TO.y (Y.assign rfl) rfl rfl rfl ?_
  refine TO.nil ?_
  refine TE.next ?_
  refine TW.seq ?_
  refine TW.seq ?_
  refine TW.region ?_
  refine TO.y (Y.assign rfl) rfl rfl rfl ?_
  refine TO.nil ?_
  refine TE.next ?_
  refine TW.joinX (τ := Unit) (X := Unit) (fun _ _ => []) (fun _ _ => []) ?_ (fun T3 X4 => ?_)
  · refine TW.block ?_
    refine TW.loopX (σ := Int) (X := Unit) (fun T _ => [(0, strV s), (4, .int .i64 T)]) (fun _ _ => []) () [] ⟨rfl, rfl, trivial⟩ rfl (fun S1 X2 => ?_)
    refine TW.seq ?_
    refine TW.seq ?_
    refine TW.joinBX (τ := Bool) (X := Unit) (fun T _ => [(0, strV s), (4, .int .i64 S1), (14, .bool T)]) (fun _ _ => []) ?_ (fun T5 X6 => ?_)
    · refine TW.region ?_
      refine TO.y (Y.move rfl) rfl rfl rfl ?_
      refine TO.y (Y.leq rfl rfl) rfl rfl rfl ?_
      refine TO.y (Y.move rfl) rfl rfl rfl ?_
      refine TO.ite (b := decide (S1 ≤ (7 : Int))) (fun H7 => ?_) (fun H7 => ?_)
      · refine TO.y (Y.move rfl) (Gd.at 2 true 9 (decide (S1 ≤ (7 : Int))) rfl rfl rfl (beq_tt H7)) rfl rfl ?_
        refine TO.y (Y.move rfl) (Gd.at 2 true 9 (decide (S1 ≤ (7 : Int))) rfl rfl rfl (beq_tt H7)) rfl rfl ?_
        refine TO.y (Y.slen ks9 rfl) (Gd.at 2 true 9 (decide (S1 ≤ (7 : Int))) rfl rfl rfl (beq_tt H7)) rfl rfl ?_
        refine TO.y (Y.leq rfl rfl) (Gd.at 2 true 9 (decide (S1 ≤ (7 : Int))) rfl rfl rfl (beq_tt H7)) rfl rfl ?_
        refine TO.y (Y.pick_t H7 rfl rfl) rfl rfl rfl ?_
        refine TO.nil ?_
        exact TE.jb_go () [] ⟨rfl, rfl, rfl, trivial⟩ rfl
      · refine TO.off (Gd.at 2 true 9 (decide (S1 ≤ (7 : Int))) rfl rfl rfl (beq_ft H7)) rfl rfl ?_
        refine TO.off (Gd.at 2 true 9 (decide (S1 ≤ (7 : Int))) rfl rfl rfl (beq_ft H7)) rfl rfl ?_
        refine TO.off (Gd.at 2 true 9 (decide (S1 ≤ (7 : Int))) rfl rfl rfl (beq_ft H7)) rfl rfl ?_
        refine TO.off (Gd.at 2 true 9 (decide (S1 ≤ (7 : Int))) rfl rfl rfl (beq_ft H7)) rfl rfl ?_
        refine TO.y (Y.pick_f H7 rfl rfl) rfl rfl rfl ?_
        refine TO.nil ?_
        exact TE.jb_go () [] ⟨rfl, rfl, rfl, trivial⟩ rfl
    · refine TE.next ?_
      refine TW.cond rfl (fun H8 => ?_) (fun H8 => ?_)
      · refine TW.skip ?_
        refine TE.next ?_
        refine TW.seq ?_
        refine TW.block ?_
        refine TW.seq ?_
        refine TW.region ?_
        refine TO.y (Y.assign rfl) rfl rfl rfl ?_
        refine TO.nil ?_
        refine TE.next ?_
        refine TW.seq ?_
        refine TW.seq ?_
        refine TW.region ?_
        refine TO.y (Y.move rfl) rfl rfl rfl ?_
        refine TO.y (Y.sub rfl rfl) rfl rfl rfl ?_
        refine TO.y (Y.assign rfl) rfl rfl rfl ?_
        refine TO.nil ?_
        refine TE.next ?_
        refine TW.joinX (τ := Int) (X := Unit) (fun T _ => [(0, strV s), (4, .int .i64 S1), (5, .int .i64 T)]) (fun _ _ => []) ?_ (fun T11 X12 => ?_)
        · refine TW.block ?_
          refine TW.loopX (σ := Int × Int) (X := Unit) (fun T _ => [(0, strV s), (4, .int .i64 S1), (5, .int .i64 T.1), (6, .int .i64 T.2)]) (fun _ _ => []) () [] ⟨rfl, rfl, rfl, rfl, trivial⟩ rfl (fun S9 X10 => ?_)
          refine TW.seq ?_
          refine TW.seq ?_
          refine TW.region ?_
          refine TO.y (Y.move rfl) rfl rfl rfl ?_
          refine TO.y (Y.geq rfl rfl) rfl rfl rfl ?_
          refine TO.nil ?_
          refine TE.next ?_
          refine TW.cond rfl (fun H13 => ?_) (fun H13 => ?_)
          · refine TW.skip ?_
            refine TE.next ?_
            refine TW.seq ?_
            refine TW.block ?_
            refine TW.region ?_
            refine TO.y (Y.move rfl) rfl rfl rfl ?_
            refine TO.y (Y.mul rfl rfl) rfl rfl rfl ?_
            refine TO.y (Y.move rfl) rfl rfl rfl ?_
            refine TO.y (Y.move rfl) rfl rfl rfl ?_
            refine TO.bind fun E14 H15 => ?_
            refine TO.y (Y.sidx H15 ks9 rfl rfl) rfl rfl rfl ?_
            refine TO.y (Y.conv ki5 ki3 rfl) rfl rfl rfl ?_
            refine TO.y (Y.rem (by decide) rfl rfl) rfl rfl rfl ?_
            refine TO.y (Y.add rfl rfl) rfl rfl rfl ?_
            refine TO.y (Y.assign rfl) rfl rfl rfl ?_
            refine TO.nil ?_
            refine TE.block_normal ?_
            refine TE.next ?_
            refine TW.region ?_
            refine TO.y (Y.move rfl) rfl rfl rfl ?_
            refine TO.y (Y.sub rfl rfl) rfl rfl rfl ?_
            refine TO.y (Y.assign rfl) rfl rfl rfl ?_
            refine TO.nil ?_
            exact TE.lp_go () [] ⟨rfl, rfl, rfl, rfl, trivial⟩ rfl
          · refine TW.exit ?_
            refine TE.then_exit ?_
            refine TE.lp_exit ?_
            refine TE.block_exit ?_
            exact TE.jn_go () [] ⟨rfl, rfl, rfl, trivial⟩ rfl
        · refine TE.next ?_
          refine TW.seq ?_
          refine TW.draw (isH := []) hMix ?_
          refine TA.y (listed' := #[true, false, false, false, false, false]) 0 [] rfl (Y.move rfl) rfl rfl rfl (by kernel_rfl) (by kernel_rfl) (by kernel_rfl) rfl rfl ?_
          refine TA.y (listed' := #[true, false, true, false, false, false]) 2 [] rfl (Y.move rfl) rfl rfl rfl (by kernel_rfl) (by kernel_rfl) (by kernel_rfl) rfl rfl ?_
          refine TA.y (listed' := #[true, false, true, true, false, false]) 3 [] rfl (Y.move rfl) rfl rfl rfl (by kernel_rfl) (by kernel_rfl) (by kernel_rfl) rfl rfl ?_
          refine TA.bind fun E16 H17 => ?_
          refine TA.y (listed' := #[true, false, true, true, true, false]) 4 [] rfl (Y.ssub_to H17 ks9 rfl rfl) rfl rfl rfl (by kernel_rfl) (by kernel_rfl) (by kernel_rfl) rfl rfl ?_
          refine TA.bind fun R18 H19 => ?_
          refine TA.one 1 (by kernel_rfl) ?_
          refine TX.ef (listed' := #[true, true, true, true, true, false]) [] rfl (Ef.call (rest := []) [] (spec_Var_con T11  R18 H19) kc45 rfl rfl trivial) rfl rfl rfl rfl (fun _ => rfl) (fun _ => ?_)
          refine TA.y (listed' := #[true, true, true, true, true, true]) 5 [] rfl (Y.seql rfl rfl) rfl rfl rfl (by kernel_rfl) (by kernel_rfl) (by kernel_rfl) rfl rfl ?_
          refine TA.nil (by kernel_rfl) ?_
          refine TE.next ?_
          refine TW.cond rfl (fun H21 => ?_) (fun H21 => ?_)
          · refine TW.seq ?_
            refine TW.region ?_
            refine TO.y (Y.move rfl) rfl rfl rfl ?_
            refine TO.y (Y.move rfl) rfl rfl rfl ?_
            refine TO.y (Y.assign rfl) rfl rfl rfl ?_
            refine TO.y (Y.assign rfl) rfl rfl rfl ?_
            refine TO.nil ?_
            refine TE.next ?_
            refine TW.ret ?_
            refine TE.block_ret ?_
            refine TE.then_ret ?_
            refine TE.lp_ret ?_
            refine TE.block_ret ?_
            refine TE.jn_done ?_
            refine TE.then_ret ?_
            exact TE.leaf fun _ _ hf_ hs_ => ret_any (rs := [.tmp 2, .tmp 3]) (vs := [.int .i64 T11, .int .i64 S1]) (.inl rfl) rfl ⟨rfl, ⟨rfl, trivial⟩⟩ hf_ hs_ ⟨(), rfl, hs_.pulls [] rfl⟩
          · refine TW.skip ?_
            refine TE.block_normal ?_
            refine TE.next ?_
            refine TW.region ?_
            refine TO.y (Y.move rfl) rfl rfl rfl ?_
            refine TO.y (Y.add rfl rfl) rfl rfl rfl ?_
            refine TO.y (Y.assign rfl) rfl rfl rfl ?_
            refine TO.nil ?_
            exact TE.lp_go () [] ⟨rfl, rfl, trivial⟩ rfl
      · refine TW.exit ?_
        refine TE.then_exit ?_
        refine TE.lp_exit ?_
        refine TE.block_exit ?_
        exact TE.jn_go () [] trivial rfl
  · refine TE.next ?_
    refine TW.seq ?_
    refine TW.region ?_
    refine TO.y (Y.assign rfl) rfl rfl rfl ?_
    refine TO.y (Y.assign rfl) rfl rfl rfl ?_
    refine TO.nil ?_
    refine TE.next ?_
    refine TW.ret ?_
    exact TE.leaf fun _ _ hf_ hs_ => ret_any (rs := [.tmp 2, .tmp 3]) (vs := [.int .i64 (0 : Int), .int .i64 (0 : Int)]) (.inl rfl) rfl ⟨rfl, ⟨rfl, trivial⟩⟩ hf_ hs_ ⟨(), rfl, hs_.pulls [] rfl⟩

/-- loop.example/g00950/spec.l6Vars -/
noncomputable def spec_l6Vars (s : List UInt8) (at_ : Int) (n : Int) : Option (List Int × Int) :=
  bindC (loopO (fun (S2 : Int × Int × List Int) => if (decide (S2.2.1 < n)) = true then ((if (decide (S2.1 < (0 : Int))) = true then (some true)
  else (some (decide (S2.1 > ((s.length : Nat) : Int))))).bind (fun (T7 : Bool) =>
  if T7 = true then (some (.done (.done (S2.2.2, (-1 : Int)))))
  else ((ssub s S2.1 (s.length : Int)).bind fun E11 =>
  (spec_ReadVar E11).bind fun R13 =>
  if (decide (R13.2 = (0 : Int))) = true then (some (.done (.done (S2.2.2, (-1 : Int)))))
  else ((app 8 S2.2.2 ([R13.1])).bind fun E19 =>
  some (.go (IntKind.i64.wrap (S2.1 + R13.2), IntKind.i64.wrap (S2.2.1 + (1 : Int)), E19))))))
  else (some (.done (.go (S2.1, S2.2.2)))))
  (at_, (0 : Int), ([] : List Int)))
  (fun (T4 : Int × List Int) => some (T4.2, T4.1))

theorem spec_l6Vars_con (s : List UInt8) (at_ : Int) (n : Int)  (r : List Int × Int) (hm : spec_l6Vars s at_ n = some r) :
    Con Try.prog 40 [strV s, .int .i64 at_, .int .i64 n] [] [] (fun X : Value => .tuple #[X, .int .i64 r.2]) (fun X => [.own X (lc r.1)]) := by
  refine Con.intro (args := [strV s, .int .i64 at_, .int .i64 n]) (n := 46) (val := fun r (X : Value) => .tuple #[X, .int .i64 r.2]) (post := fun r X => [.own X (lc r.1)]) (m := spec_l6Vars s at_ n) Try.func40 rfl rfl rfl hm ?_
  intro w S _
  unfold spec_l6Vars
  refine TW.seq ?_
  refine TW.region ?_
  refine TO.y (Y.assign rfl) rfl rfl rfl ?_
  refine TO.y (Y.assign rfl) rfl rfl rfl ?_
  refine TO.nil ?_
  refine TE.next ?_
  refine TW.seq ?_
  refine TW.region ?_
  refine TO.ef (Ef.buildSlice (α := Int) (Vs := []) ([] : List Int) ke24 kz3 rfl rfl rfl rfl rfl) rfl rfl rfl (fun B1 => ?_)
  refine TO.y (Y.assign rfl) rfl rfl rfl ?_
  refine TO.nil ?_
  refine TE.next ?_
  refine TW.seq ?_
  refine TW.seq ?_
  refine TW.region ?_
  refine TO.y (Y.assign rfl) rfl rfl rfl ?_
  refine TO.nil ?_
  refine TE.next ?_
  refine TW.joinX (τ := Int × List Int) (X := Value) (fun T X => [(1, .int .i64 T.1), (8, X)]) (fun T X => [.own X (lc T.2)]) ?_ (fun T4 X5 => ?_)
  · refine TW.block ?_
    refine TW.loopX (σ := Int × Int × List Int) (X := Value) (fun T X => [(0, strV s), (1, .int .i64 T.1), (2, .int .i64 n), (8, X), (9, .int .i64 T.2.1)]) (fun T X => [.own X (lc T.2.2)]) (.slice (some ⟨B1, 0, none⟩) 0 0) [0] ⟨rfl, rfl, rfl, rfl, rfl, trivial⟩ rfl (fun S2 X3 => ?_)
    refine TW.seq ?_
    refine TW.seq ?_
    refine TW.region ?_
    refine TO.y (Y.move rfl) rfl rfl rfl ?_
    refine TO.y (Y.move rfl) rfl rfl rfl ?_
    refine TO.y (Y.lss rfl rfl) rfl rfl rfl ?_
    refine TO.nil ?_
    refine TE.next ?_
    refine TW.cond rfl (fun H6 => ?_) (fun H6 => ?_)
    · refine TW.skip ?_
      refine TE.next ?_
      refine TW.seq ?_
      refine TW.block ?_
      refine TW.seq ?_
      refine TW.seq ?_
      refine TW.joinBX (τ := Bool) (X := Unit) (fun T _ => [(0, strV s), (1, .int .i64 S2.1), (2, .int .i64 n), (8, X3), (9, .int .i64 S2.2.1), (25, .bool T)]) (fun _ _ => [.own X3 (lc S2.2.2)]) ?_ (fun T7 X8 => ?_)
      · refine TW.region ?_
        refine TO.y (Y.move rfl) rfl rfl rfl ?_
        refine TO.y (Y.lss rfl rfl) rfl rfl rfl ?_
        refine TO.y (Y.move rfl) rfl rfl rfl ?_
        refine TO.ite (b := decide (S2.1 < (0 : Int))) (fun H9 => ?_) (fun H9 => ?_)
        · refine TO.off (Gd.at 2 false 20 (decide (S2.1 < (0 : Int))) rfl rfl rfl (beq_tf H9)) rfl rfl ?_
          refine TO.off (Gd.at 2 false 20 (decide (S2.1 < (0 : Int))) rfl rfl rfl (beq_tf H9)) rfl rfl ?_
          refine TO.off (Gd.at 2 false 20 (decide (S2.1 < (0 : Int))) rfl rfl rfl (beq_tf H9)) rfl rfl ?_
          refine TO.off (Gd.at 2 false 20 (decide (S2.1 < (0 : Int))) rfl rfl rfl (beq_tf H9)) rfl rfl ?_
          refine TO.y (Y.pick_t H9 rfl rfl) rfl rfl rfl ?_
          refine TO.nil ?_
          exact TE.jb_go () [0] ⟨rfl, rfl, rfl, rfl, rfl, rfl, trivial⟩ rfl
        · refine TO.y (Y.move rfl) (Gd.at 2 false 20 (decide (S2.1 < (0 : Int))) rfl rfl rfl (beq_ff H9)) rfl rfl ?_
          refine TO.y (Y.move rfl) (Gd.at 2 false 20 (decide (S2.1 < (0 : Int))) rfl rfl rfl (beq_ff H9)) rfl rfl ?_
          refine TO.y (Y.slen ks9 rfl) (Gd.at 2 false 20 (decide (S2.1 < (0 : Int))) rfl rfl rfl (beq_ff H9)) rfl rfl ?_
          refine TO.y (Y.gtr rfl rfl) (Gd.at 2 false 20 (decide (S2.1 < (0 : Int))) rfl rfl rfl (beq_ff H9)) rfl rfl ?_
          refine TO.y (Y.pick_f H9 rfl rfl) rfl rfl rfl ?_
          refine TO.nil ?_
          exact TE.jb_go () [0] ⟨rfl, rfl, rfl, rfl, rfl, rfl, trivial⟩ rfl
      · refine TE.next ?_
        refine TW.cond rfl (fun H10 => ?_) (fun H10 => ?_)
        · refine TW.seq ?_
          refine TW.region ?_
          refine TO.y (Y.move rfl) rfl rfl rfl ?_
          refine TO.y (Y.assign rfl) rfl rfl rfl ?_
          refine TO.y (Y.assign rfl) rfl rfl rfl ?_
          refine TO.nil ?_
          refine TE.next ?_
          refine TW.ret ?_
          refine TE.then_ret ?_
          refine TE.block_ret ?_
          refine TE.then_ret ?_
          refine TE.lp_ret ?_
          refine TE.block_ret ?_
          refine TE.jn_done ?_
          refine TE.then_ret ?_
          exact TE.leaf fun _ _ hf_ hs_ => ret_any (rs := [.tmp 6, .tmp 7]) (vs := [X3, .int .i64 (-1 : Int)]) (.inl rfl) rfl ⟨rfl, ⟨rfl, trivial⟩⟩ hf_ hs_ ⟨X3, rfl, hs_.pulls [0] rfl⟩
        · refine TW.skip ?_
          refine TE.next ?_
          refine TW.seq ?_
          refine TW.region ?_
          refine TO.y (Y.move rfl) rfl rfl rfl ?_
          refine TO.y (Y.move rfl) rfl rfl rfl ?_
          refine TO.bind fun E11 H12 => ?_
          refine TO.y (Y.ssub_from H12 ks9 rfl rfl) rfl rfl rfl ?_
          refine TO.bind fun R13 H14 => ?_
          refine TO.ef (Ef.call (rest := [.own X3 (lc S2.2.2)]) [0] (spec_ReadVar_con E11  R13 H14) kc53 rfl rfl trivial) rfl rfl rfl (fun _ => ?_)
          refine TO.y (Y.move rfl) rfl rfl rfl ?_
          refine TO.y (Y.extract rfl rfl) rfl rfl rfl ?_
          refine TO.y (Y.extract rfl rfl) rfl rfl rfl ?_
          refine TO.y (Y.assign rfl) rfl rfl rfl ?_
          refine TO.y (Y.assign rfl) rfl rfl rfl ?_
          refine TO.nil ?_
          refine TE.next ?_
          refine TW.seq ?_
          refine TW.seq ?_
          refine TW.region ?_
          refine TO.y (Y.move rfl) rfl rfl rfl ?_
          refine TO.y (Y.eql rfl rfl) rfl rfl rfl ?_
          refine TO.nil ?_
          refine TE.next ?_
          refine TW.cond rfl (fun H16 => ?_) (fun H16 => ?_)
          · refine TW.seq ?_
            refine TW.region ?_
            refine TO.y (Y.move rfl) rfl rfl rfl ?_
            refine TO.y (Y.assign rfl) rfl rfl rfl ?_
            refine TO.y (Y.assign rfl) rfl rfl rfl ?_
            refine TO.nil ?_
            refine TE.next ?_
            refine TW.ret ?_
            refine TE.then_ret ?_
            refine TE.block_ret ?_
            refine TE.then_ret ?_
            refine TE.lp_ret ?_
            refine TE.block_ret ?_
            refine TE.jn_done ?_
            refine TE.then_ret ?_
            exact TE.leaf fun _ _ hf_ hs_ => ret_any (rs := [.tmp 6, .tmp 7]) (vs := [X3, .int .i64 (-1 : Int)]) (.inl rfl) rfl ⟨rfl, ⟨rfl, trivial⟩⟩ hf_ hs_ ⟨X3, rfl, hs_.pulls [0] rfl⟩
          · refine TW.skip ?_
            refine TE.next ?_
            refine TW.seq ?_
            refine TW.region ?_
            refine TO.y (Y.move rfl) rfl rfl rfl ?_
            refine TO.y (Y.move rfl) rfl rfl rfl ?_
            refine TO.ef (Ef.buildSlice (α := Int) (Vs := [.int .i64 R13.1]) [R13.1] ke24 kz3 rfl rfl rfl rfl rfl) rfl rfl rfl (fun B17 => ?_)
            refine TO.bind fun E19 H20 => ?_
            refine TO.ef (Ef.append (α := Int) (is' := [.own (.slice (some ⟨B17, 0, none⟩) 1 1) (lc ([R13.1]))]) [1, 0] H20 ke24 kz3 rfl rfl rfl rfl rfl (Can.own 0 rfl)) rfl rfl rfl (fun V18 => ?_)
            refine TO.y (Y.assign rfl) rfl rfl rfl ?_
            refine TO.nil ?_
            refine TE.next ?_
            refine TW.region ?_
            refine TO.y (Y.move rfl) rfl rfl rfl ?_
            refine TO.y (Y.move rfl) rfl rfl rfl ?_
            refine TO.y (Y.add rfl rfl) rfl rfl rfl ?_
            refine TO.y (Y.assign rfl) rfl rfl rfl ?_
            refine TO.nil ?_
            refine TE.block_normal ?_
            refine TE.next ?_
            refine TW.region ?_
            refine TO.y (Y.move rfl) rfl rfl rfl ?_
            refine TO.y (Y.add rfl rfl) rfl rfl rfl ?_
            refine TO.y (Y.assign rfl) rfl rfl rfl ?_
            refine TO.nil ?_
            exact TE.lp_go V18 [0] ⟨rfl, rfl, rfl, rfl, rfl, trivial⟩ rfl
    · refine TW.exit ?_
      refine TE.then_exit ?_
      refine TE.lp_exit ?_
      refine TE.block_exit ?_
      exact TE.jn_go X3 [0] ⟨rfl, rfl, trivial⟩ rfl
  · refine TE.next ?_
    refine TW.seq ?_
    refine TW.region ?_
    refine TO.y (Y.move rfl) rfl rfl rfl ?_
    refine TO.y (Y.move rfl) rfl rfl rfl ?_
    refine TO.y (Y.assign rfl) rfl rfl rfl ?_
    refine TO.y (Y.assign rfl) rfl rfl rfl ?_
    refine TO.nil ?_
    refine TE.next ?_
    refine TW.ret ?_
    exact TE.leaf fun _ _ hf_ hs_ => ret_any (rs := [.tmp 6, .tmp 7]) (vs := [X5, .int .i64 T4.1]) (.inl rfl) rfl ⟨rfl, ⟨rfl, trivial⟩⟩ hf_ hs_ ⟨X5, rfl, hs_.pulls [0] rfl⟩

end Go.Proofs.Ytammomfkamhhdaa
