/-
  The functions that a law reaches, each as a pure function, with the proof that the program computes it, and the step from a pure law to the given statement. Conditions: none.
-/
import Derived.Test.YtbocplhlbbhblaaC1
set_option linter.unusedVariables false
set_option maxRecDepth 100000
set_option maxHeartbeats 4000000
namespace Go.Proofs.Ytbocplhlbbhblaa
open Go Sl

/-- loop.example/g00950/impl.quarter -/
noncomputable def impl_quarter (w_ : List Wrd) (a : Int) (b : Int) (c : Int) (d : Int) : Option (List Wrd) :=
  (idx w_ a).bind fun E1 =>
  (idx w_ b).bind fun E3 =>
  (idx (w_.set a.toNat (Wrd.mk (IntKind.u32.wrap (E1.v + E3.v)))) d).bind fun E7 =>
  (idx (w_.set a.toNat (Wrd.mk (IntKind.u32.wrap (E1.v + E3.v)))) a).bind fun E9 =>
  (math_bits_RotateLeft32 (ixor .u32 E7.v E9.v) (16 : Int)).bind fun R11 =>
  (idx ((w_.set a.toNat (Wrd.mk (IntKind.u32.wrap (E1.v + E3.v)))).set d.toNat (Wrd.mk R11)) c).bind fun E16 =>
  (idx ((w_.set a.toNat (Wrd.mk (IntKind.u32.wrap (E1.v + E3.v)))).set d.toNat (Wrd.mk R11)) d).bind fun E18 =>
  (idx (((w_.set a.toNat (Wrd.mk (IntKind.u32.wrap (E1.v + E3.v)))).set d.toNat (Wrd.mk R11)).set c.toNat (Wrd.mk (IntKind.u32.wrap (E16.v + E18.v)))) b).bind fun E22 =>
  (idx (((w_.set a.toNat (Wrd.mk (IntKind.u32.wrap (E1.v + E3.v)))).set d.toNat (Wrd.mk R11)).set c.toNat (Wrd.mk (IntKind.u32.wrap (E16.v + E18.v)))) c).bind fun E24 =>
  (math_bits_RotateLeft32 (ixor .u32 E22.v E24.v) (12 : Int)).bind fun R26 =>
  (idx ((((w_.set a.toNat (Wrd.mk (IntKind.u32.wrap (E1.v + E3.v)))).set d.toNat (Wrd.mk R11)).set c.toNat (Wrd.mk (IntKind.u32.wrap (E16.v + E18.v)))).set b.toNat (Wrd.mk R26)) a).bind fun E31 =>
  (idx ((((w_.set a.toNat (Wrd.mk (IntKind.u32.wrap (E1.v + E3.v)))).set d.toNat (Wrd.mk R11)).set c.toNat (Wrd.mk (IntKind.u32.wrap (E16.v + E18.v)))).set b.toNat (Wrd.mk R26)) b).bind fun E33 =>
  (idx (((((w_.set a.toNat (Wrd.mk (IntKind.u32.wrap (E1.v + E3.v)))).set d.toNat (Wrd.mk R11)).set c.toNat (Wrd.mk (IntKind.u32.wrap (E16.v + E18.v)))).set b.toNat (Wrd.mk R26)).set a.toNat (Wrd.mk (IntKind.u32.wrap (E31.v + E33.v)))) d).bind fun E37 =>
  (idx (((((w_.set a.toNat (Wrd.mk (IntKind.u32.wrap (E1.v + E3.v)))).set d.toNat (Wrd.mk R11)).set c.toNat (Wrd.mk (IntKind.u32.wrap (E16.v + E18.v)))).set b.toNat (Wrd.mk R26)).set a.toNat (Wrd.mk (IntKind.u32.wrap (E31.v + E33.v)))) a).bind fun E39 =>
  (math_bits_RotateLeft32 (ixor .u32 E37.v E39.v) (8 : Int)).bind fun R41 =>
  (idx ((((((w_.set a.toNat (Wrd.mk (IntKind.u32.wrap (E1.v + E3.v)))).set d.toNat (Wrd.mk R11)).set c.toNat (Wrd.mk (IntKind.u32.wrap (E16.v + E18.v)))).set b.toNat (Wrd.mk R26)).set a.toNat (Wrd.mk (IntKind.u32.wrap (E31.v + E33.v)))).set d.toNat (Wrd.mk R41)) c).bind fun E46 =>
  (idx ((((((w_.set a.toNat (Wrd.mk (IntKind.u32.wrap (E1.v + E3.v)))).set d.toNat (Wrd.mk R11)).set c.toNat (Wrd.mk (IntKind.u32.wrap (E16.v + E18.v)))).set b.toNat (Wrd.mk R26)).set a.toNat (Wrd.mk (IntKind.u32.wrap (E31.v + E33.v)))).set d.toNat (Wrd.mk R41)) d).bind fun E48 =>
  (idx (((((((w_.set a.toNat (Wrd.mk (IntKind.u32.wrap (E1.v + E3.v)))).set d.toNat (Wrd.mk R11)).set c.toNat (Wrd.mk (IntKind.u32.wrap (E16.v + E18.v)))).set b.toNat (Wrd.mk R26)).set a.toNat (Wrd.mk (IntKind.u32.wrap (E31.v + E33.v)))).set d.toNat (Wrd.mk R41)).set c.toNat (Wrd.mk (IntKind.u32.wrap (E46.v + E48.v)))) b).bind fun E52 =>
  (idx (((((((w_.set a.toNat (Wrd.mk (IntKind.u32.wrap (E1.v + E3.v)))).set d.toNat (Wrd.mk R11)).set c.toNat (Wrd.mk (IntKind.u32.wrap (E16.v + E18.v)))).set b.toNat (Wrd.mk R26)).set a.toNat (Wrd.mk (IntKind.u32.wrap (E31.v + E33.v)))).set d.toNat (Wrd.mk R41)).set c.toNat (Wrd.mk (IntKind.u32.wrap (E46.v + E48.v)))) c).bind fun E54 =>
  (math_bits_RotateLeft32 (ixor .u32 E52.v E54.v) (7 : Int)).bind fun R56 =>
  some ((((((((w_.set a.toNat (Wrd.mk (IntKind.u32.wrap (E1.v + E3.v)))).set d.toNat (Wrd.mk R11)).set c.toNat (Wrd.mk (IntKind.u32.wrap (E16.v + E18.v)))).set b.toNat (Wrd.mk R26)).set a.toNat (Wrd.mk (IntKind.u32.wrap (E31.v + E33.v)))).set d.toNat (Wrd.mk R41)).set c.toNat (Wrd.mk (IntKind.u32.wrap (E46.v + E48.v)))).set b.toNat (Wrd.mk R56))

theorem impl_quarter_con (w_ : List Wrd) (a : Int) (b : Int) (c : Int) (d : Int) (B_w_ : Nat) (r : List Wrd) (hm : impl_quarter w_ a b c d = some r) :
    Con Try.prog 33 [.pointer (some ⟨B_w_, 0, none⟩), .int .i64 a, .int .i64 b, .int .i64 c, .int .i64 d] [.own (arrS B_w_ 16) (lc w_)] [] (fun _ : Unit => .tuple #[]) (fun _ => [.own (arrS B_w_ 16) (lc r)]) := by
  refine Con.intro (args := [.pointer (some ⟨B_w_, 0, none⟩), .int .i64 a, .int .i64 b, .int .i64 c, .int .i64 d]) (n := 126) (val := fun _ (_ : Unit) => .tuple #[]) (post := fun r _ => [.own (arrS B_w_ 16) (lc r)]) (m := impl_quarter w_ a b c d) Try.func33 rfl rfl rfl hm ?_
  intro w S _
  unfold impl_quarter
  refine TW.seq ?_
  refine TW.bind fun E1 H2 => ?_
  refine TW.bind fun E3 H4 => ?_
  refine TW.joinU (X := Unit) (fun _ _ => [(0, .pointer (some ⟨B_w_, 0, none⟩)), (1, .int .i64 a), (2, .int .i64 b), (3, .int .i64 c), (4, .int .i64 d)]) (fun _ _ => [.own (arrS B_w_ 16) (lc (w_.set a.toNat (Wrd.mk (IntKind.u32.wrap (E1.v + E3.v)))))]) ?_ (fun _ X6 => ?_)
  · refine TW.draw (isH := []) hMix ?_
    refine TA.y (listed' := #[true, false, false, false, false, false, false, false, false, false, false, false, false, false]) 0 [] rfl (Y.move rfl) rfl rfl rfl (by kernel_rfl) (by kernel_rfl) (by kernel_rfl) rfl rfl ?_
    refine TA.y (listed' := #[true, true, false, false, false, false, false, false, false, false, false, false, false, false]) 1 [] rfl (Y.move rfl) rfl rfl rfl (by kernel_rfl) (by kernel_rfl) (by kernel_rfl) rfl rfl ?_
    refine TA.y (listed' := #[true, true, true, false, false, false, false, false, false, false, false, false, false, false]) 2 [] rfl (Y.nilCheck rfl) rfl rfl rfl (by kernel_rfl) (by kernel_rfl) (by kernel_rfl) rfl rfl ?_
    refine TA.y (listed' := #[true, true, true, false, false, true, false, false, false, false, false, false, false, false]) 5 [] rfl (Y.move rfl) rfl rfl rfl (by kernel_rfl) (by kernel_rfl) (by kernel_rfl) rfl rfl ?_
    refine TA.y (listed' := #[true, true, true, false, false, true, true, false, false, false, false, false, false, false]) 6 [] rfl (Y.move rfl) rfl rfl rfl (by kernel_rfl) (by kernel_rfl) (by kernel_rfl) rfl rfl ?_
    refine TA.y (listed' := #[true, true, true, false, false, true, true, true, false, false, false, false, false, false]) 7 [] rfl (Y.nilCheck rfl) rfl rfl rfl (by kernel_rfl) (by kernel_rfl) (by kernel_rfl) rfl rfl ?_
    refine TA.y (listed' := #[true, true, true, false, false, true, true, true, false, false, false, true, false, false]) 11 [] rfl (Y.nilCheck rfl) rfl rfl rfl (by kernel_rfl) (by kernel_rfl) (by kernel_rfl) rfl rfl ?_
    refine TA.two 3 8 (by kernel_rfl) ?_ ?_
    · refine TX.y (listed' := #[true, true, true, true, false, true, true, true, false, false, false, true, false, false]) [] rfl (Y.index_arr (α := Wrd) ka48 (Can.own 0 rfl) H2 rfl rfl) rfl rfl rfl rfl rfl ?_
      refine TA.two 4 8 (by kernel_rfl) ?_ ?_
      · refine TX.y (listed' := #[true, true, true, true, true, true, true, true, false, false, false, true, false, false]) [] rfl (Y.load_el (us := [.int .u32 E1.v]) (u := .int .u32 E1.v) kk47 rfl (Can.own 0 rfl) (idx_get H2).2.2 rfl rfl rfl rfl rfl) rfl rfl rfl rfl rfl ?_
        refine TA.one 8 (by kernel_rfl) ?_
        refine TX.y (listed' := #[true, true, true, true, true, true, true, true, true, false, false, true, false, false]) [] rfl (Y.index_arr (α := Wrd) ka48 (Can.own 0 rfl) H4 rfl rfl) rfl rfl rfl rfl rfl ?_
        refine TA.one 9 (by kernel_rfl) ?_
        refine TX.y (listed' := #[true, true, true, true, true, true, true, true, true, true, false, true, false, false]) [] rfl (Y.load_el (us := [.int .u32 E3.v]) (u := .int .u32 E3.v) kk47 rfl (Can.own 0 rfl) (idx_get H4).2.2 rfl rfl rfl rfl rfl) rfl rfl rfl rfl rfl ?_
        refine TA.y (listed' := #[true, true, true, true, true, true, true, true, true, true, true, true, false, false]) 10 [] rfl (Y.add rfl rfl) rfl rfl rfl (by kernel_rfl) (by kernel_rfl) (by kernel_rfl) rfl rfl ?_
        refine TA.one 12 (by kernel_rfl) ?_
        refine TX.y (listed' := #[true, true, true, true, true, true, true, true, true, true, true, true, true, false]) [] rfl (Y.index_arr (α := Wrd) ka48 (Can.own 0 rfl) H2 rfl rfl) rfl rfl rfl rfl rfl ?_
        refine TA.one 13 (by kernel_rfl) ?_
        refine TX.ef0 (listed' := #[true, true, true, true, true, true, true, true, true, true, true, true, true, true]) [] rfl (Ef.store_el (us := [.int .u32 (IntKind.u32.wrap (E1.v + E3.v))]) (is' := [.own (arrS B_w_ 16) (lc (w_.set a.toNat (Wrd.mk (IntKind.u32.wrap (E1.v + E3.v)))))]) (Wrd.mk (IntKind.u32.wrap (E1.v + E3.v))) 0 kk47 rfl rfl (idx_get H2).2.2 rfl rfl (Cel.plain rfl rfl) rfl rfl rfl rfl) rfl rfl rfl (fun _ => rfl) (fun _ => ?_)
        refine TA.nil (by kernel_rfl) ?_
        exact TE.jb_go () [0] ⟨rfl, rfl, rfl, rfl, rfl, trivial⟩ rfl
      · refine TX.y (listed' := #[true, true, true, true, false, true, true, true, true, false, false, true, false, false]) [] rfl (Y.index_arr (α := Wrd) ka48 (Can.own 0 rfl) H4 rfl rfl) rfl rfl rfl rfl rfl ?_
        refine TA.two 4 9 (by kernel_rfl) ?_ ?_
        · refine TX.y (listed' := #[true, true, true, true, true, true, true, true, true, false, false, true, false, false]) [] rfl (Y.load_el (us := [.int .u32 E1.v]) (u := .int .u32 E1.v) kk47 rfl (Can.own 0 rfl) (idx_get H2).2.2 rfl rfl rfl rfl rfl) rfl rfl rfl rfl rfl ?_
          refine TA.one 9 (by kernel_rfl) ?_
          refine TX.y (listed' := #[true, true, true, true, true, true, true, true, true, true, false, true, false, false]) [] rfl (Y.load_el (us := [.int .u32 E3.v]) (u := .int .u32 E3.v) kk47 rfl (Can.own 0 rfl) (idx_get H4).2.2 rfl rfl rfl rfl rfl) rfl rfl rfl rfl rfl ?_
          refine TA.y (listed' := #[true, true, true, true, true, true, true, true, true, true, true, true, false, false]) 10 [] rfl (Y.add rfl rfl) rfl rfl rfl (by kernel_rfl) (by kernel_rfl) (by kernel_rfl) rfl rfl ?_
          refine TA.one 12 (by kernel_rfl) ?_
          refine TX.y (listed' := #[true, true, true, true, true, true, true, true, true, true, true, true, true, false]) [] rfl (Y.index_arr (α := Wrd) ka48 (Can.own 0 rfl) H2 rfl rfl) rfl rfl rfl rfl rfl ?_
          refine TA.one 13 (by kernel_rfl) ?_
          refine TX.ef0 (listed' := #[true, true, true, true, true, true, true, true, true, true, true, true, true, true]) [] rfl (Ef.store_el (us := [.int .u32 (IntKind.u32.wrap (E1.v + E3.v))]) (is' := [.own (arrS B_w_ 16) (lc (w_.set a.toNat (Wrd.mk (IntKind.u32.wrap (E1.v + E3.v)))))]) (Wrd.mk (IntKind.u32.wrap (E1.v + E3.v))) 0 kk47 rfl rfl (idx_get H2).2.2 rfl rfl (Cel.plain rfl rfl) rfl rfl rfl rfl) rfl rfl rfl (fun _ => rfl) (fun _ => ?_)
          refine TA.nil (by kernel_rfl) ?_
          exact TE.jb_go () [0] ⟨rfl, rfl, rfl, rfl, rfl, trivial⟩ rfl
        · refine TX.y (listed' := #[true, true, true, true, false, true, true, true, true, true, false, true, false, false]) [] rfl (Y.load_el (us := [.int .u32 E3.v]) (u := .int .u32 E3.v) kk47 rfl (Can.own 0 rfl) (idx_get H4).2.2 rfl rfl rfl rfl rfl) rfl rfl rfl rfl rfl ?_
          refine TA.one 4 (by kernel_rfl) ?_
          refine TX.y (listed' := #[true, true, true, true, true, true, true, true, true, true, false, true, false, false]) [] rfl (Y.load_el (us := [.int .u32 E1.v]) (u := .int .u32 E1.v) kk47 rfl (Can.own 0 rfl) (idx_get H2).2.2 rfl rfl rfl rfl rfl) rfl rfl rfl rfl rfl ?_
          refine TA.y (listed' := #[true, true, true, true, true, true, true, true, true, true, true, true, false, false]) 10 [] rfl (Y.add rfl rfl) rfl rfl rfl (by kernel_rfl) (by kernel_rfl) (by kernel_rfl) rfl rfl ?_
          refine TA.one 12 (by kernel_rfl) ?_
          refine TX.y (listed' := #[true, true, true, true, true, true, true, true, true, true, true, true, true, false]) [] rfl (Y.index_arr (α := Wrd) ka48 (Can.own 0 rfl) H2 rfl rfl) rfl rfl rfl rfl rfl ?_
          refine TA.one 13 (by kernel_rfl) ?_
          refine TX.ef0 (listed' := #[true, true, true, true, true, true, true, true, true, true, true, true, true, true]) [] rfl (Ef.store_el (us := [.int .u32 (IntKind.u32.wrap (E1.v + E3.v))]) (is' := [.own (arrS B_w_ 16) (lc (w_.set a.toNat (Wrd.mk (IntKind.u32.wrap (E1.v + E3.v)))))]) (Wrd.mk (IntKind.u32.wrap (E1.v + E3.v))) 0 kk47 rfl rfl (idx_get H2).2.2 rfl rfl (Cel.plain rfl rfl) rfl rfl rfl rfl) rfl rfl rfl (fun _ => rfl) (fun _ => ?_)
          refine TA.nil (by kernel_rfl) ?_
          exact TE.jb_go () [0] ⟨rfl, rfl, rfl, rfl, rfl, trivial⟩ rfl
    · refine TX.y (listed' := #[true, true, true, false, false, true, true, true, true, false, false, true, false, false]) [] rfl (Y.index_arr (α := Wrd) ka48 (Can.own 0 rfl) H4 rfl rfl) rfl rfl rfl rfl rfl ?_
      refine TA.two 3 9 (by kernel_rfl) ?_ ?_
      · refine TX.y (listed' := #[true, true, true, true, false, true, true, true, true, false, false, true, false, false]) [] rfl (Y.index_arr (α := Wrd) ka48 (Can.own 0 rfl) H2 rfl rfl) rfl rfl rfl rfl rfl ?_
        refine TA.two 4 9 (by kernel_rfl) ?_ ?_
        · refine TX.y (listed' := #[true, true, true, true, true, true, true, true, true, false, false, true, false, false]) [] rfl (Y.load_el (us := [.int .u32 E1.v]) (u := .int .u32 E1.v) kk47 rfl (Can.own 0 rfl) (idx_get H2).2.2 rfl rfl rfl rfl rfl) rfl rfl rfl rfl rfl ?_
          refine TA.one 9 (by kernel_rfl) ?_
          refine TX.y (listed' := #[true, true, true, true, true, true, true, true, true, true, false, true, false, false]) [] rfl (Y.load_el (us := [.int .u32 E3.v]) (u := .int .u32 E3.v) kk47 rfl (Can.own 0 rfl) (idx_get H4).2.2 rfl rfl rfl rfl rfl) rfl rfl rfl rfl rfl ?_
          refine TA.y (listed' := #[true, true, true, true, true, true, true, true, true, true, true, true, false, false]) 10 [] rfl (Y.add rfl rfl) rfl rfl rfl (by kernel_rfl) (by kernel_rfl) (by kernel_rfl) rfl rfl ?_
          refine TA.one 12 (by kernel_rfl) ?_
          refine TX.y (listed' := #[true, true, true, true, true, true, true, true, true, true, true, true, true, false]) [] rfl (Y.index_arr (α := Wrd) ka48 (Can.own 0 rfl) H2 rfl rfl) rfl rfl rfl rfl rfl ?_
          refine TA.one 13 (by kernel_rfl) ?_
          refine TX.ef0 (listed' := #[true, true, true, true, true, true, true, true, true, true, true, true, true, true]) [] rfl (Ef.store_el (us := [.int .u32 (IntKind.u32.wrap (E1.v + E3.v))]) (is' := [.own (arrS B_w_ 16) (lc (w_.set a.toNat (Wrd.mk (IntKind.u32.wrap (E1.v + E3.v)))))]) (Wrd.mk (IntKind.u32.wrap (E1.v + E3.v))) 0 kk47 rfl rfl (idx_get H2).2.2 rfl rfl (Cel.plain rfl rfl) rfl rfl rfl rfl) rfl rfl rfl (fun _ => rfl) (fun _ => ?_)
          refine TA.nil (by kernel_rfl) ?_
          exact TE.jb_go () [0] ⟨rfl, rfl, rfl, rfl, rfl, trivial⟩ rfl
        · refine TX.y (listed' := #[true, true, true, true, false, true, true, true, true, true, false, true, false, false]) [] rfl (Y.load_el (us := [.int .u32 E3.v]) (u := .int .u32 E3.v) kk47 rfl (Can.own 0 rfl) (idx_get H4).2.2 rfl rfl rfl rfl rfl) rfl rfl rfl rfl rfl ?_
          refine TA.one 4 (by kernel_rfl) ?_
          refine TX.y (listed' := #[true, true, true, true, true, true, true, true, true, true, false, true, false, false]) [] rfl (Y.load_el (us := [.int .u32 E1.v]) (u := .int .u32 E1.v) kk47 rfl (Can.own 0 rfl) (idx_get H2).2.2 rfl rfl rfl rfl rfl) rfl rfl rfl rfl rfl ?_
          refine TA.y (listed' := #[true, true, true, true, true, true, true, true, true, true, true, true, false, false]) 10 [] rfl (Y.add rfl rfl) rfl rfl rfl (by kernel_rfl) (by kernel_rfl) (by kernel_rfl) rfl rfl ?_
          refine TA.one 12 (by kernel_rfl) ?_
          refine TX.y (listed' := #[true, true, true, true, true, true, true, true, true, true, true, true, true, false]) [] rfl (Y.index_arr (α := Wrd) ka48 (Can.own 0 rfl) H2 rfl rfl) rfl rfl rfl rfl rfl ?_
          refine TA.one 13 (by kernel_rfl) ?_
          refine TX.ef0 (listed' := #[true, true, true, true, true, true, true, true, true, true, true, true, true, true]) [] rfl (Ef.store_el (us := [.int .u32 (IntKind.u32.wrap (E1.v + E3.v))]) (is' := [.own (arrS B_w_ 16) (lc (w_.set a.toNat (Wrd.mk (IntKind.u32.wrap (E1.v + E3.v)))))]) (Wrd.mk (IntKind.u32.wrap (E1.v + E3.v))) 0 kk47 rfl rfl (idx_get H2).2.2 rfl rfl (Cel.plain rfl rfl) rfl rfl rfl rfl) rfl rfl rfl (fun _ => rfl) (fun _ => ?_)
          refine TA.nil (by kernel_rfl) ?_
          exact TE.jb_go () [0] ⟨rfl, rfl, rfl, rfl, rfl, trivial⟩ rfl
      · refine TX.y (listed' := #[true, true, true, false, false, true, true, true, true, true, false, true, false, false]) [] rfl (Y.load_el (us := [.int .u32 E3.v]) (u := .int .u32 E3.v) kk47 rfl (Can.own 0 rfl) (idx_get H4).2.2 rfl rfl rfl rfl rfl) rfl rfl rfl rfl rfl ?_
        refine TA.one 3 (by kernel_rfl) ?_
        refine TX.y (listed' := #[true, true, true, true, false, true, true, true, true, true, false, true, false, false]) [] rfl (Y.index_arr (α := Wrd) ka48 (Can.own 0 rfl) H2 rfl rfl) rfl rfl rfl rfl rfl ?_
        refine TA.one 4 (by kernel_rfl) ?_
        refine TX.y (listed' := #[true, true, true, true, true, true, true, true, true, true, false, true, false, false]) [] rfl (Y.load_el (us := [.int .u32 E1.v]) (u := .int .u32 E1.v) kk47 rfl (Can.own 0 rfl) (idx_get H2).2.2 rfl rfl rfl rfl rfl) rfl rfl rfl rfl rfl ?_
        refine TA.y (listed' := #[true, true, true, true, true, true, true, true, true, true, true, true, false, false]) 10 [] rfl (Y.add rfl rfl) rfl rfl rfl (by kernel_rfl) (by kernel_rfl) (by kernel_rfl) rfl rfl ?_
        refine TA.one 12 (by kernel_rfl) ?_
        refine TX.y (listed' := #[true, true, true, true, true, true, true, true, true, true, true, true, true, false]) [] rfl (Y.index_arr (α := Wrd) ka48 (Can.own 0 rfl) H2 rfl rfl) rfl rfl rfl rfl rfl ?_
        refine TA.one 13 (by kernel_rfl) ?_
        refine TX.ef0 (listed' := #[true, true, true, true, true, true, true, true, true, true, true, true, true, true]) [] rfl (Ef.store_el (us := [.int .u32 (IntKind.u32.wrap (E1.v + E3.v))]) (is' := [.own (arrS B_w_ 16) (lc (w_.set a.toNat (Wrd.mk (IntKind.u32.wrap (E1.v + E3.v)))))]) (Wrd.mk (IntKind.u32.wrap (E1.v + E3.v))) 0 kk47 rfl rfl (idx_get H2).2.2 rfl rfl (Cel.plain rfl rfl) rfl rfl rfl rfl) rfl rfl rfl (fun _ => rfl) (fun _ => ?_)
        refine TA.nil (by kernel_rfl) ?_
        exact TE.jb_go () [0] ⟨rfl, rfl, rfl, rfl, rfl, trivial⟩ rfl
  · refine TE.next ?_
    refine TW.seq ?_
    refine TW.bind fun E7 H8 => ?_
    refine TW.bind fun E9 H10 => ?_
    refine TW.bind fun R11 H12 => ?_
    refine TW.joinU (X := Unit) (fun _ _ => [(0, .pointer (some ⟨B_w_, 0, none⟩)), (1, .int .i64 a), (2, .int .i64 b), (3, .int .i64 c), (4, .int .i64 d)]) (fun _ _ => [.own (arrS B_w_ 16) (lc ((w_.set a.toNat (Wrd.mk (IntKind.u32.wrap (E1.v + E3.v)))).set d.toNat (Wrd.mk R11)))]) ?_ (fun _ X15 => ?_)
    · refine TW.draw (isH := []) hMix ?_
      refine TA.y (listed' := #[true, false, false, false, false, false, false, false, false, false, false, false, false, false, false, false, false]) 0 [] rfl (Y.move rfl) rfl rfl rfl (by kernel_rfl) (by kernel_rfl) (by kernel_rfl) rfl rfl ?_
      refine TA.y (listed' := #[true, true, false, false, false, false, false, false, false, false, false, false, false, false, false, false, false]) 1 [] rfl (Y.move rfl) rfl rfl rfl (by kernel_rfl) (by kernel_rfl) (by kernel_rfl) rfl rfl ?_
      refine TA.y (listed' := #[true, true, true, false, false, false, false, false, false, false, false, false, false, false, false, false, false]) 2 [] rfl (Y.move rfl) rfl rfl rfl (by kernel_rfl) (by kernel_rfl) (by kernel_rfl) rfl rfl ?_
      refine TA.y (listed' := #[true, true, true, true, false, false, false, false, false, false, false, false, false, false, false, false, false]) 3 [] rfl (Y.move rfl) rfl rfl rfl (by kernel_rfl) (by kernel_rfl) (by kernel_rfl) rfl rfl ?_
      refine TA.y (listed' := #[true, true, true, true, true, false, false, false, false, false, false, false, false, false, false, false, false]) 4 [] rfl (Y.nilCheck rfl) rfl rfl rfl (by kernel_rfl) (by kernel_rfl) (by kernel_rfl) rfl rfl ?_
      refine TA.y (listed' := #[true, true, true, true, true, false, false, true, false, false, false, false, false, false, false, false, false]) 7 [] rfl (Y.move rfl) rfl rfl rfl (by kernel_rfl) (by kernel_rfl) (by kernel_rfl) rfl rfl ?_
      refine TA.y (listed' := #[true, true, true, true, true, false, false, true, true, false, false, false, false, false, false, false, false]) 8 [] rfl (Y.move rfl) rfl rfl rfl (by kernel_rfl) (by kernel_rfl) (by kernel_rfl) rfl rfl ?_
      refine TA.y (listed' := #[true, true, true, true, true, false, false, true, true, true, false, false, false, false, false, false, false]) 9 [] rfl (Y.nilCheck rfl) rfl rfl rfl (by kernel_rfl) (by kernel_rfl) (by kernel_rfl) rfl rfl ?_
      refine TA.y (listed' := #[true, true, true, true, true, false, false, true, true, true, false, false, false, false, true, false, false]) 14 [] rfl (Y.nilCheck rfl) rfl rfl rfl (by kernel_rfl) (by kernel_rfl) (by kernel_rfl) rfl rfl ?_
      refine TA.two 5 10 (by kernel_rfl) ?_ ?_
      · refine TX.y (listed' := #[true, true, true, true, true, true, false, true, true, true, false, false, false, false, true, false, false]) [] rfl (Y.index_arr (α := Wrd) ka48 (Can.own 0 rfl) H8 rfl rfl) rfl rfl rfl rfl rfl ?_
        refine TA.two 6 10 (by kernel_rfl) ?_ ?_
        · refine TX.y (listed' := #[true, true, true, true, true, true, true, true, true, true, false, false, false, false, true, false, false]) [] rfl (Y.load_el (us := [.int .u32 E7.v]) (u := .int .u32 E7.v) kk47 rfl (Can.own 0 rfl) (idx_get H8).2.2 rfl rfl rfl rfl rfl) rfl rfl rfl rfl rfl ?_
          refine TA.one 10 (by kernel_rfl) ?_
          refine TX.y (listed' := #[true, true, true, true, true, true, true, true, true, true, true, false, false, false, true, false, false]) [] rfl (Y.index_arr (α := Wrd) ka48 (Can.own 0 rfl) H10 rfl rfl) rfl rfl rfl rfl rfl ?_
          refine TA.one 11 (by kernel_rfl) ?_
          refine TX.y (listed' := #[true, true, true, true, true, true, true, true, true, true, true, true, false, false, true, false, false]) [] rfl (Y.load_el (us := [.int .u32 E9.v]) (u := .int .u32 E9.v) kk47 rfl (Can.own 0 rfl) (idx_get H10).2.2 rfl rfl rfl rfl rfl) rfl rfl rfl rfl rfl ?_
          refine TA.y (listed' := #[true, true, true, true, true, true, true, true, true, true, true, true, true, false, true, false, false]) 12 [] rfl (Y.xor rfl rfl) rfl rfl rfl (by kernel_rfl) (by kernel_rfl) (by kernel_rfl) rfl rfl ?_
          refine TA.one 13 (by kernel_rfl) ?_
          refine TX.ef (listed' := #[true, true, true, true, true, true, true, true, true, true, true, true, true, true, true, false, false]) [] rfl (Ef.call (rest := [.own (arrS B_w_ 16) (lc (w_.set a.toNat (Wrd.mk (IntKind.u32.wrap (E1.v + E3.v)))))]) [0] (math_bits_RotateLeft32_con (ixor .u32 E7.v E9.v) (16 : Int)  R11 H12) kc44 rfl rfl trivial) rfl rfl rfl rfl (fun _ => rfl) (fun _ => ?_)
          refine TA.one 15 (by kernel_rfl) ?_
          refine TX.y (listed' := #[true, true, true, true, true, true, true, true, true, true, true, true, true, true, true, true, false]) [] rfl (Y.index_arr (α := Wrd) ka48 (Can.own 0 rfl) H8 rfl rfl) rfl rfl rfl rfl rfl ?_
          refine TA.one 16 (by kernel_rfl) ?_
          refine TX.ef0 (listed' := #[true, true, true, true, true, true, true, true, true, true, true, true, true, true, true, true, true]) [] rfl (Ef.store_el (us := [.int .u32 R11]) (is' := [.own (arrS B_w_ 16) (lc ((w_.set a.toNat (Wrd.mk (IntKind.u32.wrap (E1.v + E3.v)))).set d.toNat (Wrd.mk R11)))]) (Wrd.mk R11) 0 kk47 rfl rfl (idx_get H8).2.2 rfl rfl (Cel.plain rfl rfl) rfl rfl rfl rfl) rfl rfl rfl (fun _ => rfl) (fun _ => ?_)
          refine TA.nil (by kernel_rfl) ?_
          exact TE.jb_go () [0] ⟨rfl, rfl, rfl, rfl, rfl, trivial⟩ rfl
        · refine TX.y (listed' := #[true, true, true, true, true, true, false, true, true, true, true, false, false, false, true, false, false]) [] rfl (Y.index_arr (α := Wrd) ka48 (Can.own 0 rfl) H10 rfl rfl) rfl rfl rfl rfl rfl ?_
          refine TA.two 6 11 (by kernel_rfl) ?_ ?_
          · refine TX.y (listed' := #[true, true, true, true, true, true, true, true, true, true, true, false, false, false, true, false, false]) [] rfl (Y.load_el (us := [.int .u32 E7.v]) (u := .int .u32 E7.v) kk47 rfl (Can.own 0 rfl) (idx_get H8).2.2 rfl rfl rfl rfl rfl) rfl rfl rfl rfl rfl ?_
            refine TA.one 11 (by kernel_rfl) ?_
            refine TX.y (listed' := #[true, true, true, true, true, true, true, true, true, true, true, true, false, false, true, false, false]) [] rfl (Y.load_el (us := [.int .u32 E9.v]) (u := .int .u32 E9.v) kk47 rfl (Can.own 0 rfl) (idx_get H10).2.2 rfl rfl rfl rfl rfl) rfl rfl rfl rfl rfl ?_
            refine TA.y (listed' := #[true, true, true, true, true, true, true, true, true, true, true, true, true, false, true, false, false]) 12 [] rfl (Y.xor rfl rfl) rfl rfl rfl (by kernel_rfl) (by kernel_rfl) (by kernel_rfl) rfl rfl ?_
            refine TA.one 13 (by kernel_rfl) ?_
            refine TX.ef (listed' := #[true, true, true, true, true, true, true, true, true, true, true, true, true, true, true, false, false]) [] rfl (Ef.call (rest := [.own (arrS B_w_ 16) (lc (w_.set a.toNat (Wrd.mk (IntKind.u32.wrap (E1.v + E3.v)))))]) [0] (math_bits_RotateLeft32_con (ixor .u32 E7.v E9.v) (16 : Int)  R11 H12) kc44 rfl rfl trivial) rfl rfl rfl rfl (fun _ => rfl) (fun _ => ?_)
            refine TA.one 15 (by kernel_rfl) ?_
            refine TX.y (listed' := #[true, true, true, true, true, true, true, true, true, true, true, true, true, true, true, true, false]) [] rfl (Y.index_arr (α := Wrd) ka48 (Can.own 0 rfl) H8 rfl rfl) rfl rfl rfl rfl rfl ?_
            refine TA.one 16 (by kernel_rfl) ?_
            refine TX.ef0 (listed' := #[true, true, true, true, true, true, true, true, true, true, true, true, true, true, true, true, true]) [] rfl (Ef.store_el (us := [.int .u32 R11]) (is' := [.own (arrS B_w_ 16) (lc ((w_.set a.toNat (Wrd.mk (IntKind.u32.wrap (E1.v + E3.v)))).set d.toNat (Wrd.mk R11)))]) (Wrd.mk R11) 0 kk47 rfl rfl (idx_get H8).2.2 rfl rfl (Cel.plain rfl rfl) rfl rfl rfl rfl) rfl rfl rfl (fun _ => rfl) (fun _ => ?_)
            refine TA.nil (by kernel_rfl) ?_
            exact TE.jb_go () [0] ⟨rfl, rfl, rfl, rfl, rfl, trivial⟩ rfl
          · refine TX.y (listed' := #[true, true, true, true, true, true, false, true, true, true, true, true, false, false, true, false, false]) [] rfl (Y.load_el (us := [.int .u32 E9.v]) (u := .int .u32 E9.v) kk47 rfl (Can.own 0 rfl) (idx_get H10).2.2 rfl rfl rfl rfl rfl) rfl rfl rfl rfl rfl ?_
            refine TA.one 6 (by kernel_rfl) ?_
            refine TX.y (listed' := #[true, true, true, true, true, true, true, true, true, true, true, true, false, false, true, false, false]) [] rfl (Y.load_el (us := [.int .u32 E7.v]) (u := .int .u32 E7.v) kk47 rfl (Can.own 0 rfl) (idx_get H8).2.2 rfl rfl rfl rfl rfl) rfl rfl rfl rfl rfl ?_
            refine TA.y (listed' := #[true, true, true, true, true, true, true, true, true, true, true, true, true, false, true, false, false]) 12 [] rfl (Y.xor rfl rfl) rfl rfl rfl (by kernel_rfl) (by kernel_rfl) (by kernel_rfl) rfl rfl ?_
            refine TA.one 13 (by kernel_rfl) ?_
            refine TX.ef (listed' := #[true, true, true, true, true, true, true, true, true, true, true, true, true, true, true, false, false]) [] rfl (Ef.call (rest := [.own (arrS B_w_ 16) (lc (w_.set a.toNat (Wrd.mk (IntKind.u32.wrap (E1.v + E3.v)))))]) [0] (math_bits_RotateLeft32_con (ixor .u32 E7.v E9.v) (16 : Int)  R11 H12) kc44 rfl rfl trivial) rfl rfl rfl rfl (fun _ => rfl) (fun _ => ?_)
            refine TA.one 15 (by kernel_rfl) ?_
            refine TX.y (listed' := #[true, true, true, true, true, true, true, true, true, true, true, true, true, true, true, true, false]) [] rfl (Y.index_arr (α := Wrd) ka48 (Can.own 0 rfl) H8 rfl rfl) rfl rfl rfl rfl rfl ?_
            refine TA.one 16 (by kernel_rfl) ?_
            refine TX.ef0 (listed' := #[true, true, true, true, true, true, true, true, true, true, true, true, true, true, true, true, true]) [] rfl (Ef.store_el (us := [.int .u32 R11]) (is' := [.own (arrS B_w_ 16) (lc ((w_.set a.toNat (Wrd.mk (IntKind.u32.wrap (E1.v + E3.v)))).set d.toNat (Wrd.mk R11)))]) (Wrd.mk R11) 0 kk47 rfl rfl (idx_get H8).2.2 rfl rfl (Cel.plain rfl rfl) rfl rfl rfl rfl) rfl rfl rfl (fun _ => rfl) (fun _ => ?_)
            refine TA.nil (by kernel_rfl) ?_
            exact TE.jb_go () [0] ⟨rfl, rfl, rfl, rfl, rfl, trivial⟩ rfl
      · refine TX.y (listed' := #[true, true, true, true, true, false, false, true, true, true, true, false, false, false, true, false, false]) [] rfl (Y.index_arr (α := Wrd) ka48 (Can.own 0 rfl) H10 rfl rfl) rfl rfl rfl rfl rfl ?_
        refine TA.two 5 11 (by kernel_rfl) ?_ ?_
        · refine TX.y (listed' := #[true, true, true, true, true, true, false, true, true, true, true, false, false, false, true, false, false]) [] rfl (Y.index_arr (α := Wrd) ka48 (Can.own 0 rfl) H8 rfl rfl) rfl rfl rfl rfl rfl ?_
          refine TA.two 6 11 (by kernel_rfl) ?_ ?_
          · refine TX.y (listed' := #[true, true, true, true, true, true, true, true, true, true, true, false, false, false, true, false, false]) [] rfl (Y.load_el (us := [.int .u32 E7.v]) (u := .int .u32 E7.v) kk47 rfl (Can.own 0 rfl) (idx_get H8).2.2 rfl rfl rfl rfl rfl) rfl rfl rfl rfl rfl ?_
            refine TA.one 11 (by kernel_rfl) ?_
            refine TX.y (listed' := #[true, true, true, true, true, true, true, true, true, true, true, true, false, false, true, false, false]) [] rfl (Y.load_el (us := [.int .u32 E9.v]) (u := .int .u32 E9.v) kk47 rfl (Can.own 0 rfl) (idx_get H10).2.2 rfl rfl rfl rfl rfl) rfl rfl rfl rfl rfl ?_
            refine TA.y (listed' := #[true, true, true, true, true, true, true, true, true, true, true, true, true, false, true, false, false]) 12 [] rfl (Y.xor rfl rfl) rfl rfl rfl (by kernel_rfl) (by kernel_rfl) (by kernel_rfl) rfl rfl ?_
            refine TA.one 13 (by kernel_rfl) ?_
            refine TX.ef (listed' := #[true, true, true, true, true, true, true, true, true, true, true, true, true, true, true, false, false]) [] rfl (Ef.call (rest := [.own (arrS B_w_ 16) (lc (w_.set a.toNat (Wrd.mk (IntKind.u32.wrap (E1.v + E3.v)))))]) [0] (math_bits_RotateLeft32_con (ixor .u32 E7.v E9.v) (16 : Int)  R11 H12) kc44 rfl rfl trivial) rfl rfl rfl rfl (fun _ => rfl) (fun _ => ?_)
            refine TA.one 15 (by kernel_rfl) ?_
            refine TX.y (listed' := #[true, true, true, true, true, true, true, true, true, true, true, true, true, true, true, true, false]) [] rfl (Y.index_arr (α := Wrd) ka48 (Can.own 0 rfl) H8 rfl rfl) rfl rfl rfl rfl rfl ?_
            refine TA.one 16 (by kernel_rfl) ?_
            refine TX.ef0 (listed' := #[true, true, true, true, true, true, true, true, true, true, true, true, true, true, true, true, true]) [] rfl (Ef.store_el (us := [.int .u32 R11]) (is' := [.own (arrS B_w_ 16) (lc ((w_.set a.toNat (Wrd.mk (IntKind.u32.wrap (E1.v + E3.v)))).set d.toNat (Wrd.mk R11)))]) (Wrd.mk R11) 0 kk47 rfl rfl (idx_get H8).2.2 rfl rfl (Cel.plain rfl rfl) rfl rfl rfl rfl) rfl rfl rfl (fun _ => rfl) (fun _ => ?_)
            refine TA.nil (by kernel_rfl) ?_
            exact TE.jb_go () [0] ⟨rfl, rfl, rfl, rfl, rfl, trivial⟩ rfl
          · refine TX.y (listed' := #[true, true, true, true, true, true, false, true, true, true, true, true, false, false, true, false, false]) [] rfl (Y.load_el (us := [.int .u32 E9.v]) (u := .int .u32 E9.v) kk47 rfl (Can.own 0 rfl) (idx_get H10).2.2 rfl rfl rfl rfl rfl) rfl rfl rfl rfl rfl ?_
            refine TA.one 6 (by kernel_rfl) ?_
            refine TX.y (listed' := #[true, true, true, true, true, true, true, true, true, true, true, true, false, false, true, false, false]) [] rfl (Y.load_el (us := [.int .u32 E7.v]) (u := .int .u32 E7.v) kk47 rfl (Can.own 0 rfl) (idx_get H8).2.2 rfl rfl rfl rfl rfl) rfl rfl rfl rfl rfl ?_
            refine TA.y (listed' := #[true, true, true, true, true, true, true, true, true, true, true, true, true, false, true, false, false]) 12 [] rfl (Y.xor rfl rfl) rfl rfl rfl (by kernel_rfl) (by kernel_rfl) (by kernel_rfl) rfl rfl ?_
            refine TA.one 13 (by kernel_rfl) ?_
            refine TX.ef (listed' := #[true, true, true, true, true, true, true, true, true, true, true, true, true, true, true, false, false]) [] rfl (Ef.call (rest := [.own (arrS B_w_ 16) (lc (w_.set a.toNat (Wrd.mk (IntKind.u32.wrap (E1.v + E3.v)))))]) [0] (math_bits_RotateLeft32_con (ixor .u32 E7.v E9.v) (16 : Int)  R11 H12) kc44 rfl rfl trivial) rfl rfl rfl rfl (fun _ => rfl) (fun _ => ?_)
            refine TA.one 15 (by kernel_rfl) ?_
            refine TX.y (listed' := #[true, true, true, true, true, true, true, true, true, true, true, true, true, true, true, true, false]) [] rfl (Y.index_arr (α := Wrd) ka48 (Can.own 0 rfl) H8 rfl rfl) rfl rfl rfl rfl rfl ?_
            refine TA.one 16 (by kernel_rfl) ?_
            refine TX.ef0 (listed' := #[true, true, true, true, true, true, true, true, true, true, true, true, true, true, true, true, true]) [] rfl (Ef.store_el (us := [.int .u32 R11]) (is' := [.own (arrS B_w_ 16) (lc ((w_.set a.toNat (Wrd.mk (IntKind.u32.wrap (E1.v + E3.v)))).set d.toNat (Wrd.mk R11)))]) (Wrd.mk R11) 0 kk47 rfl rfl (idx_get H8).2.2 rfl rfl (Cel.plain rfl rfl) rfl rfl rfl rfl) rfl rfl rfl (fun _ => rfl) (fun _ => ?_)
            refine TA.nil (by kernel_rfl) ?_
            exact TE.jb_go () [0] ⟨rfl, rfl, rfl, rfl, rfl, trivial⟩ rfl
        · refine TX.y (listed' := #[true, true, true, true, true, false, false, true, true, true, true, true, false, false, true, false, false]) [] rfl (Y.load_el (us := [.int .u32 E9.v]) (u := .int .u32 E9.v) kk47 rfl (Can.own 0 rfl) (idx_get H10).2.2 rfl rfl rfl rfl rfl) rfl rfl rfl rfl rfl ?_
          refine TA.one 5 (by kernel_rfl) ?_
          refine TX.y (listed' := #[true, true, true, true, true, true, false, true, true, true, true, true, false, false, true, false, false]) [] rfl (Y.index_arr (α := Wrd) ka48 (Can.own 0 rfl) H8 rfl rfl) rfl rfl rfl rfl rfl ?_
          refine TA.one 6 (by kernel_rfl) ?_
          refine TX.y (listed' := #[true, true, true, true, true, true, true, true, true, true, true, true, false, false, true, false, false]) [] rfl (Y.load_el (us := [.int .u32 E7.v]) (u := .int .u32 E7.v) kk47 rfl (Can.own 0 rfl) (idx_get H8).2.2 rfl rfl rfl rfl rfl) rfl rfl rfl rfl rfl ?_
          refine TA.y (listed' := #[true, true, true, true, true, true, true, true, true, true, true, true, true, false, true, false, false]) 12 [] rfl (Y.xor rfl rfl) rfl rfl rfl (by kernel_rfl) (by kernel_rfl) (by kernel_rfl) rfl rfl ?_
          refine TA.one 13 (by kernel_rfl) ?_
          refine TX.ef (listed' := #[true, true, true, true, true, true, true, true, true, true, true, true, true, true, true, false, false]) [] rfl (Ef.call (rest := [.own (arrS B_w_ 16) (lc (w_.set a.toNat (Wrd.mk (IntKind.u32.wrap (E1.v + E3.v)))))]) [0] (math_bits_RotateLeft32_con (ixor .u32 E7.v E9.v) (16 : Int)  R11 H12) kc44 rfl rfl trivial) rfl rfl rfl rfl (fun _ => rfl) (fun _ => ?_)
          refine TA.one 15 (by kernel_rfl) ?_
          refine TX.y (listed' := #[true, true, true, true, true, true, true, true, true, true, true, true, true, true, true, true, false]) [] rfl (Y.index_arr (α := Wrd) ka48 (Can.own 0 rfl) H8 rfl rfl) rfl rfl rfl rfl rfl ?_
          refine TA.one 16 (by kernel_rfl) ?_
          refine TX.ef0 (listed' := #[true, true, true, true, true, true, true, true, true, true, true, true, true, true, true, true, true]) [] rfl (Ef.store_el (us := [.int .u32 R11]) (is' := [.own (arrS B_w_ 16) (lc ((w_.set a.toNat (Wrd.mk (IntKind.u32.wrap (E1.v + E3.v)))).set d.toNat (Wrd.mk R11)))]) (Wrd.mk R11) 0 kk47 rfl rfl (idx_get H8).2.2 rfl rfl (Cel.plain rfl rfl) rfl rfl rfl rfl) rfl rfl rfl (fun _ => rfl) (fun _ => ?_)
          refine TA.nil (by kernel_rfl) ?_
          exact TE.jb_go () [0] ⟨rfl, rfl, rfl, rfl, rfl, trivial⟩ rfl
    · refine TE.next ?_
      refine TW.seq ?_
      refine TW.bind fun E16 H17 => ?_
      refine TW.bind fun E18 H19 => ?_
      refine TW.joinU (X := Unit) (fun _ _ => [(0, .pointer (some ⟨B_w_, 0, none⟩)), (1, .int .i64 a), (2, .int .i64 b), (3, .int .i64 c), (4, .int .i64 d)]) (fun _ _ => [.own (arrS B_w_ 16) (lc (((w_.set a.toNat (Wrd.mk (IntKind.u32.wrap (E1.v + E3.v)))).set d.toNat (Wrd.mk R11)).set c.toNat (Wrd.mk (IntKind.u32.wrap (E16.v + E18.v)))))]) ?_ (fun _ X21 => ?_)
      · refine TW.draw (isH := []) hMix ?_
        refine TA.y (listed' := #[true, false, false, false, false, false, false, false, false, false, false, false, false, false]) 0 [] rfl (Y.move rfl) rfl rfl rfl (by kernel_rfl) (by kernel_rfl) (by kernel_rfl) rfl rfl ?_
        refine TA.y (listed' := #[true, true, false, false, false, false, false, false, false, false, false, false, false, false]) 1 [] rfl (Y.move rfl) rfl rfl rfl (by kernel_rfl) (by kernel_rfl) (by kernel_rfl) rfl rfl ?_
        refine TA.y (listed' := #[true, true, true, false, false, false, false, false, false, false, false, false, false, false]) 2 [] rfl (Y.nilCheck rfl) rfl rfl rfl (by kernel_rfl) (by kernel_rfl) (by kernel_rfl) rfl rfl ?_
        refine TA.y (listed' := #[true, true, true, false, false, true, false, false, false, false, false, false, false, false]) 5 [] rfl (Y.move rfl) rfl rfl rfl (by kernel_rfl) (by kernel_rfl) (by kernel_rfl) rfl rfl ?_
        refine TA.y (listed' := #[true, true, true, false, false, true, true, false, false, false, false, false, false, false]) 6 [] rfl (Y.move rfl) rfl rfl rfl (by kernel_rfl) (by kernel_rfl) (by kernel_rfl) rfl rfl ?_
        refine TA.y (listed' := #[true, true, true, false, false, true, true, true, false, false, false, false, false, false]) 7 [] rfl (Y.nilCheck rfl) rfl rfl rfl (by kernel_rfl) (by kernel_rfl) (by kernel_rfl) rfl rfl ?_
        refine TA.y (listed' := #[true, true, true, false, false, true, true, true, false, false, false, true, false, false]) 11 [] rfl (Y.nilCheck rfl) rfl rfl rfl (by kernel_rfl) (by kernel_rfl) (by kernel_rfl) rfl rfl ?_
        refine TA.two 3 8 (by kernel_rfl) ?_ ?_
        · refine TX.y (listed' := #[true, true, true, true, false, true, true, true, false, false, false, true, false, false]) [] rfl (Y.index_arr (α := Wrd) ka48 (Can.own 0 rfl) H17 rfl rfl) rfl rfl rfl rfl rfl ?_
          refine TA.two 4 8 (by kernel_rfl) ?_ ?_
          · refine TX.y (listed' := #[true, true, true, true, true, true, true, true, false, false, false, true, false, false]) [] rfl (Y.load_el (us := [.int .u32 E16.v]) (u := .int .u32 E16.v) kk47 rfl (Can.own 0 rfl) (idx_get H17).2.2 rfl rfl rfl rfl rfl) rfl rfl rfl rfl rfl ?_
            refine TA.one 8 (by kernel_rfl) ?_
            refine TX.y (listed' := #[true, true, true, true, true, true, true, true, true, false, false, true, false, false]) [] rfl (Y.index_arr (α := Wrd) ka48 (Can.own 0 rfl) H19 rfl rfl) rfl rfl rfl rfl rfl ?_
            refine TA.one 9 (by kernel_rfl) ?_
            refine TX.y (listed' := #[true, true, true, true, true, true, true, true, true, true, false, true, false, false]) [] rfl (Y.load_el (us := [.int .u32 E18.v]) (u := .int .u32 E18.v) kk47 rfl (Can.own 0 rfl) (idx_get H19).2.2 rfl rfl rfl rfl rfl) rfl rfl rfl rfl rfl ?_
            refine TA.y (listed' := #[true, true, true, true, true, true, true, true, true, true, true, true, false, false]) 10 [] rfl (Y.add rfl rfl) rfl rfl rfl (by kernel_rfl) (by kernel_rfl) (by kernel_rfl) rfl rfl ?_
            refine TA.one 12 (by kernel_rfl) ?_
            refine TX.y (listed' := #[true, true, true, true, true, true, true, true, true, true, true, true, true, false]) [] rfl (Y.index_arr (α := Wrd) ka48 (Can.own 0 rfl) H17 rfl rfl) rfl rfl rfl rfl rfl ?_
            refine TA.one 13 (by kernel_rfl) ?_
            refine TX.ef0 (listed' := #[true, true, true, true, true, true, true, true, true, true, true, true, true, true]) [] rfl (Ef.store_el (us := [.int .u32 (IntKind.u32.wrap (E16.v + E18.v))]) (is' := [.own (arrS B_w_ 16) (lc (((w_.set a.toNat (Wrd.mk (IntKind.u32.wrap (E1.v + E3.v)))).set d.toNat (Wrd.mk R11)).set c.toNat (Wrd.mk (IntKind.u32.wrap (E16.v + E18.v)))))]) (Wrd.mk (IntKind.u32.wrap (E16.v + E18.v))) 0 kk47 rfl rfl (idx_get H17).2.2 rfl rfl (Cel.plain rfl rfl) rfl rfl rfl rfl) rfl rfl rfl (fun _ => rfl) (fun _ => ?_)
            refine TA.nil (by kernel_rfl) ?_
            exact TE.jb_go () [0] ⟨rfl, rfl, rfl, rfl, rfl, trivial⟩ rfl
          · refine TX.y (listed' := #[true, true, true, true, false, true, true, true, true, false, false, true, false, false]) [] rfl (Y.index_arr (α := Wrd) ka48 (Can.own 0 rfl) H19 rfl rfl) rfl rfl rfl rfl rfl ?_
            refine TA.two 4 9 (by kernel_rfl) ?_ ?_
            · refine TX.y (listed' := #[true, true, true, true, true, true, true, true, true, false, false, true, false, false]) [] rfl (Y.load_el (us := [.int .u32 E16.v]) (u := .int .u32 E16.v) kk47 rfl (Can.own 0 rfl) (idx_get H17).2.2 rfl rfl rfl rfl rfl) rfl rfl rfl rfl rfl ?_
              refine TA.one 9 (by kernel_rfl) ?_
              refine TX.y (listed' := #[true, true, true, true, true, true, true, true, true, true, false, true, false, false]) [] rfl (Y.load_el (us := [.int .u32 E18.v]) (u := .int .u32 E18.v) kk47 rfl (Can.own 0 rfl) (idx_get H19).2.2 rfl rfl rfl rfl rfl) rfl rfl rfl rfl rfl ?_
              refine TA.y (listed' := #[true, true, true, true, true, true, true, true, true, true, true, true, false, false]) 10 [] rfl (Y.add rfl rfl) rfl rfl rfl (by kernel_rfl) (by kernel_rfl) (by kernel_rfl) rfl rfl ?_
              refine TA.one 12 (by kernel_rfl) ?_
              refine TX.y (listed' := #[true, true, true, true, true, true, true, true, true, true, true, true, true, false]) [] rfl (Y.index_arr (α := Wrd) ka48 (Can.own 0 rfl) H17 rfl rfl) rfl rfl rfl rfl rfl ?_
              refine TA.one 13 (by kernel_rfl) ?_
              refine TX.ef0 (listed' := #[true, true, true, true, true, true, true, true, true, true, true, true, true, true]) [] rfl (Ef.store_el (us := [.int .u32 (IntKind.u32.wrap (E16.v + E18.v))]) (is' := [.own (arrS B_w_ 16) (lc (((w_.set a.toNat (Wrd.mk (IntKind.u32.wrap (E1.v + E3.v)))).set d.toNat (Wrd.mk R11)).set c.toNat (Wrd.mk (IntKind.u32.wrap (E16.v + E18.v)))))]) (Wrd.mk (IntKind.u32.wrap (E16.v + E18.v))) 0 kk47 rfl rfl (idx_get H17).2.2 rfl rfl (Cel.plain rfl rfl) rfl rfl rfl rfl) rfl rfl rfl (fun _ => rfl) (fun _ => ?_)
              refine TA.nil (by kernel_rfl) ?_
              exact TE.jb_go () [0] ⟨rfl, rfl, rfl, rfl, rfl, trivial⟩ rfl
            · refine TX.y (listed' := #[true, true, true, true, false, true, true, true, true, true, false, true, false, false]) [] rfl (Y.load_el (us := [.int .u32 E18.v]) (u := .int .u32 E18.v) kk47 rfl (Can.own 0 rfl) (idx_get H19).2.2 rfl rfl rfl rfl rfl) rfl rfl rfl rfl rfl ?_
              refine TA.one 4 (by kernel_rfl) ?_
              refine TX.y (listed' := #[true, true, true, true, true, true, true, true, true, true, false, true, false, false]) [] rfl (Y.load_el (us := [.int .u32 E16.v]) (u := .int .u32 E16.v) kk47 rfl (Can.own 0 rfl) (idx_get H17).2.2 rfl rfl rfl rfl rfl) rfl rfl rfl rfl rfl ?_
              refine TA.y (listed' := #[true, true, true, true, true, true, true, true, true, true, true, true, false, false]) 10 [] rfl (Y.add rfl rfl) rfl rfl rfl (by kernel_rfl) (by kernel_rfl) (by kernel_rfl) rfl rfl ?_
              refine TA.one 12 (by kernel_rfl) ?_
              refine TX.y (listed' := #[true, true, true, true, true, true, true, true, true, true, true, true, true, false]) [] rfl (Y.index_arr (α := Wrd) ka48 (Can.own 0 rfl) H17 rfl rfl) rfl rfl rfl rfl rfl ?_
              refine TA.one 13 (by kernel_rfl) ?_
              refine TX.ef0 (listed' := #[true, true, true, true, true, true, true, true, true, true, true, true, true, true]) [] rfl (Ef.store_el (us := [.int .u32 (IntKind.u32.wrap (E16.v + E18.v))]) (is' := [.own (arrS B_w_ 16) (lc (((w_.set a.toNat (Wrd.mk (IntKind.u32.wrap (E1.v + E3.v)))).set d.toNat (Wrd.mk R11)).set c.toNat (Wrd.mk (IntKind.u32.wrap (E16.v + E18.v)))))]) (Wrd.mk (IntKind.u32.wrap (E16.v + E18.v))) 0 kk47 rfl rfl (idx_get H17).2.2 rfl rfl (Cel.plain rfl rfl) rfl rfl rfl rfl) rfl rfl rfl (fun _ => rfl) (fun _ => ?_)
              refine TA.nil (by kernel_rfl) ?_
              exact TE.jb_go () [0] ⟨rfl, rfl, rfl, rfl, rfl, trivial⟩ rfl
        · refine TX.y (listed' := #[true, true, true, false, false, true, true, true, true, false, false, true, false, false]) [] rfl (Y.index_arr (α := Wrd) ka48 (Can.own 0 rfl) H19 rfl rfl) rfl rfl rfl rfl rfl ?_
          refine TA.two 3 9 (by kernel_rfl) ?_ ?_
          · refine TX.y (listed' := #[true, true, true, true, false, true, true, true, true, false, false, true, false, false]) [] rfl (Y.index_arr (α := Wrd) ka48 (Can.own 0 rfl) H17 rfl rfl) rfl rfl rfl rfl rfl ?_
            refine TA.two 4 9 (by kernel_rfl) ?_ ?_
            · refine TX.y (listed' := #[true, true, true, true, true, true, true, true, true, false, false, true, false, false]) [] rfl (Y.load_el (us := [.int .u32 E16.v]) (u := .int .u32 E16.v) kk47 rfl (Can.own 0 rfl) (idx_get H17).2.2 rfl rfl rfl rfl rfl) rfl rfl rfl rfl rfl ?_
              refine TA.one 9 (by kernel_rfl) ?_
              refine TX.y (listed' := #[true, true, true, true, true, true, true, true, true, true, false, true, false, false]) [] rfl (Y.load_el (us := [.int .u32 E18.v]) (u := .int .u32 E18.v) kk47 rfl (Can.own 0 rfl) (idx_get H19).2.2 rfl rfl rfl rfl rfl) rfl rfl rfl rfl rfl ?_
              refine TA.y (listed' := #[true, true, true, true, true, true, true, true, true, true, true, true, false, false]) 10 [] rfl (Y.add rfl rfl) rfl rfl rfl (by kernel_rfl) (by kernel_rfl) (by kernel_rfl) rfl rfl ?_
              refine TA.one 12 (by kernel_rfl) ?_
              refine TX.y (listed' := #[true, true, true, true, true, true, true, true, true, true, true, true, true, false]) [] rfl (Y.index_arr (α := Wrd) ka48 (Can.own 0 rfl) H17 rfl rfl) rfl rfl rfl rfl rfl ?_
              refine TA.one 13 (by kernel_rfl) ?_
              refine TX.ef0 (listed' := #[true, true, true, true, true, true, true, true, true, true, true, true, true, true]) [] rfl (Ef.store_el (us := [.int .u32 (IntKind.u32.wrap (E16.v + E18.v))]) (is' := [.own (arrS B_w_ 16) (lc (((w_.set a.toNat (Wrd.mk (IntKind.u32.wrap (E1.v + E3.v)))).set d.toNat (Wrd.mk R11)).set c.toNat (Wrd.mk (IntKind.u32.wrap (E16.v + E18.v)))))]) (Wrd.mk (IntKind.u32.wrap (E16.v + E18.v))) 0 kk47 rfl rfl (idx_get H17).2.2 rfl rfl (Cel.plain rfl rfl) rfl rfl rfl rfl) rfl rfl rfl (fun _ => rfl) (fun _ => ?_)
              refine TA.nil (by kernel_rfl) ?_
              exact TE.jb_go () [0] ⟨rfl, rfl, rfl, rfl, rfl, trivial⟩ rfl
            · refine TX.y (listed' := #[true, true, true, true, false, true, true, true, true, true, false, true, false, false]) [] rfl (Y.load_el (us := [.int .u32 E18.v]) (u := .int .u32 E18.v) kk47 rfl (Can.own 0 rfl) (idx_get H19).2.2 rfl rfl rfl rfl rfl) rfl rfl rfl rfl rfl ?_
              refine TA.one 4 (by kernel_rfl) ?_
              refine TX.y (listed' := #[true, true, true, true, true, true, true, true, true, true, false, true, false, false]) [] rfl (Y.load_el (us := [.int .u32 E16.v]) (u := .int .u32 E16.v) kk47 rfl (Can.own 0 rfl) (idx_get H17).2.2 rfl rfl rfl rfl rfl) rfl rfl rfl rfl rfl ?_
              refine TA.y (listed' := #[true, true, true, true, true, true, true, true, true, true, true, true, false, false]) 10 [] rfl (Y.add rfl rfl) rfl rfl rfl (by kernel_rfl) (by kernel_rfl) (by kernel_rfl) rfl rfl ?_
              refine TA.one 12 (by kernel_rfl) ?_
              refine TX.y (listed' := #[true, true, true, true, true, true, true, true, true, true, true, true, true, false]) [] rfl (Y.index_arr (α := Wrd) ka48 (Can.own 0 rfl) H17 rfl rfl) rfl rfl rfl rfl rfl ?_
              refine TA.one 13 (by kernel_rfl) ?_
              refine TX.ef0 (listed' := #[true, true, true, true, true, true, true, true, true, true, true, true, true, true]) [] rfl (Ef.store_el (us := [.int .u32 (IntKind.u32.wrap (E16.v + E18.v))]) (is' := [.own (arrS B_w_ 16) (lc (((w_.set a.toNat (Wrd.mk (IntKind.u32.wrap (E1.v + E3.v)))).set d.toNat (Wrd.mk R11)).set c.toNat (Wrd.mk (IntKind.u32.wrap (E16.v + E18.v)))))]) (Wrd.mk (IntKind.u32.wrap (E16.v + E18.v))) 0 kk47 rfl rfl (idx_get H17).2.2 rfl rfl (Cel.plain rfl rfl) rfl rfl rfl rfl) rfl rfl rfl (fun _ => rfl) (fun _ => ?_)
              refine TA.nil (by kernel_rfl) ?_
              exact TE.jb_go () [0] ⟨rfl, rfl, rfl, rfl, rfl, trivial⟩ rfl
          · refine TX.y (listed' := #[true, true, true, false, false, true, true, true, true, true, false, true, false, false]) [] rfl (Y.load_el (us := [.int .u32 E18.v]) (u := .int .u32 E18.v) kk47 rfl (Can.own 0 rfl) (idx_get H19).2.2 rfl rfl rfl rfl rfl) rfl rfl rfl rfl rfl ?_
            refine TA.one 3 (by kernel_rfl) ?_
            refine TX.y (listed' := #[true, true, true, true, false, true, true, true, true, true, false, true, false, false]) [] rfl (Y.index_arr (α := Wrd) ka48 (Can.own 0 rfl) H17 rfl rfl) rfl rfl rfl rfl rfl ?_
            refine TA.one 4 (by kernel_rfl) ?_
            refine TX.y (listed' := #[true, true, true, true, true, true, true, true, true, true, false, true, false, false]) [] rfl (Y.load_el (us := [.int .u32 E16.v]) (u := .int .u32 E16.v) kk47 rfl (Can.own 0 rfl) (idx_get H17).2.2 rfl rfl rfl rfl rfl) rfl rfl rfl rfl rfl ?_
            refine TA.y (listed' := #[true, true, true, true, true, true, true, true, true, true, true, true, false, false]) 10 [] rfl (Y.add rfl rfl) rfl rfl rfl (by kernel_rfl) (by kernel_rfl) (by kernel_rfl) rfl rfl ?_
            refine TA.one 12 (by kernel_rfl) ?_
            refine TX.y (listed' := #[true, true, true, true, true, true, true, true, true, true, true, true, true, false]) [] rfl (Y.index_arr (α := Wrd) ka48 (Can.own 0 rfl) H17 rfl rfl) rfl rfl rfl rfl rfl ?_
            refine TA.one 13 (by kernel_rfl) ?_
            refine TX.ef0 (listed' := #[true, true, true, true, true, true, true, true, true, true, true, true, true, true]) [] rfl (Ef.store_el (us := [.int .u32 (IntKind.u32.wrap (E16.v + E18.v))]) (is' := [.own (arrS B_w_ 16) (lc (((w_.set a.toNat (Wrd.mk (IntKind.u32.wrap (E1.v + E3.v)))).set d.toNat (Wrd.mk R11)).set c.toNat (Wrd.mk (IntKind.u32.wrap (E16.v + E18.v)))))]) (Wrd.mk (IntKind.u32.wrap (E16.v + E18.v))) 0 kk47 rfl rfl (idx_get H17).2.2 rfl rfl (Cel.plain rfl rfl) rfl rfl rfl rfl) rfl rfl rfl (fun _ => rfl) (fun _ => ?_)
            refine TA.nil (by kernel_rfl) ?_
            exact TE.jb_go () [0] ⟨rfl, rfl, rfl, rfl, rfl, trivial⟩ rfl
      · refine TE.next ?_
        refine TW.seq ?_
        refine TW.bind fun E22 H23 => ?_
        refine TW.bind fun E24 H25 => ?_
        refine TW.bind fun R26 H27 => ?_
        refine TW.joinU (X := Unit) (fun _ _ => [(0, .pointer (some ⟨B_w_, 0, none⟩)), (1, .int .i64 a), (2, .int .i64 b), (3, .int .i64 c), (4, .int .i64 d)]) (fun _ _ => [.own (arrS B_w_ 16) (lc ((((w_.set a.toNat (Wrd.mk (IntKind.u32.wrap (E1.v + E3.v)))).set d.toNat (Wrd.mk R11)).set c.toNat (Wrd.mk (IntKind.u32.wrap (E16.v + E18.v)))).set b.toNat (Wrd.mk R26)))]) ?_ (fun _ X30 => ?_)
        · refine TW.draw (isH := []) hMix ?_
          refine TA.y (listed' := #[true, false, false, false, false, false, false, false, false, false, false, false, false, false, false, false, false]) 0 [] rfl (Y.move rfl) rfl rfl rfl (by kernel_rfl) (by kernel_rfl) (by kernel_rfl) rfl rfl ?_
          refine TA.y (listed' := #[true, true, false, false, false, false, false, false, false, false, false, false, false, false, false, false, false]) 1 [] rfl (Y.move rfl) rfl rfl rfl (by kernel_rfl) (by kernel_rfl) (by kernel_rfl) rfl rfl ?_
          refine TA.y (listed' := #[true, true, true, false, false, false, false, false, false, false, false, false, false, false, false, false, false]) 2 [] rfl (Y.move rfl) rfl rfl rfl (by kernel_rfl) (by kernel_rfl) (by kernel_rfl) rfl rfl ?_
          refine TA.y (listed' := #[true, true, true, true, false, false, false, false, false, false, false, false, false, false, false, false, false]) 3 [] rfl (Y.move rfl) rfl rfl rfl (by kernel_rfl) (by kernel_rfl) (by kernel_rfl) rfl rfl ?_
          refine TA.y (listed' := #[true, true, true, true, true, false, false, false, false, false, false, false, false, false, false, false, false]) 4 [] rfl (Y.nilCheck rfl) rfl rfl rfl (by kernel_rfl) (by kernel_rfl) (by kernel_rfl) rfl rfl ?_
          refine TA.y (listed' := #[true, true, true, true, true, false, false, true, false, false, false, false, false, false, false, false, false]) 7 [] rfl (Y.move rfl) rfl rfl rfl (by kernel_rfl) (by kernel_rfl) (by kernel_rfl) rfl rfl ?_
          refine TA.y (listed' := #[true, true, true, true, true, false, false, true, true, false, false, false, false, false, false, false, false]) 8 [] rfl (Y.move rfl) rfl rfl rfl (by kernel_rfl) (by kernel_rfl) (by kernel_rfl) rfl rfl ?_
          refine TA.y (listed' := #[true, true, true, true, true, false, false, true, true, true, false, false, false, false, false, false, false]) 9 [] rfl (Y.nilCheck rfl) rfl rfl rfl (by kernel_rfl) (by kernel_rfl) (by kernel_rfl) rfl rfl ?_
          refine TA.y (listed' := #[true, true, true, true, true, false, false, true, true, true, false, false, false, false, true, false, false]) 14 [] rfl (Y.nilCheck rfl) rfl rfl rfl (by kernel_rfl) (by kernel_rfl) (by kernel_rfl) rfl rfl ?_
          refine TA.two 5 10 (by kernel_rfl) ?_ ?_
          · refine TX.y (listed' := #[true, true, true, true, true, true, false, true, true, true, false, false, false, false, true, false, false]) [] rfl (Y.index_arr (α := Wrd) ka48 (Can.own 0 rfl) H23 rfl rfl) rfl rfl rfl rfl rfl ?_
            refine TA.two 6 10 (by kernel_rfl) ?_ ?_
            · refine TX.y (listed' := #[true, true, true, true, true, true, true, true, true, true, false, false, false, false, true, false, false]) [] rfl (Y.load_el (us := [.int .u32 E22.v]) (u := .int .u32 E22.v) kk47 rfl (Can.own 0 rfl) (idx_get H23).2.2 rfl rfl rfl rfl rfl) rfl rfl rfl rfl rfl ?_
              refine TA.one 10 (by kernel_rfl) ?_
              refine TX.y (listed' := #[true, true, true, true, true, true, true, true, true, true, true, false, false, false, true, false, false]) [] rfl (Y.index_arr (α := Wrd) ka48 (Can.own 0 rfl) H25 rfl rfl) rfl rfl rfl rfl rfl ?_
              refine TA.one 11 (by kernel_rfl) ?_
              refine TX.y (listed' := #[true, true, true, true, true, true, true, true, true, true, true, true, false, false, true, false, false]) [] rfl (Y.load_el (us := [.int .u32 E24.v]) (u := .int .u32 E24.v) kk47 rfl (Can.own 0 rfl) (idx_get H25).2.2 rfl rfl rfl rfl rfl) rfl rfl rfl rfl rfl ?_
              refine TA.y (listed' := #[true, true, true, true, true, true, true, true, true, true, true, true, true, false, true, false, false]) 12 [] rfl (Y.xor rfl rfl) rfl rfl rfl (by kernel_rfl) (by kernel_rfl) (by kernel_rfl) rfl rfl ?_
              refine TA.one 13 (by kernel_rfl) ?_
              refine TX.ef (listed' := #[true, true, true, true, true, true, true, true, true, true, true, true, true, true, true, false, false]) [] rfl (Ef.call (rest := [.own (arrS B_w_ 16) (lc (((w_.set a.toNat (Wrd.mk (IntKind.u32.wrap (E1.v + E3.v)))).set d.toNat (Wrd.mk R11)).set c.toNat (Wrd.mk (IntKind.u32.wrap (E16.v + E18.v)))))]) [0] (math_bits_RotateLeft32_con (ixor .u32 E22.v E24.v) (12 : Int)  R26 H27) kc44 rfl rfl trivial) rfl rfl rfl rfl (fun _ => rfl) (fun _ => ?_)
              refine TA.one 15 (by kernel_rfl) ?_
              refine TX.y (listed' := #[true, true, true, true, true, true, true, true, true, true, true, true, true, true, true, true, false]) [] rfl (Y.index_arr (α := Wrd) ka48 (Can.own 0 rfl) H23 rfl rfl) rfl rfl rfl rfl rfl ?_
              refine TA.one 16 (by kernel_rfl) ?_
              refine TX.ef0 (listed' := #[true, true, true, true, true, true, true, true, true, true, true, true, true, true, true, true, true]) [] rfl (Ef.store_el (us := [.int .u32 R26]) (is' := [.own (arrS B_w_ 16) (lc ((((w_.set a.toNat (Wrd.mk (IntKind.u32.wrap (E1.v + E3.v)))).set d.toNat (Wrd.mk R11)).set c.toNat (Wrd.mk (IntKind.u32.wrap (E16.v + E18.v)))).set b.toNat (Wrd.mk R26)))]) (Wrd.mk R26) 0 kk47 rfl rfl (idx_get H23).2.2 rfl rfl (Cel.plain rfl rfl) rfl rfl rfl rfl) rfl rfl rfl (fun _ => rfl) (fun _ => ?_)
              refine TA.nil (by kernel_rfl) ?_
              exact TE.jb_go () [0] ⟨rfl, rfl, rfl, rfl, rfl, trivial⟩ rfl
            · refine TX.y (listed' := #[true, true, true, true, true, true, false, true, true, true, true, false, false, false, true, false, false]) [] rfl (Y.index_arr (α := Wrd) ka48 (Can.own 0 rfl) H25 rfl rfl) rfl rfl rfl rfl rfl ?_
              refine TA.two 6 11 (by kernel_rfl) ?_ ?_
              · refine TX.y (listed' := #[true, true, true, true, true, true, true, true, true, true, true, false, false, false, true, false, false]) [] rfl (Y.load_el (us := [.int .u32 E22.v]) (u := .int .u32 E22.v) kk47 rfl (Can.own 0 rfl) (idx_get H23).2.2 rfl rfl rfl rfl rfl) rfl rfl rfl rfl rfl ?_
                refine TA.one 11 (by kernel_rfl) ?_
                refine TX.y (listed' := #[true, true, true, true, true, true, true, true, true, true, true, true, false, false, true, false, false]) [] rfl (Y.load_el (us := [.int .u32 E24.v]) (u := .int .u32 E24.v) kk47 rfl (Can.own 0 rfl) (idx_get H25).2.2 rfl rfl rfl rfl rfl) rfl rfl rfl rfl rfl ?_
                refine TA.y (listed' := #[true, true, true, true, true, true, true, true, true, true, true, true, true, false, true, false, false]) 12 [] rfl (Y.xor rfl rfl) rfl rfl rfl (by kernel_rfl) (by kernel_rfl) (by kernel_rfl) rfl rfl ?_
                refine TA.one 13 (by kernel_rfl) ?_
                refine TX.ef (listed' := #[true, true, true, true, true, true, true, true, true, true, true, true, true, true, true, false, false]) [] rfl (Ef.call (rest := [.own (arrS B_w_ 16) (lc (((w_.set a.toNat (Wrd.mk (IntKind.u32.wrap (E1.v + E3.v)))).set d.toNat (Wrd.mk R11)).set c.toNat (Wrd.mk (IntKind.u32.wrap (E16.v + E18.v)))))]) [0] (math_bits_RotateLeft32_con (ixor .u32 E22.v E24.v) (12 : Int)  R26 H27) kc44 rfl rfl trivial) rfl rfl rfl rfl (fun _ => rfl) (fun _ => ?_)
                refine TA.one 15 (by kernel_rfl) ?_
                refine TX.y (listed' := #[true, true, true, true, true, true, true, true, true, true, true, true, true, true, true, true, false]) [] rfl (Y.index_arr (α := Wrd) ka48 (Can.own 0 rfl) H23 rfl rfl) rfl rfl rfl rfl rfl ?_
                refine TA.one 16 (by kernel_rfl) ?_
                refine TX.ef0 (listed' := #[true, true, true, true, true, true, true, true, true, true, true, true, true, true, true, true, true]) [] rfl (Ef.store_el (us := [.int .u32 R26]) (is' := [.own (arrS B_w_ 16) (lc ((((w_.set a.toNat (Wrd.mk (IntKind.u32.wrap (E1.v + E3.v)))).set d.toNat (Wrd.mk R11)).set c.toNat (Wrd.mk (IntKind.u32.wrap (E16.v + E18.v)))).set b.toNat (Wrd.mk R26)))]) (Wrd.mk R26) 0 kk47 rfl rfl (idx_get H23).2.2 rfl rfl (Cel.plain rfl rfl) rfl rfl rfl rfl) rfl rfl rfl (fun _ => rfl) (fun _ => ?_)
                refine TA.nil (by kernel_rfl) ?_
                exact TE.jb_go () [0] ⟨rfl, rfl, rfl, rfl, rfl, trivial⟩ rfl
              · refine TX.y (listed' := #[true, true, true, true, true, true, false, true, true, true, true, true, false, false, true, false, false]) [] rfl (Y.load_el (us := [.int .u32 E24.v]) (u := .int .u32 E24.v) kk47 rfl (Can.own 0 rfl) (idx_get H25).2.2 rfl rfl rfl rfl rfl) rfl rfl rfl rfl rfl ?_
                refine TA.one 6 (by kernel_rfl) ?_
                refine TX.y (listed' := #[true, true, true, true, true, true, true, true, true, true, true, true, false, false, true, false, false]) [] rfl (Y.load_el (us := [.int .u32 E22.v]) (u := .int .u32 E22.v) kk47 rfl (Can.own 0 rfl) (idx_get H23).2.2 rfl rfl rfl rfl rfl) rfl rfl rfl rfl rfl ?_
                refine TA.y (listed' := #[true, true, true, true, true, true, true, true, true, true, true, true, true, false, true, false, false]) 12 [] rfl (Y.xor rfl rfl) rfl rfl rfl (by kernel_rfl) (by kernel_rfl) (by kernel_rfl) rfl rfl ?_
                refine TA.one 13 (by kernel_rfl) ?_
                refine TX.ef (listed' := #[true, true, true, true, true, true, true, true, true, true, true, true, true, true, true, false, false]) [] rfl (Ef.call (rest := [.own (arrS B_w_ 16) (lc (((w_.set a.toNat (Wrd.mk (IntKind.u32.wrap (E1.v + E3.v)))).set d.toNat (Wrd.mk R11)).set c.toNat (Wrd.mk (IntKind.u32.wrap (E16.v + E18.v)))))]) [0] (math_bits_RotateLeft32_con (ixor .u32 E22.v E24.v) (12 : Int)  R26 H27) kc44 rfl rfl trivial) rfl rfl rfl rfl (fun _ => rfl) (fun _ => ?_)
                refine TA.one 15 (by kernel_rfl) ?_
                refine TX.y (listed' := #[true, true, true, true, true, true, true, true, true, true, true, true, true, true, true, true, false]) [] rfl (Y.index_arr (α := Wrd) ka48 (Can.own 0 rfl) H23 rfl rfl) rfl rfl rfl rfl rfl ?_
                refine TA.one 16 (by kernel_rfl) ?_
                refine TX.ef0 (listed' := #[true, true, true, true, true, true, true, true, true, true, true, true, true, true, true, true, true]) [] rfl (Ef.store_el (us := [.int .u32 R26]) (is' := [.own (arrS B_w_ 16) (lc ((((w_.set a.toNat (Wrd.mk (IntKind.u32.wrap (E1.v + E3.v)))).set d.toNat (Wrd.mk R11)).set c.toNat (Wrd.mk (IntKind.u32.wrap (E16.v + E18.v)))).set b.toNat (Wrd.mk R26)))]) (Wrd.mk R26) 0 kk47 rfl rfl (idx_get H23).2.2 rfl rfl (Cel.plain rfl rfl) rfl rfl rfl rfl) rfl rfl rfl (fun _ => rfl) (fun _ => ?_)
                refine TA.nil (by kernel_rfl) ?_
                exact TE.jb_go () [0] ⟨rfl, rfl, rfl, rfl, rfl, trivial⟩ rfl
          · refine TX.y (listed' := #[true, true, true, true, true, false, false, true, true, true, true, false, false, false, true, false, false]) [] rfl (Y.index_arr (α := Wrd) ka48 (Can.own 0 rfl) H25 rfl rfl) rfl rfl rfl rfl rfl ?_
            refine TA.two 5 11 (by kernel_rfl) ?_ ?_
            · refine TX.y (listed' := #[true, true, true, true, true, true, false, true, true, true, true, false, false, false, true, false, false]) [] rfl (Y.index_arr (α := Wrd) ka48 (Can.own 0 rfl) H23 rfl rfl) rfl rfl rfl rfl rfl ?_
              refine TA.two 6 11 (by kernel_rfl) ?_ ?_
              · refine TX.y (listed' := #[true, true, true, true, true, true, true, true, true, true, true, false, false, false, true, false, false]) [] rfl (Y.load_el (us := [.int .u32 E22.v]) (u := .int .u32 E22.v) kk47 rfl (Can.own 0 rfl) (idx_get H23).2.2 rfl rfl rfl rfl rfl) rfl rfl rfl rfl rfl ?_
                refine TA.one 11 (by kernel_rfl) ?_
                refine TX.y (listed' := #[true, true, true, true, true, true, true, true, true, true, true, true, false, false, true, false, false]) [] rfl (Y.load_el (us := [.int .u32 E24.v]) (u := .int .u32 E24.v) kk47 rfl (Can.own 0 rfl) (idx_get H25).2.2 rfl rfl rfl rfl rfl) rfl rfl rfl rfl rfl ?_
                refine TA.y (listed' := #[true, true, true, true, true, true, true, true, true, true, true, true, true, false, true, false, false]) 12 [] rfl (Y.xor rfl rfl) rfl rfl rfl (by kernel_rfl) (by kernel_rfl) (by kernel_rfl) rfl rfl ?_
                refine TA.one 13 (by kernel_rfl) ?_
                refine TX.ef (listed' := #[true, true, true, true, true, true, true, true, true, true, true, true, true, true, true, false, false]) [] rfl (Ef.call (rest := [.own (arrS B_w_ 16) (lc (((w_.set a.toNat (Wrd.mk (IntKind.u32.wrap (E1.v + E3.v)))).set d.toNat (Wrd.mk R11)).set c.toNat (Wrd.mk (IntKind.u32.wrap (E16.v + E18.v)))))]) [0] (math_bits_RotateLeft32_con (ixor .u32 E22.v E24.v) (12 : Int)  R26 H27) kc44 rfl rfl trivial) rfl rfl rfl rfl (fun _ => rfl) (fun _ => ?_)
                refine TA.one 15 (by kernel_rfl) ?_
                refine TX.y (listed' := #[true, true, true, true, true, true, true, true, true, true, true, true, true, true, true, true, false]) [] rfl (Y.index_arr (α := Wrd) ka48 (Can.own 0 rfl) H23 rfl rfl) rfl rfl rfl rfl rfl ?_
                refine TA.one 16 (by kernel_rfl) ?_
                refine TX.ef0 (listed' := #[true, true, true, true, true, true, true, true, true, true, true, true, true, true, true, true, true]) [] rfl (Ef.store_el (us := [.int .u32 R26]) (is' := [.own (arrS B_w_ 16) (lc ((((w_.set a.toNat (Wrd.mk (IntKind.u32.wrap (E1.v + E3.v)))).set d.toNat (Wrd.mk R11)).set c.toNat (Wrd.mk (IntKind.u32.wrap (E16.v + E18.v)))).set b.toNat (Wrd.mk R26)))]) (Wrd.mk R26) 0 kk47 rfl rfl (idx_get H23).2.2 rfl rfl (Cel.plain rfl rfl) rfl rfl rfl rfl) rfl rfl rfl (fun _ => rfl) (fun _ => ?_)
                refine TA.nil (by kernel_rfl) ?_
                exact TE.jb_go () [0] ⟨rfl, rfl, rfl, rfl, rfl, trivial⟩ rfl
              · refine TX.y (listed' := #[true, true, true, true, true, true, false, true, true, true, true, true, false, false, true, false, false]) [] rfl (Y.load_el (us := [.int .u32 E24.v]) (u := .int .u32 E24.v) kk47 rfl (Can.own 0 rfl) (idx_get H25).2.2 rfl rfl rfl rfl rfl) rfl rfl rfl rfl rfl ?_
                refine TA.one 6 (by kernel_rfl) ?_
                refine TX.y (listed' := #[true, true, true, true, true, true, true, true, true, true, true, true, false, false, true, false, false]) [] rfl (Y.load_el (us := [.int .u32 E22.v]) (u := .int .u32 E22.v) kk47 rfl (Can.own 0 rfl) (idx_get H23).2.2 rfl rfl rfl rfl rfl) rfl rfl rfl rfl rfl ?_
                refine TA.y (listed' := #[true, true, true, true, true, true, true, true, true, true, true, true, true, false, true, false, false]) 12 [] rfl (Y.xor rfl rfl) rfl rfl rfl (by kernel_rfl) (by kernel_rfl) (by kernel_rfl) rfl rfl ?_
                refine TA.one 13 (by kernel_rfl) ?_
                refine TX.ef (listed' := #[true, true, true, true, true, true, true, true, true, true, true, true, true, true, true, false, false]) [] rfl (Ef.call (rest := [.own (arrS B_w_ 16) (lc (((w_.set a.toNat (Wrd.mk (IntKind.u32.wrap (E1.v + E3.v)))).set d.toNat (Wrd.mk R11)).set c.toNat (Wrd.mk (IntKind.u32.wrap (E16.v + E18.v)))))]) [0] (math_bits_RotateLeft32_con (ixor .u32 E22.v E24.v) (12 : Int)  R26 H27) kc44 rfl rfl trivial) rfl rfl rfl rfl (fun _ => rfl) (fun _ => ?_)
                refine TA.one 15 (by kernel_rfl) ?_
                refine TX.y (listed' := #[true, true, true, true, true, true, true, true, true, true, true, true, true, true, true, true, false]) [] rfl (Y.index_arr (α := Wrd) ka48 (Can.own 0 rfl) H23 rfl rfl) rfl rfl rfl rfl rfl ?_
                refine TA.one 16 (by kernel_rfl) ?_
                refine TX.ef0 (listed' := #[true, true, true, true, true, true, true, true, true, true, true, true, true, true, true, true, true]) [] rfl (Ef.store_el (us := [.int .u32 R26]) (is' := [.own (arrS B_w_ 16) (lc ((((w_.set a.toNat (Wrd.mk (IntKind.u32.wrap (E1.v + E3.v)))).set d.toNat (Wrd.mk R11)).set c.toNat (Wrd.mk (IntKind.u32.wrap (E16.v + E18.v)))).set b.toNat (Wrd.mk R26)))]) (Wrd.mk R26) 0 kk47 rfl rfl (idx_get H23).2.2 rfl rfl (Cel.plain rfl rfl) rfl rfl rfl rfl) rfl rfl rfl (fun _ => rfl) (fun _ => ?_)
                refine TA.nil (by kernel_rfl) ?_
                exact TE.jb_go () [0] ⟨rfl, rfl, rfl, rfl, rfl, trivial⟩ rfl
            · refine TX.y (listed' := #[true, true, true, true, true, false, false, true, true, true, true, true, false, false, true, false, false]) [] rfl (Y.load_el (us := [.int .u32 E24.v]) (u := .int .u32 E24.v) kk47 rfl (Can.own 0 rfl) (idx_get H25).2.2 rfl rfl rfl rfl rfl) rfl rfl rfl rfl rfl ?_
              refine TA.one 5 (by kernel_rfl) ?_
              refine TX.y (listed' := #[true, true, true, true, true, true, false, true, true, true, true, true, false, false, true, false, false]) [] rfl (Y.index_arr (α := Wrd) ka48 (Can.own 0 rfl) H23 rfl rfl) rfl rfl rfl rfl rfl ?_
              refine TA.one 6 (by kernel_rfl) ?_
              refine TX.y (listed' := #[true, true, true, true, true, true, true, true, true, true, true, true, false, false, true, false, false]) [] rfl (Y.load_el (us := [.int .u32 E22.v]) (u := .int .u32 E22.v) kk47 rfl (Can.own 0 rfl) (idx_get H23).2.2 rfl rfl rfl rfl rfl) rfl rfl rfl rfl rfl ?_
              refine TA.y (listed' := #[true, true, true, true, true, true, true, true, true, true, true, true, true, false, true, false, false]) 12 [] rfl (Y.xor rfl rfl) rfl rfl rfl (by kernel_rfl) (by kernel_rfl) (by kernel_rfl) rfl rfl ?_
              refine TA.one 13 (by kernel_rfl) ?_
              refine TX.ef (listed' := #[true, true, true, true, true, true, true, true, true, true, true, true, true, true, true, false, false]) [] rfl (Ef.call (rest := [.own (arrS B_w_ 16) (lc (((w_.set a.toNat (Wrd.mk (IntKind.u32.wrap (E1.v + E3.v)))).set d.toNat (Wrd.mk R11)).set c.toNat (Wrd.mk (IntKind.u32.wrap (E16.v + E18.v)))))]) [0] (math_bits_RotateLeft32_con (ixor .u32 E22.v E24.v) (12 : Int)  R26 H27) kc44 rfl rfl trivial) rfl rfl rfl rfl (fun _ => rfl) (fun _ => ?_)
              refine TA.one 15 (by kernel_rfl) ?_
              refine TX.y (listed' := #[true, true, true, true, true, true, true, true, true, true, true, true, true, true, true, true, false]) [] rfl (Y.index_arr (α := Wrd) ka48 (Can.own 0 rfl) H23 rfl rfl) rfl rfl rfl rfl rfl ?_
              refine TA.one 16 (by kernel_rfl) ?_
              refine TX.ef0 (listed' := #[true, true, true, true, true, true, true, true, true, true, true, true, true, true, true, true, true]) [] rfl (Ef.store_el (us := [.int .u32 R26]) (is' := [.own (arrS B_w_ 16) (lc ((((w_.set a.toNat (Wrd.mk (IntKind.u32.wrap (E1.v + E3.v)))).set d.toNat (Wrd.mk R11)).set c.toNat (Wrd.mk (IntKind.u32.wrap (E16.v + E18.v)))).set b.toNat (Wrd.mk R26)))]) (Wrd.mk R26) 0 kk47 rfl rfl (idx_get H23).2.2 rfl rfl (Cel.plain rfl rfl) rfl rfl rfl rfl) rfl rfl rfl (fun _ => rfl) (fun _ => ?_)
              refine TA.nil (by kernel_rfl) ?_
              exact TE.jb_go () [0] ⟨rfl, rfl, rfl, rfl, rfl, trivial⟩ rfl
        · refine TE.next ?_
          refine TW.seq ?_
          refine TW.bind fun E31 H32 => ?_
          refine TW.bind fun E33 H34 => ?_
          refine TW.joinU (X := Unit) (fun _ _ => [(0, .pointer (some ⟨B_w_, 0, none⟩)), (1, .int .i64 a), (2, .int .i64 b), (3, .int .i64 c), (4, .int .i64 d)]) (fun _ _ => [.own (arrS B_w_ 16) (lc (((((w_.set a.toNat (Wrd.mk (IntKind.u32.wrap (E1.v + E3.v)))).set d.toNat (Wrd.mk R11)).set c.toNat (Wrd.mk (IntKind.u32.wrap (E16.v + E18.v)))).set b.toNat (Wrd.mk R26)).set a.toNat (Wrd.mk (IntKind.u32.wrap (E31.v + E33.v)))))]) ?_ (fun _ X36 => ?_)
          · refine TW.draw (isH := []) hMix ?_
            refine TA.y (listed' := #[true, false, false, false, false, false, false, false, false, false, false, false, false, false]) 0 [] rfl (Y.move rfl) rfl rfl rfl (by kernel_rfl) (by kernel_rfl) (by kernel_rfl) rfl rfl ?_
            refine TA.y (listed' := #[true, true, false, false, false, false, false, false, false, false, false, false, false, false]) 1 [] rfl (Y.move rfl) rfl rfl rfl (by kernel_rfl) (by kernel_rfl) (by kernel_rfl) rfl rfl ?_
            refine TA.y (listed' := #[true, true, true, false, false, false, false, false, false, false, false, false, false, false]) 2 [] rfl (Y.nilCheck rfl) rfl rfl rfl (by kernel_rfl) (by kernel_rfl) (by kernel_rfl) rfl rfl ?_
            refine TA.y (listed' := #[true, true, true, false, false, true, false, false, false, false, false, false, false, false]) 5 [] rfl (Y.move rfl) rfl rfl rfl (by kernel_rfl) (by kernel_rfl) (by kernel_rfl) rfl rfl ?_
            refine TA.y (listed' := #[true, true, true, false, false, true, true, false, false, false, false, false, false, false]) 6 [] rfl (Y.move rfl) rfl rfl rfl (by kernel_rfl) (by kernel_rfl) (by kernel_rfl) rfl rfl ?_
            refine TA.y (listed' := #[true, true, true, false, false, true, true, true, false, false, false, false, false, false]) 7 [] rfl (Y.nilCheck rfl) rfl rfl rfl (by kernel_rfl) (by kernel_rfl) (by kernel_rfl) rfl rfl ?_
            refine TA.y (listed' := #[true, true, true, false, false, true, true, true, false, false, false, true, false, false]) 11 [] rfl (Y.nilCheck rfl) rfl rfl rfl (by kernel_rfl) (by kernel_rfl) (by kernel_rfl) rfl rfl ?_
            refine TA.two 3 8 (by kernel_rfl) ?_ ?_
            · refine TX.y (listed' := #[true, true, true, true, false, true, true, true, false, false, false, true, false, false]) [] rfl (Y.index_arr (α := Wrd) ka48 (Can.own 0 rfl) H32 rfl rfl) rfl rfl rfl rfl rfl ?_
              refine TA.two 4 8 (by kernel_rfl) ?_ ?_
              · refine TX.y (listed' := #[true, true, true, true, true, true, true, true, false, false, false, true, false, false]) [] rfl (Y.load_el (us := [.int .u32 E31.v]) (u := .int .u32 E31.v) kk47 rfl (Can.own 0 rfl) (idx_get H32).2.2 rfl rfl rfl rfl rfl) rfl rfl rfl rfl rfl ?_
                refine TA.one 8 (by kernel_rfl) ?_
                refine TX.y (listed' := #[true, true, true, true, true, true, true, true, true, false, false, true, false, false]) [] rfl (Y.index_arr (α := Wrd) ka48 (Can.own 0 rfl) H34 rfl rfl) rfl rfl rfl rfl rfl ?_
                refine TA.one 9 (by kernel_rfl) ?_
                refine TX.y (listed' := #[true, true, true, true, true, true, true, true, true, true, false, true, false, false]) [] rfl (Y.load_el (us := [.int .u32 E33.v]) (u := .int .u32 E33.v) kk47 rfl (Can.own 0 rfl) (idx_get H34).2.2 rfl rfl rfl rfl rfl) rfl rfl rfl rfl rfl ?_
                refine TA.y (listed' := #[true, true, true, true, true, true, true, true, true, true, true, true, false, false]) 10 [] rfl (Y.add rfl rfl) rfl rfl rfl (by kernel_rfl) (by kernel_rfl) (by kernel_rfl) rfl rfl ?_
                refine TA.one 12 (by kernel_rfl) ?_
                refine TX.y (listed' := #[true, true, true, true, true, true, true, true, true, true, true, true, true, false]) [] rfl (Y.index_arr (α := Wrd) ka48 (Can.own 0 rfl) H32 rfl rfl) rfl rfl rfl rfl rfl ?_
                refine TA.one 13 (by kernel_rfl) ?_
                refine TX.ef0 (listed' := #[true, true, true, true, true, true, true, true, true, true, true, true, true, true]) [] rfl (Ef.store_el (us := [.int .u32 (IntKind.u32.wrap (E31.v + E33.v))]) (is' := [.own (arrS B_w_ 16) (lc (((((w_.set a.toNat (Wrd.mk (IntKind.u32.wrap (E1.v + E3.v)))).set d.toNat (Wrd.mk R11)).set c.toNat (Wrd.mk (IntKind.u32.wrap (E16.v + E18.v)))).set b.toNat (Wrd.mk R26)).set a.toNat (Wrd.mk (IntKind.u32.wrap (E31.v + E33.v)))))]) (Wrd.mk (IntKind.u32.wrap (E31.v + E33.v))) 0 kk47 rfl rfl (idx_get H32).2.2 rfl rfl (Cel.plain rfl rfl) rfl rfl rfl rfl) rfl rfl rfl (fun _ => rfl) (fun _ => ?_)
                refine TA.nil (by kernel_rfl) ?_
                exact TE.jb_go () [0] ⟨rfl, rfl, rfl, rfl, rfl, trivial⟩ rfl
              · refine TX.y (listed' := #[true, true, true, true, false, true, true, true, true, false, false, true, false, false]) [] rfl (Y.index_arr (α := Wrd) ka48 (Can.own 0 rfl) H34 rfl rfl) rfl rfl rfl rfl rfl ?_
                refine TA.two 4 9 (by kernel_rfl) ?_ ?_
                · refine TX.y (listed' := #[true, true, true, true, true, true, true, true, true, false, false, true, false, false]) [] rfl (Y.load_el (us := [.int .u32 E31.v]) (u := .int .u32 E31.v) kk47 rfl (Can.own 0 rfl) (idx_get H32).2.2 rfl rfl rfl rfl rfl) rfl rfl rfl rfl rfl ?_
                  refine TA.one 9 (by kernel_rfl) ?_
                  refine TX.y (listed' := #[true, true, true, true, true, true, true, true, true, true, false, true, false, false]) [] rfl (Y.load_el (us := [.int .u32 E33.v]) (u := .int .u32 E33.v) kk47 rfl (Can.own 0 rfl) (idx_get H34).2.2 rfl rfl rfl rfl rfl) rfl rfl rfl rfl rfl ?_
                  refine TA.y (listed' := #[true, true, true, true, true, true, true, true, true, true, true, true, false, false]) 10 [] rfl (Y.add rfl rfl) rfl rfl rfl (by kernel_rfl) (by kernel_rfl) (by kernel_rfl) rfl rfl ?_
                  refine TA.one 12 (by kernel_rfl) ?_
                  refine TX.y (listed' := #[true, true, true, true, true, true, true, true, true, true, true, true, true, false]) [] rfl (Y.index_arr (α := Wrd) ka48 (Can.own 0 rfl) H32 rfl rfl) rfl rfl rfl rfl rfl ?_
                  refine TA.one 13 (by kernel_rfl) ?_
                  refine TX.ef0 (listed' := #[true, true, true, true, true, true, true, true, true, true, true, true, true, true]) [] rfl (Ef.store_el (us := [.int .u32 (IntKind.u32.wrap (E31.v + E33.v))]) (is' := [.own (arrS B_w_ 16) (lc (((((w_.set a.toNat (Wrd.mk (IntKind.u32.wrap (E1.v + E3.v)))).set d.toNat (Wrd.mk R11)).set c.toNat (Wrd.mk (IntKind.u32.wrap (E16.v + E18.v)))).set b.toNat (Wrd.mk R26)).set a.toNat (Wrd.mk (IntKind.u32.wrap (E31.v + E33.v)))))]) (Wrd.mk (IntKind.u32.wrap (E31.v + E33.v))) 0 kk47 rfl rfl (idx_get H32).2.2 rfl rfl (Cel.plain rfl rfl) rfl rfl rfl rfl) rfl rfl rfl (fun _ => rfl) (fun _ => ?_)
                  refine TA.nil (by kernel_rfl) ?_
                  exact TE.jb_go () [0] ⟨rfl, rfl, rfl, rfl, rfl, trivial⟩ rfl
                · refine TX.y (listed' := #[true, true, true, true, false, true, true, true, true, true, false, true, false, false]) [] rfl (Y.load_el (us := [.int .u32 E33.v]) (u := .int .u32 E33.v) kk47 rfl (Can.own 0 rfl) (idx_get H34).2.2 rfl rfl rfl rfl rfl) rfl rfl rfl rfl rfl ?_
                  refine TA.one 4 (by kernel_rfl) ?_
                  refine TX.y (listed' := #[true, true, true, true, true, true, true, true, true, true, false, true, false, false]) [] rfl (Y.load_el (us := [.int .u32 E31.v]) (u := .int .u32 E31.v) kk47 rfl (Can.own 0 rfl) (idx_get H32).2.2 rfl rfl rfl rfl rfl) rfl rfl rfl rfl rfl ?_
                  refine TA.y (listed' := #[true, true, true, true, true, true, true, true, true, true, true, true, false, false]) 10 [] rfl (Y.add rfl rfl) rfl rfl rfl (by kernel_rfl) (by kernel_rfl) (by kernel_rfl) rfl rfl ?_
                  refine TA.one 12 (by kernel_rfl) ?_
                  refine TX.y (listed' := #[true, true, true, true, true, true, true, true, true, true, true, true, true, false]) [] rfl (Y.index_arr (α := Wrd) ka48 (Can.own 0 rfl) H32 rfl rfl) rfl rfl rfl rfl rfl ?_
                  refine TA.one 13 (by kernel_rfl) ?_
                  refine TX.ef0 (listed' := #[true, true, true, true, true, true, true, true, true, true, true, true, true, true]) [] rfl (Ef.store_el (us := [.int .u32 (IntKind.u32.wrap (E31.v + E33.v))]) (is' := [.own (arrS B_w_ 16) (lc (((((w_.set a.toNat (Wrd.mk (IntKind.u32.wrap (E1.v + E3.v)))).set d.toNat (Wrd.mk R11)).set c.toNat (Wrd.mk (IntKind.u32.wrap (E16.v + E18.v)))).set b.toNat (Wrd.mk R26)).set a.toNat (Wrd.mk (IntKind.u32.wrap (E31.v + E33.v)))))]) (Wrd.mk (IntKind.u32.wrap (E31.v + E33.v))) 0 kk47 rfl rfl (idx_get H32).2.2 rfl rfl (Cel.plain rfl rfl) rfl rfl rfl rfl) rfl rfl rfl (fun _ => rfl) (fun _ => ?_)
                  refine TA.nil (by kernel_rfl) ?_
                  exact TE.jb_go () [0] ⟨rfl, rfl, rfl, rfl, rfl, trivial⟩ rfl
            · refine TX.y (listed' := #[true, true, true, false, false, true, true, true, true, false, false, true, false, false]) [] rfl (Y.index_arr (α := Wrd) ka48 (Can.own 0 rfl) H34 rfl rfl) rfl rfl rfl rfl rfl ?_
              refine TA.two 3 9 (by kernel_rfl) ?_ ?_
              · refine TX.y (listed' := #[true, true, true, true, false, true, true, true, true, false, false, true, false, false]) [] rfl (Y.index_arr (α := Wrd) ka48 (Can.own 0 rfl) H32 rfl rfl) rfl rfl rfl rfl rfl ?_
                refine TA.two 4 9 (by kernel_rfl) ?_ ?_
                · refine TX.y (listed' := #[true, true, true, true, true, true, true, true, true, false, false, true, false, false]) [] rfl (Y.load_el (us := [.int .u32 E31.v]) (u := .int .u32 E31.v) kk47 rfl (Can.own 0 rfl) (idx_get H32).2.2 rfl rfl rfl rfl rfl) rfl rfl rfl rfl rfl ?_
                  refine TA.one 9 (by kernel_rfl) ?_
                  refine TX.y (listed' := #[true, true, true, true, true, true, true, true, true, true, false, true, false, false]) [] rfl (Y.load_el (us := [.int .u32 E33.v]) (u := .int .u32 E33.v) kk47 rfl (Can.own 0 rfl) (idx_get H34).2.2 rfl rfl rfl rfl rfl) rfl rfl rfl rfl rfl ?_
                  refine TA.y (listed' := #[true, true, true, true, true, true, true, true, true, true, true, true, false, false]) 10 [] rfl (Y.add rfl rfl) rfl rfl rfl (by kernel_rfl) (by kernel_rfl) (by kernel_rfl) rfl rfl ?_
                  refine TA.one 12 (by kernel_rfl) ?_
                  refine TX.y (listed' := #[true, true, true, true, true, true, true, true, true, true, true, true, true, false]) [] rfl (Y.index_arr (α := Wrd) ka48 (Can.own 0 rfl) H32 rfl rfl) rfl rfl rfl rfl rfl ?_
                  refine TA.one 13 (by kernel_rfl) ?_
                  refine TX.ef0 (listed' := #[true, true, true, true, true, true, true, true, true, true, true, true, true, true]) [] rfl (Ef.store_el (us := [.int .u32 (IntKind.u32.wrap (E31.v + E33.v))]) (is' := [.own (arrS B_w_ 16) (lc (((((w_.set a.toNat (Wrd.mk (IntKind.u32.wrap (E1.v + E3.v)))).set d.toNat (Wrd.mk R11)).set c.toNat (Wrd.mk (IntKind.u32.wrap (E16.v + E18.v)))).set b.toNat (Wrd.mk R26)).set a.toNat (Wrd.mk (IntKind.u32.wrap (E31.v + E33.v)))))]) (Wrd.mk (IntKind.u32.wrap (E31.v + E33.v))) 0 kk47 rfl rfl (idx_get H32).2.2 rfl rfl (Cel.plain rfl rfl) rfl rfl rfl rfl) rfl rfl rfl (fun _ => rfl) (fun _ => ?_)
                  refine TA.nil (by kernel_rfl) ?_
                  exact TE.jb_go () [0] ⟨rfl, rfl, rfl, rfl, rfl, trivial⟩ rfl
                · refine TX.y (listed' := #[true, true, true, true, false, true, true, true, true, true, false, true, false, false]) [] rfl (Y.load_el (us := [.int .u32 E33.v]) (u := .int .u32 E33.v) kk47 rfl (Can.own 0 rfl) (idx_get H34).2.2 rfl rfl rfl rfl rfl) rfl rfl rfl rfl rfl ?_
                  refine TA.one 4 (by kernel_rfl) ?_
                  refine TX.y (listed' := #[true, true, true, true, true, true, true, true, true, true, false, true, false, false]) [] rfl (Y.load_el (us := [.int .u32 E31.v]) (u := .int .u32 E31.v) kk47 rfl (Can.own 0 rfl) (idx_get H32).2.2 rfl rfl rfl rfl rfl) rfl rfl rfl rfl rfl ?_
                  refine TA.y (listed' := #[true, true, true, true, true, true, true, true, true, true, true, true, false, false]) 10 [] rfl (Y.add rfl rfl) rfl rfl rfl (by kernel_rfl) (by kernel_rfl) (by kernel_rfl) rfl rfl ?_
                  refine TA.one 12 (by kernel_rfl) ?_
                  refine TX.y (listed' := #[true, true, true, true, true, true, true, true, true, true, true, true, true, false]) [] rfl (Y.index_arr (α := Wrd) ka48 (Can.own 0 rfl) H32 rfl rfl) rfl rfl rfl rfl rfl ?_
                  refine TA.one 13 (by kernel_rfl) ?_
                  refine TX.ef0 (listed' := #[true, true, true, true, true, true, true, true, true, true, true, true, true, true]) [] rfl (Ef.store_el (us := [.int .u32 (IntKind.u32.wrap (E31.v + E33.v))]) (is' := [.own (arrS B_w_ 16) (lc (((((w_.set a.toNat (Wrd.mk (IntKind.u32.wrap (E1.v + E3.v)))).set d.toNat (Wrd.mk R11)).set c.toNat (Wrd.mk (IntKind.u32.wrap (E16.v + E18.v)))).set b.toNat (Wrd.mk R26)).set a.toNat (Wrd.mk (IntKind.u32.wrap (E31.v + E33.v)))))]) (Wrd.mk (IntKind.u32.wrap (E31.v + E33.v))) 0 kk47 rfl rfl (idx_get H32).2.2 rfl rfl (Cel.plain rfl rfl) rfl rfl rfl rfl) rfl rfl rfl (fun _ => rfl) (fun _ => ?_)
                  refine TA.nil (by kernel_rfl) ?_
                  exact TE.jb_go () [0] ⟨rfl, rfl, rfl, rfl, rfl, trivial⟩ rfl
              · refine TX.y (listed' := #[true, true, true, false, false, true, true, true, true, true, false, true, false, false]) [] rfl (Y.load_el (us := [.int .u32 E33.v]) (u := .int .u32 E33.v) kk47 rfl (Can.own 0 rfl) (idx_get H34).2.2 rfl rfl rfl rfl rfl) rfl rfl rfl rfl rfl ?_
                refine TA.one 3 (by kernel_rfl) ?_
                refine TX.y (listed' := #[true, true, true, true, false, true, true, true, true, true, false, true, false, false]) [] rfl (Y.index_arr (α := Wrd) ka48 (Can.own 0 rfl) H32 rfl rfl) rfl rfl rfl rfl rfl ?_
                refine TA.one 4 (by kernel_rfl) ?_
                refine TX.y (listed' := #[true, true, true, true, true, true, true, true, true, true, false, true, false, false]) [] rfl (Y.load_el (us := [.int .u32 E31.v]) (u := .int .u32 E31.v) kk47 rfl (Can.own 0 rfl) (idx_get H32).2.2 rfl rfl rfl rfl rfl) rfl rfl rfl rfl rfl ?_
                refine TA.y (listed' := #[true, true, true, true, true, true, true, true, true, true, true, true, false, false]) 10 [] rfl (Y.add rfl rfl) rfl rfl rfl (by kernel_rfl) (by kernel_rfl) (by kernel_rfl) rfl rfl ?_
                refine TA.one 12 (by kernel_rfl) ?_
                refine TX.y (listed' := #[true, true, true, true, true, true, true, true, true, true, true, true, true, false]) [] rfl (Y.index_arr (α := Wrd) ka48 (Can.own 0 rfl) H32 rfl rfl) rfl rfl rfl rfl rfl ?_
                refine TA.one 13 (by kernel_rfl) ?_
                refine TX.ef0 (listed' := #[true, true, true, true, true, true, true, true, true, true, true, true, true, true]) [] rfl (Ef.store_el (us := [.int .u32 (IntKind.u32.wrap (E31.v + E33.v))]) (is' := [.own (arrS B_w_ 16) (lc (((((w_.set a.toNat (Wrd.mk (IntKind.u32.wrap (E1.v + E3.v)))).set d.toNat (Wrd.mk R11)).set c.toNat (Wrd.mk (IntKind.u32.wrap (E16.v + E18.v)))).set b.toNat (Wrd.mk R26)).set a.toNat (Wrd.mk (IntKind.u32.wrap (E31.v + E33.v)))))]) (Wrd.mk (IntKind.u32.wrap (E31.v + E33.v))) 0 kk47 rfl rfl (idx_get H32).2.2 rfl rfl (Cel.plain rfl rfl) rfl rfl rfl rfl) rfl rfl rfl (fun _ => rfl) (fun _ => ?_)
                refine TA.nil (by kernel_rfl) ?_
                exact TE.jb_go () [0] ⟨rfl, rfl, rfl, rfl, rfl, trivial⟩ rfl
          · refine TE.next ?_
            refine TW.seq ?_
            refine TW.bind fun E37 H38 => ?_
            refine TW.bind fun E39 H40 => ?_
            refine TW.bind fun R41 H42 => ?_
            refine TW.joinU (X := Unit) (fun _ _ => [(0, .pointer (some ⟨B_w_, 0, none⟩)), (2, .int .i64 b), (3, .int .i64 c), (4, .int .i64 d)]) (fun _ _ => [.own (arrS B_w_ 16) (lc ((((((w_.set a.toNat (Wrd.mk (IntKind.u32.wrap (E1.v + E3.v)))).set d.toNat (Wrd.mk R11)).set c.toNat (Wrd.mk (IntKind.u32.wrap (E16.v + E18.v)))).set b.toNat (Wrd.mk R26)).set a.toNat (Wrd.mk (IntKind.u32.wrap (E31.v + E33.v)))).set d.toNat (Wrd.mk R41)))]) ?_ (fun _ X45 => ?_)
            · refine TW.draw (isH := []) hMix ?_
              refine TA.y (listed' := #[true, false, false, false, false, false, false, false, false, false, false, false, false, false, false, false, false]) 0 [] rfl (Y.move rfl) rfl rfl rfl (by kernel_rfl) (by kernel_rfl) (by kernel_rfl) rfl rfl ?_
              refine TA.y (listed' := #[true, true, false, false, false, false, false, false, false, false, false, false, false, false, false, false, false]) 1 [] rfl (Y.move rfl) rfl rfl rfl (by kernel_rfl) (by kernel_rfl) (by kernel_rfl) rfl rfl ?_
              refine TA.y (listed' := #[true, true, true, false, false, false, false, false, false, false, false, false, false, false, false, false, false]) 2 [] rfl (Y.move rfl) rfl rfl rfl (by kernel_rfl) (by kernel_rfl) (by kernel_rfl) rfl rfl ?_
              refine TA.y (listed' := #[true, true, true, true, false, false, false, false, false, false, false, false, false, false, false, false, false]) 3 [] rfl (Y.move rfl) rfl rfl rfl (by kernel_rfl) (by kernel_rfl) (by kernel_rfl) rfl rfl ?_
              refine TA.y (listed' := #[true, true, true, true, true, false, false, false, false, false, false, false, false, false, false, false, false]) 4 [] rfl (Y.nilCheck rfl) rfl rfl rfl (by kernel_rfl) (by kernel_rfl) (by kernel_rfl) rfl rfl ?_
              refine TA.y (listed' := #[true, true, true, true, true, false, false, true, false, false, false, false, false, false, false, false, false]) 7 [] rfl (Y.move rfl) rfl rfl rfl (by kernel_rfl) (by kernel_rfl) (by kernel_rfl) rfl rfl ?_
              refine TA.y (listed' := #[true, true, true, true, true, false, false, true, true, false, false, false, false, false, false, false, false]) 8 [] rfl (Y.move rfl) rfl rfl rfl (by kernel_rfl) (by kernel_rfl) (by kernel_rfl) rfl rfl ?_
              refine TA.y (listed' := #[true, true, true, true, true, false, false, true, true, true, false, false, false, false, false, false, false]) 9 [] rfl (Y.nilCheck rfl) rfl rfl rfl (by kernel_rfl) (by kernel_rfl) (by kernel_rfl) rfl rfl ?_
              refine TA.y (listed' := #[true, true, true, true, true, false, false, true, true, true, false, false, false, false, true, false, false]) 14 [] rfl (Y.nilCheck rfl) rfl rfl rfl (by kernel_rfl) (by kernel_rfl) (by kernel_rfl) rfl rfl ?_
              refine TA.two 5 10 (by kernel_rfl) ?_ ?_
              · refine TX.y (listed' := #[true, true, true, true, true, true, false, true, true, true, false, false, false, false, true, false, false]) [] rfl (Y.index_arr (α := Wrd) ka48 (Can.own 0 rfl) H38 rfl rfl) rfl rfl rfl rfl rfl ?_
                refine TA.two 6 10 (by kernel_rfl) ?_ ?_
                · refine TX.y (listed' := #[true, true, true, true, true, true, true, true, true, true, false, false, false, false, true, false, false]) [] rfl (Y.load_el (us := [.int .u32 E37.v]) (u := .int .u32 E37.v) kk47 rfl (Can.own 0 rfl) (idx_get H38).2.2 rfl rfl rfl rfl rfl) rfl rfl rfl rfl rfl ?_
                  refine TA.one 10 (by kernel_rfl) ?_
                  refine TX.y (listed' := #[true, true, true, true, true, true, true, true, true, true, true, false, false, false, true, false, false]) [] rfl (Y.index_arr (α := Wrd) ka48 (Can.own 0 rfl) H40 rfl rfl) rfl rfl rfl rfl rfl ?_
                  refine TA.one 11 (by kernel_rfl) ?_
                  refine TX.y (listed' := #[true, true, true, true, true, true, true, true, true, true, true, true, false, false, true, false, false]) [] rfl (Y.load_el (us := [.int .u32 E39.v]) (u := .int .u32 E39.v) kk47 rfl (Can.own 0 rfl) (idx_get H40).2.2 rfl rfl rfl rfl rfl) rfl rfl rfl rfl rfl ?_
                  refine TA.y (listed' := #[true, true, true, true, true, true, true, true, true, true, true, true, true, false, true, false, false]) 12 [] rfl (Y.xor rfl rfl) rfl rfl rfl (by kernel_rfl) (by kernel_rfl) (by kernel_rfl) rfl rfl ?_
                  refine TA.one 13 (by kernel_rfl) ?_
                  refine TX.ef (listed' := #[true, true, true, true, true, true, true, true, true, true, true, true, true, true, true, false, false]) [] rfl (Ef.call (rest := [.own (arrS B_w_ 16) (lc (((((w_.set a.toNat (Wrd.mk (IntKind.u32.wrap (E1.v + E3.v)))).set d.toNat (Wrd.mk R11)).set c.toNat (Wrd.mk (IntKind.u32.wrap (E16.v + E18.v)))).set b.toNat (Wrd.mk R26)).set a.toNat (Wrd.mk (IntKind.u32.wrap (E31.v + E33.v)))))]) [0] (math_bits_RotateLeft32_con (ixor .u32 E37.v E39.v) (8 : Int)  R41 H42) kc44 rfl rfl trivial) rfl rfl rfl rfl (fun _ => rfl) (fun _ => ?_)
                  refine TA.one 15 (by kernel_rfl) ?_
                  refine TX.y (listed' := #[true, true, true, true, true, true, true, true, true, true, true, true, true, true, true, true, false]) [] rfl (Y.index_arr (α := Wrd) ka48 (Can.own 0 rfl) H38 rfl rfl) rfl rfl rfl rfl rfl ?_
                  refine TA.one 16 (by kernel_rfl) ?_
                  refine TX.ef0 (listed' := #[true, true, true, true, true, true, true, true, true, true, true, true, true, true, true, true, true]) [] rfl (Ef.store_el (us := [.int .u32 R41]) (is' := [.own (arrS B_w_ 16) (lc ((((((w_.set a.toNat (Wrd.mk (IntKind.u32.wrap (E1.v + E3.v)))).set d.toNat (Wrd.mk R11)).set c.toNat (Wrd.mk (IntKind.u32.wrap (E16.v + E18.v)))).set b.toNat (Wrd.mk R26)).set a.toNat (Wrd.mk (IntKind.u32.wrap (E31.v + E33.v)))).set d.toNat (Wrd.mk R41)))]) (Wrd.mk R41) 0 kk47 rfl rfl (idx_get H38).2.2 rfl rfl (Cel.plain rfl rfl) rfl rfl rfl rfl) rfl rfl rfl (fun _ => rfl) (fun _ => ?_)
                  refine TA.nil (by kernel_rfl) ?_
                  exact TE.jb_go () [0] ⟨rfl, rfl, rfl, rfl, trivial⟩ rfl
                · refine TX.y (listed' := #[true, true, true, true, true, true, false, true, true, true, true, false, false, false, true, false, false]) [] rfl (Y.index_arr (α := Wrd) ka48 (Can.own 0 rfl) H40 rfl rfl) rfl rfl rfl rfl rfl ?_
                  refine TA.two 6 11 (by kernel_rfl) ?_ ?_
                  · refine TX.y (listed' := #[true, true, true, true, true, true, true, true, true, true, true, false, false, false, true, false, false]) [] rfl (Y.load_el (us := [.int .u32 E37.v]) (u := .int .u32 E37.v) kk47 rfl (Can.own 0 rfl) (idx_get H38).2.2 rfl rfl rfl rfl rfl) rfl rfl rfl rfl rfl ?_
                    refine TA.one 11 (by kernel_rfl) ?_
                    refine TX.y (listed' := #[true, true, true, true, true, true, true, true, true, true, true, true, false, false, true, false, false]) [] rfl (Y.load_el (us := [.int .u32 E39.v]) (u := .int .u32 E39.v) kk47 rfl (Can.own 0 rfl) (idx_get H40).2.2 rfl rfl rfl rfl rfl) rfl rfl rfl rfl rfl ?_
                    refine TA.y (listed' := #[true, true, true, true, true, true, true, true, true, true, true, true, true, false, true, false, false]) 12 [] rfl (Y.xor rfl rfl) rfl rfl rfl (by kernel_rfl) (by kernel_rfl) (by kernel_rfl) rfl rfl ?_
                    refine TA.one 13 (by kernel_rfl) ?_
                    refine TX.ef (listed' := #[true, true, true, true, true, true, true, true, true, true, true, true, true, true, true, false, false]) [] rfl (Ef.call (rest := [.own (arrS B_w_ 16) (lc (((((w_.set a.toNat (Wrd.mk (IntKind.u32.wrap (E1.v + E3.v)))).set d.toNat (Wrd.mk R11)).set c.toNat (Wrd.mk (IntKind.u32.wrap (E16.v + E18.v)))).set b.toNat (Wrd.mk R26)).set a.toNat (Wrd.mk (IntKind.u32.wrap (E31.v + E33.v)))))]) [0] (math_bits_RotateLeft32_con (ixor .u32 E37.v E39.v) (8 : Int)  R41 H42) kc44 rfl rfl trivial) rfl rfl rfl rfl (fun _ => rfl) (fun _ => ?_)
                    refine TA.one 15 (by kernel_rfl) ?_
                    refine TX.y (listed' := #[true, true, true, true, true, true, true, true, true, true, true, true, true, true, true, true, false]) [] rfl (Y.index_arr (α := Wrd) ka48 (Can.own 0 rfl) H38 rfl rfl) rfl rfl rfl rfl rfl ?_
                    refine TA.one 16 (by kernel_rfl) ?_
                    refine TX.ef0 (listed' := #[true, true, true, true, true, true, true, true, true, true, true, true, true, true, true, true, true]) [] rfl (Ef.store_el (us := [.int .u32 R41]) (is' := [.own (arrS B_w_ 16) (lc ((((((w_.set a.toNat (Wrd.mk (IntKind.u32.wrap (E1.v + E3.v)))).set d.toNat (Wrd.mk R11)).set c.toNat (Wrd.mk (IntKind.u32.wrap (E16.v + E18.v)))).set b.toNat (Wrd.mk R26)).set a.toNat (Wrd.mk (IntKind.u32.wrap (E31.v + E33.v)))).set d.toNat (Wrd.mk R41)))]) (Wrd.mk R41) 0 kk47 rfl rfl (idx_get H38).2.2 rfl rfl (Cel.plain rfl rfl) rfl rfl rfl rfl) rfl rfl rfl (fun _ => rfl) (fun _ => ?_)
                    refine TA.nil (by kernel_rfl) ?_
                    exact TE.jb_go () [0] ⟨rfl, rfl, rfl, rfl, trivial⟩ rfl
                  · refine TX.y (listed' := #[true, true, true, true, true, true, false, true, true, true, true, true, false, false, true, false, false]) [] rfl (Y.load_el (us := [.int .u32 E39.v]) (u := .int .u32 E39.v) kk47 rfl (Can.own 0 rfl) (idx_get H40).2.2 rfl rfl rfl rfl rfl) rfl rfl rfl rfl rfl ?_
                    refine TA.one 6 (by kernel_rfl) ?_
                    refine TX.y (listed' := #[true, true, true, true, true, true, true, true, true, true, true, true, false, false, true, false, false]) [] rfl (Y.load_el (us := [.int .u32 E37.v]) (u := .int .u32 E37.v) kk47 rfl (Can.own 0 rfl) (idx_get H38).2.2 rfl rfl rfl rfl rfl) rfl rfl rfl rfl rfl ?_
                    refine TA.y (listed' := #[true, true, true, true, true, true, true, true, true, true, true, true, true, false, true, false, false]) 12 [] rfl (Y.xor rfl rfl) rfl rfl rfl (by kernel_rfl) (by kernel_rfl) (by kernel_rfl) rfl rfl ?_
                    refine TA.one 13 (by kernel_rfl) ?_
                    refine TX.ef (listed' := #[true, true, true, true, true, true, true, true, true, true, true, true, true, true, true, false, false]) [] rfl (Ef.call (rest := [.own (arrS B_w_ 16) (lc (((((w_.set a.toNat (Wrd.mk (IntKind.u32.wrap (E1.v + E3.v)))).set d.toNat (Wrd.mk R11)).set c.toNat (Wrd.mk (IntKind.u32.wrap (E16.v + E18.v)))).set b.toNat (Wrd.mk R26)).set a.toNat (Wrd.mk (IntKind.u32.wrap (E31.v + E33.v)))))]) [0] (math_bits_RotateLeft32_con (ixor .u32 E37.v E39.v) (8 : Int)  R41 H42) kc44 rfl rfl trivial) rfl rfl rfl rfl (fun _ => rfl) (fun _ => ?_)
                    refine TA.one 15 (by kernel_rfl) ?_
                    refine TX.y (listed' := #[true, true, true, true, true, true, true, true, true, true, true, true, true, true, true, true, false]) [] rfl (Y.index_arr (α := Wrd) ka48 (Can.own 0 rfl) H38 rfl rfl) rfl rfl rfl rfl rfl ?_
                    refine TA.one 16 (by kernel_rfl) ?_
                    refine TX.ef0 (listed' := #[true, true, true, true, true, true, true, true, true, true, true, true, true, true, true, true, true]) [] rfl (Ef.store_el (us := [.int .u32 R41]) (is' := [.own (arrS B_w_ 16) (lc ((((((w_.set a.toNat (Wrd.mk (IntKind.u32.wrap (E1.v + E3.v)))).set d.toNat (Wrd.mk R11)).set c.toNat (Wrd.mk (IntKind.u32.wrap (E16.v + E18.v)))).set b.toNat (Wrd.mk R26)).set a.toNat (Wrd.mk (IntKind.u32.wrap (E31.v + E33.v)))).set d.toNat (Wrd.mk R41)))]) (Wrd.mk R41) 0 kk47 rfl rfl (idx_get H38).2.2 rfl rfl (Cel.plain rfl rfl) rfl rfl rfl rfl) rfl rfl rfl (fun _ => rfl) (fun _ => ?_)
                    refine TA.nil (by kernel_rfl) ?_
                    exact TE.jb_go () [0] ⟨rfl, rfl, rfl, rfl, trivial⟩ rfl
              · refine TX.y (listed' := #[true, true, true, true, true, false, false, true, true, true, true, false, false, false, true, false, false]) [] rfl (Y.index_arr (α := Wrd) ka48 (Can.own 0 rfl) H40 rfl rfl) rfl rfl rfl rfl rfl ?_
                refine TA.two 5 11 (by kernel_rfl) ?_ ?_
                · refine TX.y (listed' := #[true, true, true, true, true, true, false, true, true, true, true, false, false, false, true, false, false]) [] rfl (Y.index_arr (α := Wrd) ka48 (Can.own 0 rfl) H38 rfl rfl) rfl rfl rfl rfl rfl ?_
                  refine TA.two 6 11 (by kernel_rfl) ?_ ?_
                  · refine TX.y (listed' := #[true, true, true, true, true, true, true, true, true, true, true, false, false, false, true, false, false]) [] rfl (Y.load_el (us := [.int .u32 E37.v]) (u := .int .u32 E37.v) kk47 rfl (Can.own 0 rfl) (idx_get H38).2.2 rfl rfl rfl rfl rfl) rfl rfl rfl rfl rfl ?_
                    refine TA.one 11 (by kernel_rfl) ?_
                    refine TX.y (listed' := #[true, true, true, true, true, true, true, true, true, true, true, true, false, false, true, false, false]) [] rfl (Y.load_el (us := [.int .u32 E39.v]) (u := .int .u32 E39.v) kk47 rfl (Can.own 0 rfl) (idx_get H40).2.2 rfl rfl rfl rfl rfl) rfl rfl rfl rfl rfl ?_
                    refine TA.y (listed' := #[true, true, true, true, true, true, true, true, true, true, true, true, true, false, true, false, false]) 12 [] rfl (Y.xor rfl rfl) rfl rfl rfl (by kernel_rfl) (by kernel_rfl) (by kernel_rfl) rfl rfl ?_
                    refine TA.one 13 (by kernel_rfl) ?_
                    refine TX.ef (listed' := #[true, true, true, true, true, true, true, true, true, true, true, true, true, true, true, false, false]) [] rfl (Ef.call (rest := [.own (arrS B_w_ 16) (lc (((((w_.set a.toNat (Wrd.mk (IntKind.u32.wrap (E1.v + E3.v)))).set d.toNat (Wrd.mk R11)).set c.toNat (Wrd.mk (IntKind.u32.wrap (E16.v + E18.v)))).set b.toNat (Wrd.mk R26)).set a.toNat (Wrd.mk (IntKind.u32.wrap (E31.v + E33.v)))))]) [0] (math_bits_RotateLeft32_con (ixor .u32 E37.v E39.v) (8 : Int)  R41 H42) kc44 rfl rfl trivial) rfl rfl rfl rfl (fun _ => rfl) (fun _ => ?_)
                    refine TA.one 15 (by kernel_rfl) ?_
                    refine TX.y (listed' := #[true, true, true, true, true, true, true, true, true, true, true, true, true, true, true, true, false]) [] rfl (Y.index_arr (α := Wrd) ka48 (Can.own 0 rfl) H38 rfl rfl) rfl rfl rfl rfl rfl ?_
                    refine TA.one 16 (by kernel_rfl) ?_
                    refine TX.ef0 (listed' := #[true, true, true, true, true, true, true, true, true, true, true, true, true, true, true, true, true]) [] rfl (Ef.store_el (us := [.int .u32 R41]) (is' := [.own (arrS B_w_ 16) (lc ((((((w_.set a.toNat (Wrd.mk (IntKind.u32.wrap (E1.v + E3.v)))).set d.toNat (Wrd.mk R11)).set c.toNat (Wrd.mk (IntKind.u32.wrap (E16.v + E18.v)))).set b.toNat (Wrd.mk R26)).set a.toNat (Wrd.mk (IntKind.u32.wrap (E31.v + E33.v)))).set d.toNat (Wrd.mk R41)))]) (Wrd.mk R41) 0 kk47 rfl rfl (idx_get H38).2.2 rfl rfl (Cel.plain rfl rfl) rfl rfl rfl rfl) rfl rfl rfl (fun _ => rfl) (fun _ => ?_)
                    refine TA.nil (by kernel_rfl) ?_
                    exact TE.jb_go () [0] ⟨rfl, rfl, rfl, rfl, trivial⟩ rfl
                  · refine TX.y (listed' := #[true, true, true, true, true, true, false, true, true, true, true, true, false, false, true, false, false]) [] rfl (Y.load_el (us := [.int .u32 E39.v]) (u := .int .u32 E39.v) kk47 rfl (Can.own 0 rfl) (idx_get H40).2.2 rfl rfl rfl rfl rfl) rfl rfl rfl rfl rfl ?_
                    refine TA.one 6 (by kernel_rfl) ?_
                    refine TX.y (listed' := #[true, true, true, true, true, true, true, true, true, true, true, true, false, false, true, false, false]) [] rfl (Y.load_el (us := [.int .u32 E37.v]) (u := .int .u32 E37.v) kk47 rfl (Can.own 0 rfl) (idx_get H38).2.2 rfl rfl rfl rfl rfl) rfl rfl rfl rfl rfl ?_
                    refine TA.y (listed' := #[true, true, true, true, true, true, true, true, true, true, true, true, true, false, true, false, false]) 12 [] rfl (Y.xor rfl rfl) rfl rfl rfl (by kernel_rfl) (by kernel_rfl) (by kernel_rfl) rfl rfl ?_
                    refine TA.one 13 (by kernel_rfl) ?_
                    refine TX.ef (listed' := #[true, true, true, true, true, true, true, true, true, true, true, true, true, true, true, false, false]) [] rfl (Ef.call (rest := [.own (arrS B_w_ 16) (lc (((((w_.set a.toNat (Wrd.mk (IntKind.u32.wrap (E1.v + E3.v)))).set d.toNat (Wrd.mk R11)).set c.toNat (Wrd.mk (IntKind.u32.wrap (E16.v + E18.v)))).set b.toNat (Wrd.mk R26)).set a.toNat (Wrd.mk (IntKind.u32.wrap (E31.v + E33.v)))))]) [0] (math_bits_RotateLeft32_con (ixor .u32 E37.v E39.v) (8 : Int)  R41 H42) kc44 rfl rfl trivial) rfl rfl rfl rfl (fun _ => rfl) (fun _ => ?_)
                    refine TA.one 15 (by kernel_rfl) ?_
                    refine TX.y (listed' := #[true, true, true, true, true, true, true, true, true, true, true, true, true, true, true, true, false]) [] rfl (Y.index_arr (α := Wrd) ka48 (Can.own 0 rfl) H38 rfl rfl) rfl rfl rfl rfl rfl ?_
                    refine TA.one 16 (by kernel_rfl) ?_
                    refine TX.ef0 (listed' := #[true, true, true, true, true, true, true, true, true, true, true, true, true, true, true, true, true]) [] rfl (Ef.store_el (us := [.int .u32 R41]) (is' := [.own (arrS B_w_ 16) (lc ((((((w_.set a.toNat (Wrd.mk (IntKind.u32.wrap (E1.v + E3.v)))).set d.toNat (Wrd.mk R11)).set c.toNat (Wrd.mk (IntKind.u32.wrap (E16.v + E18.v)))).set b.toNat (Wrd.mk R26)).set a.toNat (Wrd.mk (IntKind.u32.wrap (E31.v + E33.v)))).set d.toNat (Wrd.mk R41)))]) (Wrd.mk R41) 0 kk47 rfl rfl (idx_get H38).2.2 rfl rfl (Cel.plain rfl rfl) rfl rfl rfl rfl) rfl rfl rfl (fun _ => rfl) (fun _ => ?_)
                    refine TA.nil (by kernel_rfl) ?_
                    exact TE.jb_go () [0] ⟨rfl, rfl, rfl, rfl, trivial⟩ rfl
                · refine TX.y (listed' := #[true, true, true, true, true, false, false, true, true, true, true, true, false, false, true, false, false]) [] rfl (Y.load_el (us := [.int .u32 E39.v]) (u := .int .u32 E39.v) kk47 rfl (Can.own 0 rfl) (idx_get H40).2.2 rfl rfl rfl rfl rfl) rfl rfl rfl rfl rfl ?_
                  refine TA.one 5 (by kernel_rfl) ?_
                  refine TX.y (listed' := #[true, true, true, true, true, true, false, true, true, true, true, true, false, false, true, false, false]) [] rfl (Y.index_arr (α := Wrd) ka48 (Can.own 0 rfl) H38 rfl rfl) rfl rfl rfl rfl rfl ?_
                  refine TA.one 6 (by kernel_rfl) ?_
                  refine TX.y (listed' := #[true, true, true, true, true, true, true, true, true, true, true, true, false, false, true, false, false]) [] rfl (Y.load_el (us := [.int .u32 E37.v]) (u := .int .u32 E37.v) kk47 rfl (Can.own 0 rfl) (idx_get H38).2.2 rfl rfl rfl rfl rfl) rfl rfl rfl rfl rfl ?_
                  refine TA.y (listed' := #[true, true, true, true, true, true, true, true, true, true, true, true, true, false, true, false, false]) 12 [] rfl (Y.xor rfl rfl) rfl rfl rfl (by kernel_rfl) (by kernel_rfl) (by kernel_rfl) rfl rfl ?_
                  refine TA.one 13 (by kernel_rfl) ?_
                  refine TX.ef (listed' := #[true, true, true, true, true, true, true, true, true, true, true, true, true, true, true, false, false]) [] rfl (Ef.call (rest := [.own (arrS B_w_ 16) (lc (((((w_.set a.toNat (Wrd.mk (IntKind.u32.wrap (E1.v + E3.v)))).set d.toNat (Wrd.mk R11)).set c.toNat (Wrd.mk (IntKind.u32.wrap (E16.v + E18.v)))).set b.toNat (Wrd.mk R26)).set a.toNat (Wrd.mk (IntKind.u32.wrap (E31.v + E33.v)))))]) [0] (math_bits_RotateLeft32_con (ixor .u32 E37.v E39.v) (8 : Int)  R41 H42) kc44 rfl rfl trivial) rfl rfl rfl rfl (fun _ => rfl) (fun _ => ?_)
                  refine TA.one 15 (by kernel_rfl) ?_
                  refine TX.y (listed' := #[true, true, true, true, true, true, true, true, true, true, true, true, true, true, true, true, false]) [] rfl (Y.index_arr (α := Wrd) ka48 (Can.own 0 rfl) H38 rfl rfl) rfl rfl rfl rfl rfl ?_
                  refine TA.one 16 (by kernel_rfl) ?_
                  refine TX.ef0 (listed' := #[true, true, true, true, true, true, true, true, true, true, true, true, true, true, true, true, true]) [] rfl (Ef.store_el (us := [.int .u32 R41]) (is' := [.own (arrS B_w_ 16) (lc ((((((w_.set a.toNat (Wrd.mk (IntKind.u32.wrap (E1.v + E3.v)))).set d.toNat (Wrd.mk R11)).set c.toNat (Wrd.mk (IntKind.u32.wrap (E16.v + E18.v)))).set b.toNat (Wrd.mk R26)).set a.toNat (Wrd.mk (IntKind.u32.wrap (E31.v + E33.v)))).set d.toNat (Wrd.mk R41)))]) (Wrd.mk R41) 0 kk47 rfl rfl (idx_get H38).2.2 rfl rfl (Cel.plain rfl rfl) rfl rfl rfl rfl) rfl rfl rfl (fun _ => rfl) (fun _ => ?_)
                  refine TA.nil (by kernel_rfl) ?_
                  exact TE.jb_go () [0] ⟨rfl, rfl, rfl, rfl, trivial⟩ rfl
            · refine TE.next ?_
              refine TW.seq ?_
              refine TW.bind fun E46 H47 => ?_
              refine TW.bind fun E48 H49 => ?_
              refine TW.joinU (X := Unit) (fun _ _ => [(0, .pointer (some ⟨B_w_, 0, none⟩)), (2, .int .i64 b), (3, .int .i64 c)]) (fun _ _ => [.own (arrS B_w_ 16) (lc (((((((w_.set a.toNat (Wrd.mk (IntKind.u32.wrap (E1.v + E3.v)))).set d.toNat (Wrd.mk R11)).set c.toNat (Wrd.mk (IntKind.u32.wrap (E16.v + E18.v)))).set b.toNat (Wrd.mk R26)).set a.toNat (Wrd.mk (IntKind.u32.wrap (E31.v + E33.v)))).set d.toNat (Wrd.mk R41)).set c.toNat (Wrd.mk (IntKind.u32.wrap (E46.v + E48.v)))))]) ?_ (fun _ X51 => ?_)
              · refine TW.draw (isH := []) hMix ?_
                refine TA.y (listed' := #[true, false, false, false, false, false, false, false, false, false, false, false, false, false]) 0 [] rfl (Y.move rfl) rfl rfl rfl (by kernel_rfl) (by kernel_rfl) (by kernel_rfl) rfl rfl ?_
                refine TA.y (listed' := #[true, true, false, false, false, false, false, false, false, false, false, false, false, false]) 1 [] rfl (Y.move rfl) rfl rfl rfl (by kernel_rfl) (by kernel_rfl) (by kernel_rfl) rfl rfl ?_
                refine TA.y (listed' := #[true, true, true, false, false, false, false, false, false, false, false, false, false, false]) 2 [] rfl (Y.nilCheck rfl) rfl rfl rfl (by kernel_rfl) (by kernel_rfl) (by kernel_rfl) rfl rfl ?_
                refine TA.y (listed' := #[true, true, true, false, false, true, false, false, false, false, false, false, false, false]) 5 [] rfl (Y.move rfl) rfl rfl rfl (by kernel_rfl) (by kernel_rfl) (by kernel_rfl) rfl rfl ?_
                refine TA.y (listed' := #[true, true, true, false, false, true, true, false, false, false, false, false, false, false]) 6 [] rfl (Y.move rfl) rfl rfl rfl (by kernel_rfl) (by kernel_rfl) (by kernel_rfl) rfl rfl ?_
                refine TA.y (listed' := #[true, true, true, false, false, true, true, true, false, false, false, false, false, false]) 7 [] rfl (Y.nilCheck rfl) rfl rfl rfl (by kernel_rfl) (by kernel_rfl) (by kernel_rfl) rfl rfl ?_
                refine TA.y (listed' := #[true, true, true, false, false, true, true, true, false, false, false, true, false, false]) 11 [] rfl (Y.nilCheck rfl) rfl rfl rfl (by kernel_rfl) (by kernel_rfl) (by kernel_rfl) rfl rfl ?_
                refine TA.two 3 8 (by kernel_rfl) ?_ ?_
                · refine TX.y (listed' := #[true, true, true, true, false, true, true, true, false, false, false, true, false, false]) [] rfl (Y.index_arr (α := Wrd) ka48 (Can.own 0 rfl) H47 rfl rfl) rfl rfl rfl rfl rfl ?_
                  refine TA.two 4 8 (by kernel_rfl) ?_ ?_
                  · refine TX.y (listed' := #[true, true, true, true, true, true, true, true, false, false, false, true, false, false]) [] rfl (Y.load_el (us := [.int .u32 E46.v]) (u := .int .u32 E46.v) kk47 rfl (Can.own 0 rfl) (idx_get H47).2.2 rfl rfl rfl rfl rfl) rfl rfl rfl rfl rfl ?_
                    refine TA.one 8 (by kernel_rfl) ?_
                    refine TX.y (listed' := #[true, true, true, true, true, true, true, true, true, false, false, true, false, false]) [] rfl (Y.index_arr (α := Wrd) ka48 (Can.own 0 rfl) H49 rfl rfl) rfl rfl rfl rfl rfl ?_
                    refine TA.one 9 (by kernel_rfl) ?_
                    refine TX.y (listed' := #[true, true, true, true, true, true, true, true, true, true, false, true, false, false]) [] rfl (Y.load_el (us := [.int .u32 E48.v]) (u := .int .u32 E48.v) kk47 rfl (Can.own 0 rfl) (idx_get H49).2.2 rfl rfl rfl rfl rfl) rfl rfl rfl rfl rfl ?_
                    refine TA.y (listed' := #[true, true, true, true, true, true, true, true, true, true, true, true, false, false]) 10 [] rfl (Y.add rfl rfl) rfl rfl rfl (by kernel_rfl) (by kernel_rfl) (by kernel_rfl) rfl rfl ?_
                    refine TA.one 12 (by kernel_rfl) ?_
                    refine TX.y (listed' := #[true, true, true, true, true, true, true, true, true, true, true, true, true, false]) [] rfl (Y.index_arr (α := Wrd) ka48 (Can.own 0 rfl) H47 rfl rfl) rfl rfl rfl rfl rfl ?_
                    refine TA.one 13 (by kernel_rfl) ?_
                    refine TX.ef0 (listed' := #[true, true, true, true, true, true, true, true, true, true, true, true, true, true]) [] rfl (Ef.store_el (us := [.int .u32 (IntKind.u32.wrap (E46.v + E48.v))]) (is' := [.own (arrS B_w_ 16) (lc (((((((w_.set a.toNat (Wrd.mk (IntKind.u32.wrap (E1.v + E3.v)))).set d.toNat (Wrd.mk R11)).set c.toNat (Wrd.mk (IntKind.u32.wrap (E16.v + E18.v)))).set b.toNat (Wrd.mk R26)).set a.toNat (Wrd.mk (IntKind.u32.wrap (E31.v + E33.v)))).set d.toNat (Wrd.mk R41)).set c.toNat (Wrd.mk (IntKind.u32.wrap (E46.v + E48.v)))))]) (Wrd.mk (IntKind.u32.wrap (E46.v + E48.v))) 0 kk47 rfl rfl (idx_get H47).2.2 rfl rfl (Cel.plain rfl rfl) rfl rfl rfl rfl) rfl rfl rfl (fun _ => rfl) (fun _ => ?_)
                    refine TA.nil (by kernel_rfl) ?_
                    exact TE.jb_go () [0] ⟨rfl, rfl, rfl, trivial⟩ rfl
                  · refine TX.y (listed' := #[true, true, true, true, false, true, true, true, true, false, false, true, false, false]) [] rfl (Y.index_arr (α := Wrd) ka48 (Can.own 0 rfl) H49 rfl rfl) rfl rfl rfl rfl rfl ?_
                    refine TA.two 4 9 (by kernel_rfl) ?_ ?_
                    · refine TX.y (listed' := #[true, true, true, true, true, true, true, true, true, false, false, true, false, false]) [] rfl (Y.load_el (us := [.int .u32 E46.v]) (u := .int .u32 E46.v) kk47 rfl (Can.own 0 rfl) (idx_get H47).2.2 rfl rfl rfl rfl rfl) rfl rfl rfl rfl rfl ?_
                      refine TA.one 9 (by kernel_rfl) ?_
                      refine TX.y (listed' := #[true, true, true, true, true, true, true, true, true, true, false, true, false, false]) [] rfl (Y.load_el (us := [.int .u32 E48.v]) (u := .int .u32 E48.v) kk47 rfl (Can.own 0 rfl) (idx_get H49).2.2 rfl rfl rfl rfl rfl) rfl rfl rfl rfl rfl ?_
                      refine TA.y (listed' := #[true, true, true, true, true, true, true, true, true, true, true, true, false, false]) 10 [] rfl (Y.add rfl rfl) rfl rfl rfl (by kernel_rfl) (by kernel_rfl) (by kernel_rfl) rfl rfl ?_
                      refine TA.one 12 (by kernel_rfl) ?_
                      refine TX.y (listed' := #[true, true, true, true, true, true, true, true, true, true, true, true, true, false]) [] rfl (Y.index_arr (α := Wrd) ka48 (Can.own 0 rfl) H47 rfl rfl) rfl rfl rfl rfl rfl ?_
                      refine TA.one 13 (by kernel_rfl) ?_
                      refine TX.ef0 (listed' := #[true, true, true, true, true, true, true, true, true, true, true, true, true, true]) [] rfl (Ef.store_el (us := [.int .u32 (IntKind.u32.wrap (E46.v + E48.v))]) (is' := [.own (arrS B_w_ 16) (lc (((((((w_.set a.toNat (Wrd.mk (IntKind.u32.wrap (E1.v + E3.v)))).set d.toNat (Wrd.mk R11)).set c.toNat (Wrd.mk (IntKind.u32.wrap (E16.v + E18.v)))).set b.toNat (Wrd.mk R26)).set a.toNat (Wrd.mk (IntKind.u32.wrap (E31.v + E33.v)))).set d.toNat (Wrd.mk R41)).set c.toNat (Wrd.mk (IntKind.u32.wrap (E46.v + E48.v)))))]) (Wrd.mk (IntKind.u32.wrap (E46.v + E48.v))) 0 kk47 rfl rfl (idx_get H47).2.2 rfl rfl (Cel.plain rfl rfl) rfl rfl rfl rfl) rfl rfl rfl (fun _ => rfl) (fun _ => ?_)
                      refine TA.nil (by kernel_rfl) ?_
                      exact TE.jb_go () [0] ⟨rfl, rfl, rfl, trivial⟩ rfl
                    · refine TX.y (listed' := #[true, true, true, true, false, true, true, true, true, true, false, true, false, false]) [] rfl (Y.load_el (us := [.int .u32 E48.v]) (u := .int .u32 E48.v) kk47 rfl (Can.own 0 rfl) (idx_get H49).2.2 rfl rfl rfl rfl rfl) rfl rfl rfl rfl rfl ?_
                      refine TA.one 4 (by kernel_rfl) ?_
                      refine TX.y (listed' := #[true, true, true, true, true, true, true, true, true, true, false, true, false, false]) [] rfl (Y.load_el (us := [.int .u32 E46.v]) (u := .int .u32 E46.v) kk47 rfl (Can.own 0 rfl) (idx_get H47).2.2 rfl rfl rfl rfl rfl) rfl rfl rfl rfl rfl ?_
                      refine TA.y (listed' := #[true, true, true, true, true, true, true, true, true, true, true, true, false, false]) 10 [] rfl (Y.add rfl rfl) rfl rfl rfl (by kernel_rfl) (by kernel_rfl) (by kernel_rfl) rfl rfl ?_
                      refine TA.one 12 (by kernel_rfl) ?_
                      refine TX.y (listed' := #[true, true, true, true, true, true, true, true, true, true, true, true, true, false]) [] rfl (Y.index_arr (α := Wrd) ka48 (Can.own 0 rfl) H47 rfl rfl) rfl rfl rfl rfl rfl ?_
                      refine TA.one 13 (by kernel_rfl) ?_
                      refine TX.ef0 (listed' := #[true, true, true, true, true, true, true, true, true, true, true, true, true, true]) [] rfl (Ef.store_el (us := [.int .u32 (IntKind.u32.wrap (E46.v + E48.v))]) (is' := [.own (arrS B_w_ 16) (lc (((((((w_.set a.toNat (Wrd.mk (IntKind.u32.wrap (E1.v + E3.v)))).set d.toNat (Wrd.mk R11)).set c.toNat (Wrd.mk (IntKind.u32.wrap (E16.v + E18.v)))).set b.toNat (Wrd.mk R26)).set a.toNat (Wrd.mk (IntKind.u32.wrap (E31.v + E33.v)))).set d.toNat (Wrd.mk R41)).set c.toNat (Wrd.mk (IntKind.u32.wrap (E46.v + E48.v)))))]) (Wrd.mk (IntKind.u32.wrap (E46.v + E48.v))) 0 kk47 rfl rfl (idx_get H47).2.2 rfl rfl (Cel.plain rfl rfl) rfl rfl rfl rfl) rfl rfl rfl (fun _ => rfl) (fun _ => ?_)
                      refine TA.nil (by kernel_rfl) ?_
                      exact TE.jb_go () [0] ⟨rfl, rfl, rfl, trivial⟩ rfl
                · refine TX.y (listed' := #[true, true, true, false, false, true, true, true, true, false, false, true, false, false]) [] rfl (Y.index_arr (α := Wrd) ka48 (Can.own 0 rfl) H49 rfl rfl) rfl rfl rfl rfl rfl ?_
                  refine TA.two 3 9 (by kernel_rfl) ?_ ?_
                  · refine TX.y (listed' := #[true, true, true, true, false, true, true, true, true, false, false, true, false, false]) [] rfl (Y.index_arr (α := Wrd) ka48 (Can.own 0 rfl) H47 rfl rfl) rfl rfl rfl rfl rfl ?_
                    refine TA.two 4 9 (by kernel_rfl) ?_ ?_
                    · refine TX.y (listed' := #[true, true, true, true, true, true, true, true, true, false, false, true, false, false]) [] rfl (Y.load_el (us := [.int .u32 E46.v]) (u := .int .u32 E46.v) kk47 rfl (Can.own 0 rfl) (idx_get H47).2.2 rfl rfl rfl rfl rfl) rfl rfl rfl rfl rfl ?_
                      refine TA.one 9 (by kernel_rfl) ?_
                      refine TX.y (listed' := #[true, true, true, true, true, true, true, true, true, true, false, true, false, false]) [] rfl (Y.load_el (us := [.int .u32 E48.v]) (u := .int .u32 E48.v) kk47 rfl (Can.own 0 rfl) (idx_get H49).2.2 rfl rfl rfl rfl rfl) rfl rfl rfl rfl rfl ?_
                      refine TA.y (listed' := #[true, true, true, true, true, true, true, true, true, true, true, true, false, false]) 10 [] rfl (Y.add rfl rfl) rfl rfl rfl (by kernel_rfl) (by kernel_rfl) (by kernel_rfl) rfl rfl ?_
                      refine TA.one 12 (by kernel_rfl) ?_
                      refine TX.y (listed' := #[true, true, true, true, true, true, true, true, true, true, true, true, true, false]) [] rfl (Y.index_arr (α := Wrd) ka48 (Can.own 0 rfl) H47 rfl rfl) rfl rfl rfl rfl rfl ?_
                      refine TA.one 13 (by kernel_rfl) ?_
                      refine TX.ef0 (listed' := #[true, true, true, true, true, true, true, true, true, true, true, true, true, true]) [] rfl (Ef.store_el (us := [.int .u32 (IntKind.u32.wrap (E46.v + E48.v))]) (is' := [.own (arrS B_w_ 16) (lc (((((((w_.set a.toNat (Wrd.mk (IntKind.u32.wrap (E1.v + E3.v)))).set d.toNat (Wrd.mk R11)).set c.toNat (Wrd.mk (IntKind.u32.wrap (E16.v + E18.v)))).set b.toNat (Wrd.mk R26)).set a.toNat (Wrd.mk (IntKind.u32.wrap (E31.v + E33.v)))).set d.toNat (Wrd.mk R41)).set c.toNat (Wrd.mk (IntKind.u32.wrap (E46.v + E48.v)))))]) (Wrd.mk (IntKind.u32.wrap (E46.v + E48.v))) 0 kk47 rfl rfl (idx_get H47).2.2 rfl rfl (Cel.plain rfl rfl) rfl rfl rfl rfl) rfl rfl rfl (fun _ => rfl) (fun _ => ?_)
                      refine TA.nil (by kernel_rfl) ?_
                      exact TE.jb_go () [0] ⟨rfl, rfl, rfl, trivial⟩ rfl
                    · refine TX.y (listed' := #[true, true, true, true, false, true, true, true, true, true, false, true, false, false]) [] rfl (Y.load_el (us := [.int .u32 E48.v]) (u := .int .u32 E48.v) kk47 rfl (Can.own 0 rfl) (idx_get H49).2.2 rfl rfl rfl rfl rfl) rfl rfl rfl rfl rfl ?_
                      refine TA.one 4 (by kernel_rfl) ?_
                      refine TX.y (listed' := #[true, true, true, true, true, true, true, true, true, true, false, true, false, false]) [] rfl (Y.load_el (us := [.int .u32 E46.v]) (u := .int .u32 E46.v) kk47 rfl (Can.own 0 rfl) (idx_get H47).2.2 rfl rfl rfl rfl rfl) rfl rfl rfl rfl rfl ?_
                      refine TA.y (listed' := #[true, true, true, true, true, true, true, true, true, true, true, true, false, false]) 10 [] rfl (Y.add rfl rfl) rfl rfl rfl (by kernel_rfl) (by kernel_rfl) (by kernel_rfl) rfl rfl ?_
                      refine TA.one 12 (by kernel_rfl) ?_
                      refine TX.y (listed' := #[true, true, true, true, true, true, true, true, true, true, true, true, true, false]) [] rfl (Y.index_arr (α := Wrd) ka48 (Can.own 0 rfl) H47 rfl rfl) rfl rfl rfl rfl rfl ?_
                      refine TA.one 13 (by kernel_rfl) ?_
                      refine TX.ef0 (listed' := #[true, true, true, true, true, true, true, true, true, true, true, true, true, true]) [] rfl (Ef.store_el (us := [.int .u32 (IntKind.u32.wrap (E46.v + E48.v))]) (is' := [.own (arrS B_w_ 16) (lc (((((((w_.set a.toNat (Wrd.mk (IntKind.u32.wrap (E1.v + E3.v)))).set d.toNat (Wrd.mk R11)).set c.toNat (Wrd.mk (IntKind.u32.wrap (E16.v + E18.v)))).set b.toNat (Wrd.mk R26)).set a.toNat (Wrd.mk (IntKind.u32.wrap (E31.v + E33.v)))).set d.toNat (Wrd.mk R41)).set c.toNat (Wrd.mk (IntKind.u32.wrap (E46.v + E48.v)))))]) (Wrd.mk (IntKind.u32.wrap (E46.v + E48.v))) 0 kk47 rfl rfl (idx_get H47).2.2 rfl rfl (Cel.plain rfl rfl) rfl rfl rfl rfl) rfl rfl rfl (fun _ => rfl) (fun _ => ?_)
                      refine TA.nil (by kernel_rfl) ?_
                      exact TE.jb_go () [0] ⟨rfl, rfl, rfl, trivial⟩ rfl
                  · refine TX.y (listed' := #[true, true, true, false, false, true, true, true, true, true, false, true, false, false]) [] rfl (Y.load_el (us := [.int .u32 E48.v]) (u := .int .u32 E48.v) kk47 rfl (Can.own 0 rfl) (idx_get H49).2.2 rfl rfl rfl rfl rfl) rfl rfl rfl rfl rfl ?_
                    refine TA.one 3 (by kernel_rfl) ?_
                    refine TX.y (listed' := #[true, true, true, true, false, true, true, true, true, true, false, true, false, false]) [] rfl (Y.index_arr (α := Wrd) ka48 (Can.own 0 rfl) H47 rfl rfl) rfl rfl rfl rfl rfl ?_
                    refine TA.one 4 (by kernel_rfl) ?_
                    refine TX.y (listed' := #[true, true, true, true, true, true, true, true, true, true, false, true, false, false]) [] rfl (Y.load_el (us := [.int .u32 E46.v]) (u := .int .u32 E46.v) kk47 rfl (Can.own 0 rfl) (idx_get H47).2.2 rfl rfl rfl rfl rfl) rfl rfl rfl rfl rfl ?_
                    refine TA.y (listed' := #[true, true, true, true, true, true, true, true, true, true, true, true, false, false]) 10 [] rfl (Y.add rfl rfl) rfl rfl rfl (by kernel_rfl) (by kernel_rfl) (by kernel_rfl) rfl rfl ?_
                    refine TA.one 12 (by kernel_rfl) ?_
                    refine TX.y (listed' := #[true, true, true, true, true, true, true, true, true, true, true, true, true, false]) [] rfl (Y.index_arr (α := Wrd) ka48 (Can.own 0 rfl) H47 rfl rfl) rfl rfl rfl rfl rfl ?_
                    refine TA.one 13 (by kernel_rfl) ?_
                    refine TX.ef0 (listed' := #[true, true, true, true, true, true, true, true, true, true, true, true, true, true]) [] rfl (Ef.store_el (us := [.int .u32 (IntKind.u32.wrap (E46.v + E48.v))]) (is' := [.own (arrS B_w_ 16) (lc (((((((w_.set a.toNat (Wrd.mk (IntKind.u32.wrap (E1.v + E3.v)))).set d.toNat (Wrd.mk R11)).set c.toNat (Wrd.mk (IntKind.u32.wrap (E16.v + E18.v)))).set b.toNat (Wrd.mk R26)).set a.toNat (Wrd.mk (IntKind.u32.wrap (E31.v + E33.v)))).set d.toNat (Wrd.mk R41)).set c.toNat (Wrd.mk (IntKind.u32.wrap (E46.v + E48.v)))))]) (Wrd.mk (IntKind.u32.wrap (E46.v + E48.v))) 0 kk47 rfl rfl (idx_get H47).2.2 rfl rfl (Cel.plain rfl rfl) rfl rfl rfl rfl) rfl rfl rfl (fun _ => rfl) (fun _ => ?_)
                    refine TA.nil (by kernel_rfl) ?_
                    exact TE.jb_go () [0] ⟨rfl, rfl, rfl, trivial⟩ rfl
              · refine TE.next ?_
                refine TW.bind fun E52 H53 => ?_
                refine TW.bind fun E54 H55 => ?_
                refine TW.bind fun R56 H57 => ?_
                refine TW.joinU (X := Unit) (fun _ _ => []) (fun _ _ => [.own (arrS B_w_ 16) (lc ((((((((w_.set a.toNat (Wrd.mk (IntKind.u32.wrap (E1.v + E3.v)))).set d.toNat (Wrd.mk R11)).set c.toNat (Wrd.mk (IntKind.u32.wrap (E16.v + E18.v)))).set b.toNat (Wrd.mk R26)).set a.toNat (Wrd.mk (IntKind.u32.wrap (E31.v + E33.v)))).set d.toNat (Wrd.mk R41)).set c.toNat (Wrd.mk (IntKind.u32.wrap (E46.v + E48.v)))).set b.toNat (Wrd.mk R56)))]) ?_ (fun _ X60 => ?_)
                · refine TW.draw (isH := []) hMix ?_
                  refine TA.y (listed' := #[true, false, false, false, false, false, false, false, false, false, false, false, false, false, false, false, false]) 0 [] rfl (Y.move rfl) rfl rfl rfl (by kernel_rfl) (by kernel_rfl) (by kernel_rfl) rfl rfl ?_
                  refine TA.y (listed' := #[true, true, false, false, false, false, false, false, false, false, false, false, false, false, false, false, false]) 1 [] rfl (Y.move rfl) rfl rfl rfl (by kernel_rfl) (by kernel_rfl) (by kernel_rfl) rfl rfl ?_
                  refine TA.y (listed' := #[true, true, true, false, false, false, false, false, false, false, false, false, false, false, false, false, false]) 2 [] rfl (Y.move rfl) rfl rfl rfl (by kernel_rfl) (by kernel_rfl) (by kernel_rfl) rfl rfl ?_
                  refine TA.y (listed' := #[true, true, true, true, false, false, false, false, false, false, false, false, false, false, false, false, false]) 3 [] rfl (Y.move rfl) rfl rfl rfl (by kernel_rfl) (by kernel_rfl) (by kernel_rfl) rfl rfl ?_
                  refine TA.y (listed' := #[true, true, true, true, true, false, false, false, false, false, false, false, false, false, false, false, false]) 4 [] rfl (Y.nilCheck rfl) rfl rfl rfl (by kernel_rfl) (by kernel_rfl) (by kernel_rfl) rfl rfl ?_
                  refine TA.y (listed' := #[true, true, true, true, true, false, false, true, false, false, false, false, false, false, false, false, false]) 7 [] rfl (Y.move rfl) rfl rfl rfl (by kernel_rfl) (by kernel_rfl) (by kernel_rfl) rfl rfl ?_
                  refine TA.y (listed' := #[true, true, true, true, true, false, false, true, true, false, false, false, false, false, false, false, false]) 8 [] rfl (Y.move rfl) rfl rfl rfl (by kernel_rfl) (by kernel_rfl) (by kernel_rfl) rfl rfl ?_
                  refine TA.y (listed' := #[true, true, true, true, true, false, false, true, true, true, false, false, false, false, false, false, false]) 9 [] rfl (Y.nilCheck rfl) rfl rfl rfl (by kernel_rfl) (by kernel_rfl) (by kernel_rfl) rfl rfl ?_
                  refine TA.y (listed' := #[true, true, true, true, true, false, false, true, true, true, false, false, false, false, true, false, false]) 14 [] rfl (Y.nilCheck rfl) rfl rfl rfl (by kernel_rfl) (by kernel_rfl) (by kernel_rfl) rfl rfl ?_
                  refine TA.two 5 10 (by kernel_rfl) ?_ ?_
                  · refine TX.y (listed' := #[true, true, true, true, true, true, false, true, true, true, false, false, false, false, true, false, false]) [] rfl (Y.index_arr (α := Wrd) ka48 (Can.own 0 rfl) H53 rfl rfl) rfl rfl rfl rfl rfl ?_
                    refine TA.two 6 10 (by kernel_rfl) ?_ ?_
                    · refine TX.y (listed' := #[true, true, true, true, true, true, true, true, true, true, false, false, false, false, true, false, false]) [] rfl (Y.load_el (us := [.int .u32 E52.v]) (u := .int .u32 E52.v) kk47 rfl (Can.own 0 rfl) (idx_get H53).2.2 rfl rfl rfl rfl rfl) rfl rfl rfl rfl rfl ?_
                      refine TA.one 10 (by kernel_rfl) ?_
                      refine TX.y (listed' := #[true, true, true, true, true, true, true, true, true, true, true, false, false, false, true, false, false]) [] rfl (Y.index_arr (α := Wrd) ka48 (Can.own 0 rfl) H55 rfl rfl) rfl rfl rfl rfl rfl ?_
                      refine TA.one 11 (by kernel_rfl) ?_
                      refine TX.y (listed' := #[true, true, true, true, true, true, true, true, true, true, true, true, false, false, true, false, false]) [] rfl (Y.load_el (us := [.int .u32 E54.v]) (u := .int .u32 E54.v) kk47 rfl (Can.own 0 rfl) (idx_get H55).2.2 rfl rfl rfl rfl rfl) rfl rfl rfl rfl rfl ?_
                      refine TA.y (listed' := #[true, true, true, true, true, true, true, true, true, true, true, true, true, false, true, false, false]) 12 [] rfl (Y.xor rfl rfl) rfl rfl rfl (by kernel_rfl) (by kernel_rfl) (by kernel_rfl) rfl rfl ?_
                      refine TA.one 13 (by kernel_rfl) ?_
                      refine TX.ef (listed' := #[true, true, true, true, true, true, true, true, true, true, true, true, true, true, true, false, false]) [] rfl (Ef.call (rest := [.own (arrS B_w_ 16) (lc (((((((w_.set a.toNat (Wrd.mk (IntKind.u32.wrap (E1.v + E3.v)))).set d.toNat (Wrd.mk R11)).set c.toNat (Wrd.mk (IntKind.u32.wrap (E16.v + E18.v)))).set b.toNat (Wrd.mk R26)).set a.toNat (Wrd.mk (IntKind.u32.wrap (E31.v + E33.v)))).set d.toNat (Wrd.mk R41)).set c.toNat (Wrd.mk (IntKind.u32.wrap (E46.v + E48.v)))))]) [0] (math_bits_RotateLeft32_con (ixor .u32 E52.v E54.v) (7 : Int)  R56 H57) kc44 rfl rfl trivial) rfl rfl rfl rfl (fun _ => rfl) (fun _ => ?_)
                      refine TA.one 15 (by kernel_rfl) ?_
                      refine TX.y (listed' := #[true, true, true, true, true, true, true, true, true, true, true, true, true, true, true, true, false]) [] rfl (Y.index_arr (α := Wrd) ka48 (Can.own 0 rfl) H53 rfl rfl) rfl rfl rfl rfl rfl ?_
                      refine TA.one 16 (by kernel_rfl) ?_
                      refine TX.ef0 (listed' := #[true, true, true, true, true, true, true, true, true, true, true, true, true, true, true, true, true]) [] rfl (Ef.store_el (us := [.int .u32 R56]) (is' := [.own (arrS B_w_ 16) (lc ((((((((w_.set a.toNat (Wrd.mk (IntKind.u32.wrap (E1.v + E3.v)))).set d.toNat (Wrd.mk R11)).set c.toNat (Wrd.mk (IntKind.u32.wrap (E16.v + E18.v)))).set b.toNat (Wrd.mk R26)).set a.toNat (Wrd.mk (IntKind.u32.wrap (E31.v + E33.v)))).set d.toNat (Wrd.mk R41)).set c.toNat (Wrd.mk (IntKind.u32.wrap (E46.v + E48.v)))).set b.toNat (Wrd.mk R56)))]) (Wrd.mk R56) 0 kk47 rfl rfl (idx_get H53).2.2 rfl rfl (Cel.plain rfl rfl) rfl rfl rfl rfl) rfl rfl rfl (fun _ => rfl) (fun _ => ?_)
                      refine TA.nil (by kernel_rfl) ?_
                      exact TE.jb_go () [0] trivial rfl
                    · refine TX.y (listed' := #[true, true, true, true, true, true, false, true, true, true, true, false, false, false, true, false, false]) [] rfl (Y.index_arr (α := Wrd) ka48 (Can.own 0 rfl) H55 rfl rfl) rfl rfl rfl rfl rfl ?_
                      refine TA.two 6 11 (by kernel_rfl) ?_ ?_
                      · refine TX.y (listed' := #[true, true, true, true, true, true, true, true, true, true, true, false, false, false, true, false, false]) [] rfl (Y.load_el (us := [.int .u32 E52.v]) (u := .int .u32 E52.v) kk47 rfl (Can.own 0 rfl) (idx_get H53).2.2 rfl rfl rfl rfl rfl) rfl rfl rfl rfl rfl ?_
                        refine TA.one 11 (by kernel_rfl) ?_
                        refine TX.y (listed' := #[true, true, true, true, true, true, true, true, true, true, true, true, false, false, true, false, false]) [] rfl (Y.load_el (us := [.int .u32 E54.v]) (u := .int .u32 E54.v) kk47 rfl (Can.own 0 rfl) (idx_get H55).2.2 rfl rfl rfl rfl rfl) rfl rfl rfl rfl rfl ?_
                        refine TA.y (listed' := #[true, true, true, true, true, true, true, true, true, true, true, true, true, false, true, false, false]) 12 [] rfl (Y.xor rfl rfl) rfl rfl rfl (by kernel_rfl) (by kernel_rfl) (by kernel_rfl) rfl rfl ?_
                        refine TA.one 13 (by kernel_rfl) ?_
                        refine TX.ef (listed' := #[true, true, true, true, true, true, true, true, true, true, true, true, true, true, true, false, false]) [] rfl (Ef.call (rest := [.own (arrS B_w_ 16) (lc (((((((w_.set a.toNat (Wrd.mk (IntKind.u32.wrap (E1.v + E3.v)))).set d.toNat (Wrd.mk R11)).set c.toNat (Wrd.mk (IntKind.u32.wrap (E16.v + E18.v)))).set b.toNat (Wrd.mk R26)).set a.toNat (Wrd.mk (IntKind.u32.wrap (E31.v + E33.v)))).set d.toNat (Wrd.mk R41)).set c.toNat (Wrd.mk (IntKind.u32.wrap (E46.v + E48.v)))))]) [0] (math_bits_RotateLeft32_con (ixor .u32 E52.v E54.v) (7 : Int)  R56 H57) kc44 rfl rfl trivial) rfl rfl rfl rfl (fun _ => rfl) (fun _ => ?_)
                        refine TA.one 15 (by kernel_rfl) ?_
                        refine TX.y (listed' := #[true, true, true, true, true, true, true, true, true, true, true, true, true, true, true, true, false]) [] rfl (Y.index_arr (α := Wrd) ka48 (Can.own 0 rfl) H53 rfl rfl) rfl rfl rfl rfl rfl ?_
                        refine TA.one 16 (by kernel_rfl) ?_
                        refine TX.ef0 (listed' := #[true, true, true, true, true, true, true, true, true, true, true, true, true, true, true, true, true]) [] rfl (Ef.store_el (us := [.int .u32 R56]) (is' := [.own (arrS B_w_ 16) (lc ((((((((w_.set a.toNat (Wrd.mk (IntKind.u32.wrap (E1.v + E3.v)))).set d.toNat (Wrd.mk R11)).set c.toNat (Wrd.mk (IntKind.u32.wrap (E16.v + E18.v)))).set b.toNat (Wrd.mk R26)).set a.toNat (Wrd.mk (IntKind.u32.wrap (E31.v + E33.v)))).set d.toNat (Wrd.mk R41)).set c.toNat (Wrd.mk (IntKind.u32.wrap (E46.v + E48.v)))).set b.toNat (Wrd.mk R56)))]) (Wrd.mk R56) 0 kk47 rfl rfl (idx_get H53).2.2 rfl rfl (Cel.plain rfl rfl) rfl rfl rfl rfl) rfl rfl rfl (fun _ => rfl) (fun _ => ?_)
                        refine TA.nil (by kernel_rfl) ?_
                        exact TE.jb_go () [0] trivial rfl
                      · refine TX.y (listed' := #[true, true, true, true, true, true, false, true, true, true, true, true, false, false, true, false, false]) [] rfl (Y.load_el (us := [.int .u32 E54.v]) (u := .int .u32 E54.v) kk47 rfl (Can.own 0 rfl) (idx_get H55).2.2 rfl rfl rfl rfl rfl) rfl rfl rfl rfl rfl ?_
                        refine TA.one 6 (by kernel_rfl) ?_
                        refine TX.y (listed' := #[true, true, true, true, true, true, true, true, true, true, true, true, false, false, true, false, false]) [] rfl (Y.load_el (us := [.int .u32 E52.v]) (u := .int .u32 E52.v) kk47 rfl (Can.own 0 rfl) (idx_get H53).2.2 rfl rfl rfl rfl rfl) rfl rfl rfl rfl rfl ?_
                        refine TA.y (listed' := #[true, true, true, true, true, true, true, true, true, true, true, true, true, false, true, false, false]) 12 [] rfl (Y.xor rfl rfl) rfl rfl rfl (by kernel_rfl) (by kernel_rfl) (by kernel_rfl) rfl rfl ?_
                        refine TA.one 13 (by kernel_rfl) ?_
                        refine TX.ef (listed' := #[true, true, true, true, true, true, true, true, true, true, true, true, true, true, true, false, false]) [] rfl (Ef.call (rest := [.own (arrS B_w_ 16) (lc (((((((w_.set a.toNat (Wrd.mk (IntKind.u32.wrap (E1.v + E3.v)))).set d.toNat (Wrd.mk R11)).set c.toNat (Wrd.mk (IntKind.u32.wrap (E16.v + E18.v)))).set b.toNat (Wrd.mk R26)).set a.toNat (Wrd.mk (IntKind.u32.wrap (E31.v + E33.v)))).set d.toNat (Wrd.mk R41)).set c.toNat (Wrd.mk (IntKind.u32.wrap (E46.v + E48.v)))))]) [0] (math_bits_RotateLeft32_con (ixor .u32 E52.v E54.v) (7 : Int)  R56 H57) kc44 rfl rfl trivial) rfl rfl rfl rfl (fun _ => rfl) (fun _ => ?_)
                        refine TA.one 15 (by kernel_rfl) ?_
                        refine TX.y (listed' := #[true, true, true, true, true, true, true, true, true, true, true, true, true, true, true, true, false]) [] rfl (Y.index_arr (α := Wrd) ka48 (Can.own 0 rfl) H53 rfl rfl) rfl rfl rfl rfl rfl ?_
                        refine TA.one 16 (by kernel_rfl) ?_
                        refine TX.ef0 (listed' := #[true, true, true, true, true, true, true, true, true, true, true, true, true, true, true, true, true]) [] rfl (Ef.store_el (us := [.int .u32 R56]) (is' := [.own (arrS B_w_ 16) (lc ((((((((w_.set a.toNat (Wrd.mk (IntKind.u32.wrap (E1.v + E3.v)))).set d.toNat (Wrd.mk R11)).set c.toNat (Wrd.mk (IntKind.u32.wrap (E16.v + E18.v)))).set b.toNat (Wrd.mk R26)).set a.toNat (Wrd.mk (IntKind.u32.wrap (E31.v + E33.v)))).set d.toNat (Wrd.mk R41)).set c.toNat (Wrd.mk (IntKind.u32.wrap (E46.v + E48.v)))).set b.toNat (Wrd.mk R56)))]) (Wrd.mk R56) 0 kk47 rfl rfl (idx_get H53).2.2 rfl rfl (Cel.plain rfl rfl) rfl rfl rfl rfl) rfl rfl rfl (fun _ => rfl) (fun _ => ?_)
                        refine TA.nil (by kernel_rfl) ?_
                        exact TE.jb_go () [0] trivial rfl
                  · refine TX.y (listed' := #[true, true, true, true, true, false, false, true, true, true, true, false, false, false, true, false, false]) [] rfl (Y.index_arr (α := Wrd) ka48 (Can.own 0 rfl) H55 rfl rfl) rfl rfl rfl rfl rfl ?_
                    refine TA.two 5 11 (by kernel_rfl) ?_ ?_
                    · refine TX.y (listed' := #[true, true, true, true, true, true, false, true, true, true, true, false, false, false, true, false, false]) [] rfl (Y.index_arr (α := Wrd) ka48 (Can.own 0 rfl) H53 rfl rfl) rfl rfl rfl rfl rfl ?_
                      refine TA.two 6 11 (by kernel_rfl) ?_ ?_
                      · refine TX.y (listed' := #[true, true, true, true, true, true, true, true, true, true, true, false, false, false, true, false, false]) [] rfl (Y.load_el (us := [.int .u32 E52.v]) (u := .int .u32 E52.v) kk47 rfl (Can.own 0 rfl) (idx_get H53).2.2 rfl rfl rfl rfl rfl) rfl rfl rfl rfl rfl ?_
                        refine TA.one 11 (by kernel_rfl) ?_
                        refine TX.y (listed' := #[true, true, true, true, true, true, true, true, true, true, true, true, false, false, true, false, false]) [] rfl (Y.load_el (us := [.int .u32 E54.v]) (u := .int .u32 E54.v) kk47 rfl (Can.own 0 rfl) (idx_get H55).2.2 rfl rfl rfl rfl rfl) rfl rfl rfl rfl rfl ?_
                        refine TA.y (listed' := #[true, true, true, true, true, true, true, true, true, true, true, true, true, false, true, false, false]) 12 [] rfl (Y.xor rfl rfl) rfl rfl rfl (by kernel_rfl) (by kernel_rfl) (by kernel_rfl) rfl rfl ?_
                        refine TA.one 13 (by kernel_rfl) ?_
                        refine TX.ef (listed' := #[true, true, true, true, true, true, true, true, true, true, true, true, true, true, true, false, false]) [] rfl (Ef.call (rest := [.own (arrS B_w_ 16) (lc (((((((w_.set a.toNat (Wrd.mk (IntKind.u32.wrap (E1.v + E3.v)))).set d.toNat (Wrd.mk R11)).set c.toNat (Wrd.mk (IntKind.u32.wrap (E16.v + E18.v)))).set b.toNat (Wrd.mk R26)).set a.toNat (Wrd.mk (IntKind.u32.wrap (E31.v + E33.v)))).set d.toNat (Wrd.mk R41)).set c.toNat (Wrd.mk (IntKind.u32.wrap (E46.v + E48.v)))))]) [0] (math_bits_RotateLeft32_con (ixor .u32 E52.v E54.v) (7 : Int)  R56 H57) kc44 rfl rfl trivial) rfl rfl rfl rfl (fun _ => rfl) (fun _ => ?_)
                        refine TA.one 15 (by kernel_rfl) ?_
                        refine TX.y (listed' := #[true, true, true, true, true, true, true, true, true, true, true, true, true, true, true, true, false]) [] rfl (Y.index_arr (α := Wrd) ka48 (Can.own 0 rfl) H53 rfl rfl) rfl rfl rfl rfl rfl ?_
                        refine TA.one 16 (by kernel_rfl) ?_
                        refine TX.ef0 (listed' := #[true, true, true, true, true, true, true, true, true, true, true, true, true, true, true, true, true]) [] rfl (Ef.store_el (us := [.int .u32 R56]) (is' := [.own (arrS B_w_ 16) (lc ((((((((w_.set a.toNat (Wrd.mk (IntKind.u32.wrap (E1.v + E3.v)))).set d.toNat (Wrd.mk R11)).set c.toNat (Wrd.mk (IntKind.u32.wrap (E16.v + E18.v)))).set b.toNat (Wrd.mk R26)).set a.toNat (Wrd.mk (IntKind.u32.wrap (E31.v + E33.v)))).set d.toNat (Wrd.mk R41)).set c.toNat (Wrd.mk (IntKind.u32.wrap (E46.v + E48.v)))).set b.toNat (Wrd.mk R56)))]) (Wrd.mk R56) 0 kk47 rfl rfl (idx_get H53).2.2 rfl rfl (Cel.plain rfl rfl) rfl rfl rfl rfl) rfl rfl rfl (fun _ => rfl) (fun _ => ?_)
                        refine TA.nil (by kernel_rfl) ?_
                        exact TE.jb_go () [0] trivial rfl
                      · refine TX.y (listed' := #[true, true, true, true, true, true, false, true, true, true, true, true, false, false, true, false, false]) [] rfl (Y.load_el (us := [.int .u32 E54.v]) (u := .int .u32 E54.v) kk47 rfl (Can.own 0 rfl) (idx_get H55).2.2 rfl rfl rfl rfl rfl) rfl rfl rfl rfl rfl ?_
                        refine TA.one 6 (by kernel_rfl) ?_
                        refine TX.y (listed' := #[true, true, true, true, true, true, true, true, true, true, true, true, false, false, true, false, false]) [] rfl (Y.load_el (us := [.int .u32 E52.v]) (u := .int .u32 E52.v) kk47 rfl (Can.own 0 rfl) (idx_get H53).2.2 rfl rfl rfl rfl rfl) rfl rfl rfl rfl rfl ?_
                        refine TA.y (listed' := #[true, true, true, true, true, true, true, true, true, true, true, true, true, false, true, false, false]) 12 [] rfl (Y.xor rfl rfl) rfl rfl rfl (by kernel_rfl) (by kernel_rfl) (by kernel_rfl) rfl rfl ?_
                        refine TA.one 13 (by kernel_rfl) ?_
                        refine TX.ef (listed' := #[true, true, true, true, true, true, true, true, true, true, true, true, true, true, true, false, false]) [] rfl (Ef.call (rest := [.own (arrS B_w_ 16) (lc (((((((w_.set a.toNat (Wrd.mk (IntKind.u32.wrap (E1.v + E3.v)))).set d.toNat (Wrd.mk R11)).set c.toNat (Wrd.mk (IntKind.u32.wrap (E16.v + E18.v)))).set b.toNat (Wrd.mk R26)).set a.toNat (Wrd.mk (IntKind.u32.wrap (E31.v + E33.v)))).set d.toNat (Wrd.mk R41)).set c.toNat (Wrd.mk (IntKind.u32.wrap (E46.v + E48.v)))))]) [0] (math_bits_RotateLeft32_con (ixor .u32 E52.v E54.v) (7 : Int)  R56 H57) kc44 rfl rfl trivial) rfl rfl rfl rfl (fun _ => rfl) (fun _ => ?_)
                        refine TA.one 15 (by kernel_rfl) ?_
                        refine TX.y (listed' := #[true, true, true, true, true, true, true, true, true, true, true, true, true, true, true, true, false]) [] rfl (Y.index_arr (α := Wrd) ka48 (Can.own 0 rfl) H53 rfl rfl) rfl rfl rfl rfl rfl ?_
                        refine TA.one 16 (by kernel_rfl) ?_
                        refine TX.ef0 (listed' := #[true, true, true, true, true, true, true, true, true, true, true, true, true, true, true, true, true]) [] rfl (Ef.store_el (us := [.int .u32 R56]) (is' := [.own (arrS B_w_ 16) (lc ((((((((w_.set a.toNat (Wrd.mk (IntKind.u32.wrap (E1.v + E3.v)))).set d.toNat (Wrd.mk R11)).set c.toNat (Wrd.mk (IntKind.u32.wrap (E16.v + E18.v)))).set b.toNat (Wrd.mk R26)).set a.toNat (Wrd.mk (IntKind.u32.wrap (E31.v + E33.v)))).set d.toNat (Wrd.mk R41)).set c.toNat (Wrd.mk (IntKind.u32.wrap (E46.v + E48.v)))).set b.toNat (Wrd.mk R56)))]) (Wrd.mk R56) 0 kk47 rfl rfl (idx_get H53).2.2 rfl rfl (Cel.plain rfl rfl) rfl rfl rfl rfl) rfl rfl rfl (fun _ => rfl) (fun _ => ?_)
                        refine TA.nil (by kernel_rfl) ?_
                        exact TE.jb_go () [0] trivial rfl
                    · refine TX.y (listed' := #[true, true, true, true, true, false, false, true, true, true, true, true, false, false, true, false, false]) [] rfl (Y.load_el (us := [.int .u32 E54.v]) (u := .int .u32 E54.v) kk47 rfl (Can.own 0 rfl) (idx_get H55).2.2 rfl rfl rfl rfl rfl) rfl rfl rfl rfl rfl ?_
                      refine TA.one 5 (by kernel_rfl) ?_
                      refine TX.y (listed' := #[true, true, true, true, true, true, false, true, true, true, true, true, false, false, true, false, false]) [] rfl (Y.index_arr (α := Wrd) ka48 (Can.own 0 rfl) H53 rfl rfl) rfl rfl rfl rfl rfl ?_
                      refine TA.one 6 (by kernel_rfl) ?_
                      refine TX.y (listed' := #[true, true, true, true, true, true, true, true, true, true, true, true, false, false, true, false, false]) [] rfl (Y.load_el (us := [.int .u32 E52.v]) (u := .int .u32 E52.v) kk47 rfl (Can.own 0 rfl) (idx_get H53).2.2 rfl rfl rfl rfl rfl) rfl rfl rfl rfl rfl ?_
                      refine TA.y (listed' := #[true, true, true, true, true, true, true, true, true, true, true, true, true, false, true, false, false]) 12 [] rfl (Y.xor rfl rfl) rfl rfl rfl (by kernel_rfl) (by kernel_rfl) (by kernel_rfl) rfl rfl ?_
                      refine TA.one 13 (by kernel_rfl) ?_
                      refine TX.ef (listed' := #[true, true, true, true, true, true, true, true, true, true, true, true, true, true, true, false, false]) [] rfl (Ef.call (rest := [.own (arrS B_w_ 16) (lc (((((((w_.set a.toNat (Wrd.mk (IntKind.u32.wrap (E1.v + E3.v)))).set d.toNat (Wrd.mk R11)).set c.toNat (Wrd.mk (IntKind.u32.wrap (E16.v + E18.v)))).set b.toNat (Wrd.mk R26)).set a.toNat (Wrd.mk (IntKind.u32.wrap (E31.v + E33.v)))).set d.toNat (Wrd.mk R41)).set c.toNat (Wrd.mk (IntKind.u32.wrap (E46.v + E48.v)))))]) [0] (math_bits_RotateLeft32_con (ixor .u32 E52.v E54.v) (7 : Int)  R56 H57) kc44 rfl rfl trivial) rfl rfl rfl rfl (fun _ => rfl) (fun _ => ?_)
                      refine TA.one 15 (by kernel_rfl) ?_
                      refine TX.y (listed' := #[true, true, true, true, true, true, true, true, true, true, true, true, true, true, true, true, false]) [] rfl (Y.index_arr (α := Wrd) ka48 (Can.own 0 rfl) H53 rfl rfl) rfl rfl rfl rfl rfl ?_
                      refine TA.one 16 (by kernel_rfl) ?_
                      refine TX.ef0 (listed' := #[true, true, true, true, true, true, true, true, true, true, true, true, true, true, true, true, true]) [] rfl (Ef.store_el (us := [.int .u32 R56]) (is' := [.own (arrS B_w_ 16) (lc ((((((((w_.set a.toNat (Wrd.mk (IntKind.u32.wrap (E1.v + E3.v)))).set d.toNat (Wrd.mk R11)).set c.toNat (Wrd.mk (IntKind.u32.wrap (E16.v + E18.v)))).set b.toNat (Wrd.mk R26)).set a.toNat (Wrd.mk (IntKind.u32.wrap (E31.v + E33.v)))).set d.toNat (Wrd.mk R41)).set c.toNat (Wrd.mk (IntKind.u32.wrap (E46.v + E48.v)))).set b.toNat (Wrd.mk R56)))]) (Wrd.mk R56) 0 kk47 rfl rfl (idx_get H53).2.2 rfl rfl (Cel.plain rfl rfl) rfl rfl rfl rfl) rfl rfl rfl (fun _ => rfl) (fun _ => ?_)
                      refine TA.nil (by kernel_rfl) ?_
                      exact TE.jb_go () [0] trivial rfl
                · exact TE.leaf fun _ _ hf_ hs_ => ret_any (rs := []) (vs := []) (.inr rfl) rfl trivial hf_ hs_ ⟨(), rfl, hs_.pulls [0] rfl⟩

/-- loop.example/g00950/impl.ChaBlock -/
noncomputable def impl_ChaBlock (key : List UInt8) (counter : Int) (nonce : List UInt8) : Option (List UInt8) :=
  (impl_isCha key counter nonce).bind fun R1 =>
  if (!R1) = true then (some ([]))
  else ((impl_firstWords key counter nonce).bind fun R5 =>
  (lenIs 16 R5).bind fun E9 =>
  bindC (loopO (fun (S12 : Int × List Wrd) => if (decide (S12.1 < (10 : Int))) = true then (bindC (loopO (fun (S17 : Int × List Wrd) => if (decide (S17.1 < (4 : Int))) = true then ((impl_quarter S17.2 S17.1 (IntKind.i64.wrap ((4 : Int) + S17.1)) (IntKind.i64.wrap ((8 : Int) + S17.1)) (IntKind.i64.wrap ((12 : Int) + S17.1))).bind fun R22 =>
  some (.go (IntKind.i64.wrap (S17.1 + (1 : Int)), R22)))
  else (some (.done (.go S17.2))))
  ((0 : Int), S12.2))
  (fun (T19 : List Wrd) => bindC (loopO (fun (S25 : Int × List Wrd) => if (decide (S25.1 < (4 : Int))) = true then ((impl_quarter S25.2 S25.1 (IntKind.i64.wrap ((4 : Int) + (Int.tmod (IntKind.i64.wrap (S25.1 + (1 : Int))) (4 : Int)))) (IntKind.i64.wrap ((8 : Int) + (Int.tmod (IntKind.i64.wrap (S25.1 + (2 : Int))) (4 : Int)))) (IntKind.i64.wrap ((12 : Int) + (Int.tmod (IntKind.i64.wrap (S25.1 + (3 : Int))) (4 : Int))))).bind fun R30 =>
  some (.go (IntKind.i64.wrap (S25.1 + (1 : Int)), R30)))
  else (some (.done (.go S25.2))))
  ((0 : Int), T19))
  (fun (T27 : List Wrd) => some (.go (IntKind.i64.wrap (S12.1 + (1 : Int)), T27)))))
  else (some (.done (.go S12.2))))
  ((0 : Int), R5))
  (fun (T14 : List Wrd) => (mkLen 1 (64 : Int)).bind fun E34 =>
  bindC (loopO (fun (S36 : Int × List UInt8) => if (decide (S36.1 < (16 : Int))) = true then ((lenIs 16 T14).bind fun E41 =>
  (idx T14 S36.1).bind fun E43 =>
  (idx R5 S36.1).bind fun E45 =>
  (app 1 S36.2 ([toU8 (IntKind.u32.wrap (E43.v + E45.v)), toU8 (ishr .u32 (IntKind.u32.wrap (E43.v + E45.v)) (8 : Int)), toU8 (ishr .u32 (IntKind.u32.wrap (E43.v + E45.v)) (16 : Int)), toU8 (ishr .u32 (IntKind.u32.wrap (E43.v + E45.v)) (24 : Int))])).bind fun E49 =>
  some (.go (IntKind.i64.wrap (S36.1 + (1 : Int)), E49)))
  else (some (.done (.go S36.2))))
  ((0 : Int), ([] : List UInt8)))
  (fun (T38 : List UInt8) => some T38)))

theorem impl_ChaBlock_con (key : List UInt8) (counter : Int) (nonce : List UInt8)  (r : List UInt8) (hm : impl_ChaBlock key counter nonce = some r) :
    Con Try.prog 15 [strV key, .int .i64 counter, strV nonce] [] [] (fun _ : Unit => strV r) (fun _ => []) := by
  refine Con.intro (args := [strV key, .int .i64 counter, strV nonce]) (n := 85) (val := fun r (_ : Unit) => strV r) (post := fun _ _ => []) (m := impl_ChaBlock key counter nonce) Try.func15 rfl rfl rfl hm ?_
  intro w S _
  unfold impl_ChaBlock
  refine TW.seq ?_
  refine TW.region ?_
  refine TO.y (Y.assign rfl) rfl rfl rfl ?_
  refine TO.nil ?_
  refine TE.next ?_
  refine TW.seq ?_
  refine TW.seq ?_
  refine TW.region ?_
  refine TO.y (Y.move rfl) rfl rfl rfl ?_
  refine TO.y (Y.move rfl) rfl rfl rfl ?_
  refine TO.y (Y.move rfl) rfl rfl rfl ?_
  refine TO.bind fun R1 H2 => ?_
  refine TO.ef (Ef.call (rest := []) [] (impl_isCha_con key counter nonce  R1 H2) kc30 rfl rfl trivial) rfl rfl rfl (fun _ => ?_)
  refine TO.y (Y.not rfl) rfl rfl rfl ?_
  refine TO.nil ?_
  refine TE.next ?_
  refine TW.cond rfl (fun H4 => ?_) (fun H4 => ?_)
  · refine TW.seq ?_
    refine TW.region ?_
    refine TO.y (Y.assign rfl) rfl rfl rfl ?_
    refine TO.nil ?_
    refine TE.next ?_
    refine TW.ret ?_
    refine TE.then_ret ?_
    exact TE.leaf fun _ _ hf_ hs_ => ret_any (rs := [.tmp 6]) (vs := [strV ([])]) (.inl rfl) rfl ⟨rfl, trivial⟩ hf_ hs_ ⟨(), rfl, hs_.pulls [] rfl⟩
  · refine TW.skip ?_
    refine TE.next ?_
    refine TW.seq ?_
    refine TW.region ?_
    refine TO.y (Y.move rfl) rfl rfl rfl ?_
    refine TO.y (Y.move rfl) rfl rfl rfl ?_
    refine TO.y (Y.move rfl) rfl rfl rfl ?_
    refine TO.bind fun R5 H6 => ?_
    refine TO.ef (Ef.call (rest := []) [] (impl_firstWords_con key counter nonce  R5 H6) kc32 rfl rfl trivial) rfl rfl rfl (fun _ => ?_)
    refine TO.ef (Ef.allocArr (α := Wrd) (List.replicate 16 (Wrd.mk 0)) kz48 rfl (by decide)) rfl rfl rfl (fun B8 => ?_)
    refine TO.bind fun E9 H10 => ?_
    refine TO.ef0 (Ef.store_arr (α := Wrd) (is' := [.own (arrS B8 16) (lc R5)]) 0 kk48 rfl (by decide) (lenIs_eq H10) rfl rfl rfl rfl) rfl rfl (fun _ => ?_)
    refine TO.nil ?_
    refine TE.next ?_
    refine TW.seq ?_
    refine TW.region ?_
    refine TO.y (Y.load_arr (α := Wrd) kk48 rfl (by decide) (Can.own 0 rfl) rfl) rfl rfl rfl ?_
    refine TO.ef (Ef.allocArr (α := Wrd) (List.replicate 16 (Wrd.mk 0)) kz48 rfl (by decide)) rfl rfl rfl (fun B11 => ?_)
    refine TO.ef0 (Ef.store_arr (α := Wrd) (is' := [.own (arrS B11 16) (lc R5), .own (arrS B8 16) (lc R5)]) 0 kk48 rfl (by decide) (lenIs_eq H10) rfl rfl rfl rfl) rfl rfl (fun _ => ?_)
    refine TO.nil ?_
    refine TE.next ?_
    refine TW.seq ?_
    refine TW.seq ?_
    refine TW.region ?_
    refine TO.y (Y.move rfl) rfl rfl rfl ?_
    refine TO.nil ?_
    refine TE.next ?_
    refine TW.joinX (τ := List Wrd) (X := Unit) (fun _ _ => [(7, .pointer (some ⟨B8, 0, none⟩)), (8, .pointer (some ⟨B11, 0, none⟩))]) (fun T _ => [.own (arrS B8 16) (lc R5), .own (arrS B11 16) (lc T)]) ?_ (fun T14 X15 => ?_)
    · refine TW.block ?_
      refine TW.loopX (σ := Int × List Wrd) (X := Unit) (fun T _ => [(7, .pointer (some ⟨B8, 0, none⟩)), (8, .pointer (some ⟨B11, 0, none⟩)), (24, .int .i64 T.1)]) (fun T _ => [.own (arrS B8 16) (lc R5), .own (arrS B11 16) (lc T.2)]) () [1, 0] ⟨rfl, rfl, rfl, trivial⟩ rfl (fun S12 X13 => ?_)
      refine TW.seq ?_
      refine TW.region ?_
      refine TO.y (Y.lss rfl rfl) rfl rfl rfl ?_
      refine TO.nil ?_
      refine TE.next ?_
      refine TW.seq ?_
      refine TW.cond rfl (fun H16 => ?_) (fun H16 => ?_)
      · refine TW.skip ?_
        refine TE.next ?_
        refine TW.seq ?_
        refine TW.block ?_
        refine TW.seq ?_
        refine TW.seq ?_
        refine TW.region ?_
        refine TO.y (Y.move rfl) rfl rfl rfl ?_
        refine TO.nil ?_
        refine TE.next ?_
        refine TW.joinX (τ := List Wrd) (X := Unit) (fun _ _ => [(7, .pointer (some ⟨B8, 0, none⟩)), (8, .pointer (some ⟨B11, 0, none⟩)), (24, .int .i64 S12.1)]) (fun T _ => [.own (arrS B8 16) (lc R5), .own (arrS B11 16) (lc T)]) ?_ (fun T19 X20 => ?_)
        · refine TW.block ?_
          refine TW.loopX (σ := Int × List Wrd) (X := Unit) (fun T _ => [(7, .pointer (some ⟨B8, 0, none⟩)), (8, .pointer (some ⟨B11, 0, none⟩)), (24, .int .i64 S12.1), (26, .int .i64 T.1)]) (fun T _ => [.own (arrS B8 16) (lc R5), .own (arrS B11 16) (lc T.2)]) () [0, 0] ⟨rfl, rfl, rfl, rfl, trivial⟩ rfl (fun S17 X18 => ?_)
          refine TW.seq ?_
          refine TW.region ?_
          refine TO.y (Y.lss rfl rfl) rfl rfl rfl ?_
          refine TO.nil ?_
          refine TE.next ?_
          refine TW.seq ?_
          refine TW.cond rfl (fun H21 => ?_) (fun H21 => ?_)
          · refine TW.skip ?_
            refine TE.next ?_
            refine TW.seq ?_
            refine TW.block ?_
            refine TW.seq ?_
            refine TW.region ?_
            refine TO.y (Y.move rfl) rfl rfl rfl ?_
            refine TO.y (Y.assign rfl) rfl rfl rfl ?_
            refine TO.nil ?_
            refine TE.next ?_
            refine TW.region ?_
            refine TO.y (Y.move rfl) rfl rfl rfl ?_
            refine TO.y (Y.move rfl) rfl rfl rfl ?_
            refine TO.y (Y.add rfl rfl) rfl rfl rfl ?_
            refine TO.y (Y.move rfl) rfl rfl rfl ?_
            refine TO.y (Y.add rfl rfl) rfl rfl rfl ?_
            refine TO.y (Y.move rfl) rfl rfl rfl ?_
            refine TO.y (Y.add rfl rfl) rfl rfl rfl ?_
            refine TO.bind fun R22 H23 => ?_
            refine TO.ef (Ef.call (rest := [.own (arrS B8 16) (lc R5)]) [1, 0] (impl_quarter_con S17.2 S17.1 (IntKind.i64.wrap ((4 : Int) + S17.1)) (IntKind.i64.wrap ((8 : Int) + S17.1)) (IntKind.i64.wrap ((12 : Int) + S17.1)) B11 R22 H23) kc33 rfl rfl trivial) rfl rfl rfl (fun _ => ?_)
            refine TO.nil ?_
            refine TE.block_normal ?_
            refine TE.next ?_
            refine TW.region ?_
            refine TO.y (Y.add rfl rfl) rfl rfl rfl ?_
            refine TO.y (Y.move rfl) rfl rfl rfl ?_
            refine TO.nil ?_
            exact TE.lp_go () [1, 0] ⟨rfl, rfl, rfl, rfl, trivial⟩ rfl
          · refine TW.exit ?_
            refine TE.then_exit ?_
            refine TE.lp_exit ?_
            refine TE.block_exit ?_
            exact TE.jn_go () [0, 0] ⟨rfl, rfl, rfl, trivial⟩ rfl
        · refine TE.next ?_
          refine TW.seq ?_
          refine TW.region ?_
          refine TO.y (Y.move rfl) rfl rfl rfl ?_
          refine TO.nil ?_
          refine TE.next ?_
          refine TW.joinX (τ := List Wrd) (X := Unit) (fun _ _ => [(7, .pointer (some ⟨B8, 0, none⟩)), (8, .pointer (some ⟨B11, 0, none⟩)), (24, .int .i64 S12.1)]) (fun T _ => [.own (arrS B8 16) (lc R5), .own (arrS B11 16) (lc T)]) ?_ (fun T27 X28 => ?_)
          · refine TW.block ?_
            refine TW.loopX (σ := Int × List Wrd) (X := Unit) (fun T _ => [(7, .pointer (some ⟨B8, 0, none⟩)), (8, .pointer (some ⟨B11, 0, none⟩)), (24, .int .i64 S12.1), (38, .int .i64 T.1)]) (fun T _ => [.own (arrS B8 16) (lc R5), .own (arrS B11 16) (lc T.2)]) () [0, 0] ⟨rfl, rfl, rfl, rfl, trivial⟩ rfl (fun S25 X26 => ?_)
            refine TW.seq ?_
            refine TW.region ?_
            refine TO.y (Y.lss rfl rfl) rfl rfl rfl ?_
            refine TO.nil ?_
            refine TE.next ?_
            refine TW.seq ?_
            refine TW.cond rfl (fun H29 => ?_) (fun H29 => ?_)
            · refine TW.skip ?_
              refine TE.next ?_
              refine TW.seq ?_
              refine TW.block ?_
              refine TW.seq ?_
              refine TW.region ?_
              refine TO.y (Y.move rfl) rfl rfl rfl ?_
              refine TO.y (Y.assign rfl) rfl rfl rfl ?_
              refine TO.nil ?_
              refine TE.next ?_
              refine TW.region ?_
              refine TO.y (Y.move rfl) rfl rfl rfl ?_
              refine TO.y (Y.move rfl) rfl rfl rfl ?_
              refine TO.y (Y.add rfl rfl) rfl rfl rfl ?_
              refine TO.y (Y.rem (by decide) rfl rfl) rfl rfl rfl ?_
              refine TO.y (Y.add rfl rfl) rfl rfl rfl ?_
              refine TO.y (Y.move rfl) rfl rfl rfl ?_
              refine TO.y (Y.add rfl rfl) rfl rfl rfl ?_
              refine TO.y (Y.rem (by decide) rfl rfl) rfl rfl rfl ?_
              refine TO.y (Y.add rfl rfl) rfl rfl rfl ?_
              refine TO.y (Y.move rfl) rfl rfl rfl ?_
              refine TO.y (Y.add rfl rfl) rfl rfl rfl ?_
              refine TO.y (Y.rem (by decide) rfl rfl) rfl rfl rfl ?_
              refine TO.y (Y.add rfl rfl) rfl rfl rfl ?_
              refine TO.bind fun R30 H31 => ?_
              refine TO.ef (Ef.call (rest := [.own (arrS B8 16) (lc R5)]) [1, 0] (impl_quarter_con S25.2 S25.1 (IntKind.i64.wrap ((4 : Int) + (Int.tmod (IntKind.i64.wrap (S25.1 + (1 : Int))) (4 : Int)))) (IntKind.i64.wrap ((8 : Int) + (Int.tmod (IntKind.i64.wrap (S25.1 + (2 : Int))) (4 : Int)))) (IntKind.i64.wrap ((12 : Int) + (Int.tmod (IntKind.i64.wrap (S25.1 + (3 : Int))) (4 : Int)))) B11 R30 H31) kc33 rfl rfl trivial) rfl rfl rfl (fun _ => ?_)
              refine TO.nil ?_
              refine TE.block_normal ?_
              refine TE.next ?_
              refine TW.region ?_
              refine TO.y (Y.add rfl rfl) rfl rfl rfl ?_
              refine TO.y (Y.move rfl) rfl rfl rfl ?_
              refine TO.nil ?_
              exact TE.lp_go () [1, 0] ⟨rfl, rfl, rfl, rfl, trivial⟩ rfl
            · refine TW.exit ?_
              refine TE.then_exit ?_
              refine TE.lp_exit ?_
              refine TE.block_exit ?_
              exact TE.jn_go () [0, 0] ⟨rfl, rfl, rfl, trivial⟩ rfl
          · refine TE.block_normal ?_
            refine TE.next ?_
            refine TW.region ?_
            refine TO.y (Y.add rfl rfl) rfl rfl rfl ?_
            refine TO.y (Y.move rfl) rfl rfl rfl ?_
            refine TO.nil ?_
            exact TE.lp_go () [0, 0] ⟨rfl, rfl, rfl, trivial⟩ rfl
      · refine TW.exit ?_
        refine TE.then_exit ?_
        refine TE.lp_exit ?_
        refine TE.block_exit ?_
        exact TE.jn_go () [0, 0] ⟨rfl, rfl, trivial⟩ rfl
    · refine TE.next ?_
      refine TW.seq ?_
      refine TW.region ?_
      refine TO.bind fun E34 H35 => ?_
      refine TO.ef (Ef.make0 (α := UInt8) (z := (0 : UInt8)) H35 ke22 kz5 rfl rfl rfl rfl) rfl rfl rfl (fun V33 => ?_)
      refine TO.y (Y.assign rfl) rfl rfl rfl ?_
      refine TO.nil ?_
      refine TE.next ?_
      refine TW.seq ?_
      refine TW.seq ?_
      refine TW.region ?_
      refine TO.y (Y.load_arr (α := Wrd) kk48 rfl (by decide) (Can.own 2 rfl) rfl) rfl rfl rfl ?_
      refine TO.y (Y.move rfl) rfl rfl rfl ?_
      refine TO.nil ?_
      refine TE.next ?_
      refine TW.joinX (τ := List UInt8) (X := Value) (fun _ X => [(11, X)]) (fun T X => [.own X (lc T)]) ?_ (fun T38 X39 => ?_)
      · refine TW.block ?_
        refine TW.loopX (σ := Int × List UInt8) (X := Value) (fun T X => [(7, .pointer (some ⟨B8, 0, none⟩)), (11, X), (58, arrV T14), (59, .int .i64 T.1)]) (fun T X => [.own (arrS B8 16) (lc R5), .own X (lc T.2)]) V33 [1, 0] ⟨rfl, rfl, rfl, rfl, trivial⟩ rfl (fun S36 X37 => ?_)
        refine TW.seq ?_
        refine TW.region ?_
        refine TO.y (Y.lss rfl rfl) rfl rfl rfl ?_
        refine TO.nil ?_
        refine TE.next ?_
        refine TW.seq ?_
        refine TW.cond rfl (fun H40 => ?_) (fun H40 => ?_)
        · refine TW.skip ?_
          refine TE.next ?_
          refine TW.seq ?_
          refine TW.block ?_
          refine TW.seq ?_
          refine TW.region ?_
          refine TO.y (Y.move rfl) rfl rfl rfl ?_
          refine TO.bind fun E41 H42 => ?_
          refine TO.bind fun E43 H44 => ?_
          refine TO.y (Y.idx_arr ka48 kk47 (lenIs_eq H42) H44 rfl rfl) rfl rfl rfl ?_
          refine TO.y (Y.assign rfl) rfl rfl rfl ?_
          refine TO.y (Y.assign rfl) rfl rfl rfl ?_
          refine TO.nil ?_
          refine TE.next ?_
          refine TW.seq ?_
          refine TW.region ?_
          refine TO.y (Y.move rfl) rfl rfl rfl ?_
          refine TO.y (Y.move rfl) rfl rfl rfl ?_
          refine TO.bind fun E45 H46 => ?_
          refine TO.y (Y.index_arr (α := Wrd) ka48 (Can.own 0 rfl) H46 rfl rfl) rfl rfl rfl ?_
          refine TO.y (Y.load_el (us := [.int .u32 E45.v]) (u := .int .u32 E45.v) kk47 rfl (Can.own 0 rfl) (idx_get H46).2.2 rfl rfl rfl rfl rfl) rfl rfl rfl ?_
          refine TO.y (Y.add rfl rfl) rfl rfl rfl ?_
          refine TO.y (Y.assign rfl) rfl rfl rfl ?_
          refine TO.nil ?_
          refine TE.next ?_
          refine TW.region ?_
          refine TO.y (Y.move rfl) rfl rfl rfl ?_
          refine TO.y (Y.move rfl) rfl rfl rfl ?_
          refine TO.y (Y.conv8 ki47 ki5 rfl) rfl rfl rfl ?_
          refine TO.y (Y.move rfl) rfl rfl rfl ?_
          refine TO.y (Y.shr (by decide) rfl rfl) rfl rfl rfl ?_
          refine TO.y (Y.conv8 ki47 ki5 rfl) rfl rfl rfl ?_
          refine TO.y (Y.move rfl) rfl rfl rfl ?_
          refine TO.y (Y.shr (by decide) rfl rfl) rfl rfl rfl ?_
          refine TO.y (Y.conv8 ki47 ki5 rfl) rfl rfl rfl ?_
          refine TO.y (Y.move rfl) rfl rfl rfl ?_
          refine TO.y (Y.shr (by decide) rfl rfl) rfl rfl rfl ?_
          refine TO.y (Y.conv8 ki47 ki5 rfl) rfl rfl rfl ?_
          refine TO.ef (Ef.buildSlice (α := UInt8) (Vs := [.int .u8 (((toU8 (IntKind.u32.wrap (E43.v + E45.v))).toNat : Nat) : Int), .int .u8 (((toU8 (ishr .u32 (IntKind.u32.wrap (E43.v + E45.v)) (8 : Int))).toNat : Nat) : Int), .int .u8 (((toU8 (ishr .u32 (IntKind.u32.wrap (E43.v + E45.v)) (16 : Int))).toNat : Nat) : Int), .int .u8 (((toU8 (ishr .u32 (IntKind.u32.wrap (E43.v + E45.v)) (24 : Int))).toNat : Nat) : Int)]) [toU8 (IntKind.u32.wrap (E43.v + E45.v)), toU8 (ishr .u32 (IntKind.u32.wrap (E43.v + E45.v)) (8 : Int)), toU8 (ishr .u32 (IntKind.u32.wrap (E43.v + E45.v)) (16 : Int)), toU8 (ishr .u32 (IntKind.u32.wrap (E43.v + E45.v)) (24 : Int))] ke22 kz5 rfl rfl rfl rfl rfl) rfl rfl rfl (fun B47 => ?_)
          refine TO.bind fun E49 H50 => ?_
          refine TO.ef (Ef.append (α := UInt8) (is' := [.own (.slice (some ⟨B47, 0, none⟩) 4 4) (lc ([toU8 (IntKind.u32.wrap (E43.v + E45.v)), toU8 (ishr .u32 (IntKind.u32.wrap (E43.v + E45.v)) (8 : Int)), toU8 (ishr .u32 (IntKind.u32.wrap (E43.v + E45.v)) (16 : Int)), toU8 (ishr .u32 (IntKind.u32.wrap (E43.v + E45.v)) (24 : Int))])), .own (arrS B8 16) (lc R5)]) [2, 0, 0] H50 ke22 kz5 rfl rfl rfl rfl rfl (Can.own 0 rfl)) rfl rfl rfl (fun V48 => ?_)
          refine TO.y (Y.assign rfl) rfl rfl rfl ?_
          refine TO.nil ?_
          refine TE.block_normal ?_
          refine TE.next ?_
          refine TW.region ?_
          refine TO.y (Y.add rfl rfl) rfl rfl rfl ?_
          refine TO.y (Y.move rfl) rfl rfl rfl ?_
          refine TO.nil ?_
          exact TE.lp_go V48 [2, 0] ⟨rfl, rfl, rfl, rfl, trivial⟩ rfl
        · refine TW.exit ?_
          refine TE.then_exit ?_
          refine TE.lp_exit ?_
          refine TE.block_exit ?_
          exact TE.jn_go X37 [1] ⟨rfl, trivial⟩ rfl
      · refine TE.next ?_
        refine TW.seq ?_
        refine TW.region ?_
        refine TO.y (Y.move rfl) rfl rfl rfl ?_
        refine TO.y (Y.toStr ke22 ki5 ks9 (Can.own 0 rfl) rfl) rfl rfl rfl ?_
        refine TO.y (Y.assign rfl) rfl rfl rfl ?_
        refine TO.nil ?_
        refine TE.next ?_
        refine TW.ret ?_
        exact TE.leaf fun _ _ hf_ hs_ => ret_any (rs := [.tmp 6]) (vs := [strV T38]) (.inl rfl) rfl ⟨rfl, trivial⟩ hf_ hs_ ⟨(), rfl, hs_.pulls [] rfl⟩

/-- loop.example/g00950/impl.ChaStream -/
noncomputable def impl_ChaStream (key : List UInt8) (counter : Int) (nonce : List UInt8) (text : List UInt8) : Option (List UInt8) :=
  (impl_isCha key counter nonce).bind fun R1 =>
  if (!R1) = true then (some ([]))
  else ((byteRoom text).bind fun E6 =>
  (if (decide (IntKind.i64.wrap (Int.tdiv (IntKind.i64.wrap (((text.length : Nat) : Int) + (63 : Int))) (64 : Int)) > (0 : Int))) = true then (some (decide (IntKind.i64.wrap (IntKind.i64.wrap (counter + (IntKind.i64.wrap (Int.tdiv (IntKind.i64.wrap (((text.length : Nat) : Int) + (63 : Int))) (64 : Int)))) - (1 : Int)) > (4294967295 : Int))))
  else (some false)).bind (fun (T8 : Bool) =>
  if T8 = true then (some ([]))
  else (bindC (loopO (fun (S12 : Int × Int × List UInt8) => if (decide (S12.2.1 < ((S12.2.2.length : Nat) : Int))) = true then ((impl_ChaBlock key S12.1 nonce).bind fun R17 =>
  bindC (loopO (fun (S20 : Int × List UInt8) => (if (decide (S20.1 < (64 : Int))) = true then (some (decide (IntKind.i64.wrap (S12.2.1 + S20.1) < ((S20.2.length : Nat) : Int))))
  else (some false)).bind (fun (T24 : Bool) =>
  if T24 = true then ((sidx R17 S20.1).bind fun E28 =>
  (idx S20.2 (IntKind.i64.wrap (S12.2.1 + S20.1))).bind fun E30 =>
  some (.go (IntKind.i64.wrap (S20.1 + (1 : Int)), (S20.2.set ((IntKind.i64.wrap (S12.2.1 + S20.1)).toNat) (E30 ^^^ E28)))))
  else (some (.done (.go S20.2)))))
  ((0 : Int), S12.2.2))
  (fun (T22 : List UInt8) => some (.go (IntKind.i64.wrap (S12.1 + (1 : Int)), IntKind.i64.wrap (S12.2.1 + (64 : Int)), T22))))
  else (some (.done (.go S12.2.2))))
  (counter, (0 : Int), text))
  (fun (T14 : List UInt8) => some T14))))

theorem impl_ChaStream_con (key : List UInt8) (counter : Int) (nonce : List UInt8) (text : List UInt8)  (r : List UInt8) (hm : impl_ChaStream key counter nonce text = some r) :
    Con Try.prog 13 [strV key, .int .i64 counter, strV nonce, strV text] [] [] (fun _ : Unit => strV r) (fun _ => []) := by
  refine Con.intro (args := [strV key, .int .i64 counter, strV nonce, strV text]) (n := 71) (val := fun r (_ : Unit) => strV r) (post := fun _ _ => []) (m := impl_ChaStream key counter nonce text) Try.func13 rfl rfl rfl hm ?_
  intro w S _
  unfold impl_ChaStream
  refine TW.seq ?_
  refine TW.region ?_
  refine TO.y (Y.assign rfl) rfl rfl rfl ?_
  refine TO.nil ?_
  refine TE.next ?_
  refine TW.seq ?_
  refine TW.seq ?_
  refine TW.region ?_
  refine TO.y (Y.move rfl) rfl rfl rfl ?_
  refine TO.y (Y.move rfl) rfl rfl rfl ?_
  refine TO.y (Y.move rfl) rfl rfl rfl ?_
  refine TO.bind fun R1 H2 => ?_
  refine TO.ef (Ef.call (rest := []) [] (impl_isCha_con key counter nonce  R1 H2) kc30 rfl rfl trivial) rfl rfl rfl (fun _ => ?_)
  refine TO.y (Y.not rfl) rfl rfl rfl ?_
  refine TO.nil ?_
  refine TE.next ?_
  refine TW.cond rfl (fun H4 => ?_) (fun H4 => ?_)
  · refine TW.seq ?_
    refine TW.region ?_
    refine TO.y (Y.assign rfl) rfl rfl rfl ?_
    refine TO.nil ?_
    refine TE.next ?_
    refine TW.ret ?_
    refine TE.then_ret ?_
    exact TE.leaf fun _ _ hf_ hs_ => ret_any (rs := [.tmp 8]) (vs := [strV ([])]) (.inl rfl) rfl ⟨rfl, trivial⟩ hf_ hs_ ⟨(), rfl, hs_.pulls [] rfl⟩
  · refine TW.skip ?_
    refine TE.next ?_
    refine TW.seq ?_
    refine TW.region ?_
    refine TO.y (Y.move rfl) rfl rfl rfl ?_
    refine TO.bind fun E6 H7 => ?_
    refine TO.ef (Ef.toBytes H7 ks9 ke22 ki5 rfl) rfl rfl rfl (fun V5 => ?_)
    refine TO.y (Y.assign rfl) rfl rfl rfl ?_
    refine TO.nil ?_
    refine TE.next ?_
    refine TW.seq ?_
    refine TW.seq ?_
    refine TW.region ?_
    refine TO.y (Y.move rfl) rfl rfl rfl ?_
    refine TO.y (Y.len (l := text) ke22 (Can.frz 0 rfl) rfl) rfl rfl rfl ?_
    refine TO.y (Y.add rfl rfl) rfl rfl rfl ?_
    refine TO.y (Y.quo (by decide) rfl rfl) rfl rfl rfl ?_
    refine TO.y (Y.assign rfl) rfl rfl rfl ?_
    refine TO.nil ?_
    refine TE.next ?_
    refine TW.seq ?_
    refine TW.joinBX (τ := Bool) (X := Unit) (fun T _ => [(0, strV key), (1, .int .i64 counter), (2, strV nonce), (9, V5), (33, .bool T)]) (fun _ _ => [.frz V5 5 text]) ?_ (fun T8 X9 => ?_)
    · refine TW.region ?_
      refine TO.y (Y.move rfl) rfl rfl rfl ?_
      refine TO.y (Y.gtr rfl rfl) rfl rfl rfl ?_
      refine TO.y (Y.move rfl) rfl rfl rfl ?_
      refine TO.ite (b := decide (IntKind.i64.wrap (Int.tdiv (IntKind.i64.wrap (((text.length : Nat) : Int) + (63 : Int))) (64 : Int)) > (0 : Int))) (fun H10 => ?_) (fun H10 => ?_)
      · refine TO.y (Y.move rfl) (Gd.at 2 true 27 (decide (IntKind.i64.wrap (Int.tdiv (IntKind.i64.wrap (((text.length : Nat) : Int) + (63 : Int))) (64 : Int)) > (0 : Int))) rfl rfl rfl (beq_tt H10)) rfl rfl ?_
        refine TO.y (Y.move rfl) (Gd.at 2 true 27 (decide (IntKind.i64.wrap (Int.tdiv (IntKind.i64.wrap (((text.length : Nat) : Int) + (63 : Int))) (64 : Int)) > (0 : Int))) rfl rfl rfl (beq_tt H10)) rfl rfl ?_
        refine TO.y (Y.add rfl rfl) (Gd.at 2 true 27 (decide (IntKind.i64.wrap (Int.tdiv (IntKind.i64.wrap (((text.length : Nat) : Int) + (63 : Int))) (64 : Int)) > (0 : Int))) rfl rfl rfl (beq_tt H10)) rfl rfl ?_
        refine TO.y (Y.sub rfl rfl) (Gd.at 2 true 27 (decide (IntKind.i64.wrap (Int.tdiv (IntKind.i64.wrap (((text.length : Nat) : Int) + (63 : Int))) (64 : Int)) > (0 : Int))) rfl rfl rfl (beq_tt H10)) rfl rfl ?_
        refine TO.y (Y.gtr rfl rfl) (Gd.at 2 true 27 (decide (IntKind.i64.wrap (Int.tdiv (IntKind.i64.wrap (((text.length : Nat) : Int) + (63 : Int))) (64 : Int)) > (0 : Int))) rfl rfl rfl (beq_tt H10)) rfl rfl ?_
        refine TO.y (Y.pick_t H10 rfl rfl) rfl rfl rfl ?_
        refine TO.nil ?_
        exact TE.jb_go () [0] ⟨rfl, rfl, rfl, rfl, rfl, trivial⟩ rfl
      · refine TO.off (Gd.at 2 true 27 (decide (IntKind.i64.wrap (Int.tdiv (IntKind.i64.wrap (((text.length : Nat) : Int) + (63 : Int))) (64 : Int)) > (0 : Int))) rfl rfl rfl (beq_ft H10)) rfl rfl ?_
        refine TO.off (Gd.at 2 true 27 (decide (IntKind.i64.wrap (Int.tdiv (IntKind.i64.wrap (((text.length : Nat) : Int) + (63 : Int))) (64 : Int)) > (0 : Int))) rfl rfl rfl (beq_ft H10)) rfl rfl ?_
        refine TO.off (Gd.at 2 true 27 (decide (IntKind.i64.wrap (Int.tdiv (IntKind.i64.wrap (((text.length : Nat) : Int) + (63 : Int))) (64 : Int)) > (0 : Int))) rfl rfl rfl (beq_ft H10)) rfl rfl ?_
        refine TO.off (Gd.at 2 true 27 (decide (IntKind.i64.wrap (Int.tdiv (IntKind.i64.wrap (((text.length : Nat) : Int) + (63 : Int))) (64 : Int)) > (0 : Int))) rfl rfl rfl (beq_ft H10)) rfl rfl ?_
        refine TO.off (Gd.at 2 true 27 (decide (IntKind.i64.wrap (Int.tdiv (IntKind.i64.wrap (((text.length : Nat) : Int) + (63 : Int))) (64 : Int)) > (0 : Int))) rfl rfl rfl (beq_ft H10)) rfl rfl ?_
        refine TO.y (Y.pick_f H10 rfl rfl) rfl rfl rfl ?_
        refine TO.nil ?_
        exact TE.jb_go () [0] ⟨rfl, rfl, rfl, rfl, rfl, trivial⟩ rfl
    · refine TE.next ?_
      refine TW.cond rfl (fun H11 => ?_) (fun H11 => ?_)
      · refine TW.seq ?_
        refine TW.region ?_
        refine TO.y (Y.assign rfl) rfl rfl rfl ?_
        refine TO.nil ?_
        refine TE.next ?_
        refine TW.ret ?_
        refine TE.then_ret ?_
        exact TE.leaf fun _ _ hf_ hs_ => ret_any (rs := [.tmp 8]) (vs := [strV ([])]) (.inl rfl) rfl ⟨rfl, trivial⟩ hf_ hs_ ⟨(), rfl, hs_.pulls [] rfl⟩
      · refine TW.skip ?_
        refine TE.next ?_
        refine TW.seq ?_
        refine TW.seq ?_
        refine TW.region ?_
        refine TO.y (Y.assign rfl) rfl rfl rfl ?_
        refine TO.nil ?_
        refine TE.next ?_
        refine TW.joinX (τ := List UInt8) (X := Unit) (fun _ _ => [(9, V5)]) (fun T _ => [.frz V5 5 T]) ?_ (fun T14 X15 => ?_)
        · refine TW.block ?_
          refine TW.loopX (σ := Int × Int × List UInt8) (X := Unit) (fun T _ => [(0, strV key), (1, .int .i64 T.1), (2, strV nonce), (9, V5), (11, .int .i64 T.2.1)]) (fun T _ => [.frz V5 5 T.2.2]) () [0] ⟨rfl, rfl, rfl, rfl, rfl, trivial⟩ rfl (fun S12 X13 => ?_)
          refine TW.seq ?_
          refine TW.seq ?_
          refine TW.region ?_
          refine TO.y (Y.move rfl) rfl rfl rfl ?_
          refine TO.y (Y.move rfl) rfl rfl rfl ?_
          refine TO.y (Y.len (l := S12.2.2) ke22 (Can.frz 0 rfl) rfl) rfl rfl rfl ?_
          refine TO.y (Y.lss rfl rfl) rfl rfl rfl ?_
          refine TO.nil ?_
          refine TE.next ?_
          refine TW.cond rfl (fun H16 => ?_) (fun H16 => ?_)
          · refine TW.skip ?_
            refine TE.next ?_
            refine TW.seq ?_
            refine TW.block ?_
            refine TW.seq ?_
            refine TW.region ?_
            refine TO.y (Y.move rfl) rfl rfl rfl ?_
            refine TO.y (Y.move rfl) rfl rfl rfl ?_
            refine TO.y (Y.move rfl) rfl rfl rfl ?_
            refine TO.bind fun R17 H18 => ?_
            refine TO.ef (Ef.call (rest := [.frz V5 5 S12.2.2]) [0] (impl_ChaBlock_con key S12.1 nonce  R17 H18) kc15 rfl rfl trivial) rfl rfl rfl (fun _ => ?_)
            refine TO.y (Y.assign rfl) rfl rfl rfl ?_
            refine TO.nil ?_
            refine TE.next ?_
            refine TW.seq ?_
            refine TW.region ?_
            refine TO.y (Y.move rfl) rfl rfl rfl ?_
            refine TO.y (Y.add rfl rfl) rfl rfl rfl ?_
            refine TO.y (Y.assign rfl) rfl rfl rfl ?_
            refine TO.nil ?_
            refine TE.next ?_
            refine TW.seq ?_
            refine TW.region ?_
            refine TO.y (Y.assign rfl) rfl rfl rfl ?_
            refine TO.nil ?_
            refine TE.next ?_
            refine TW.joinX (τ := List UInt8) (X := Unit) (fun _ _ => [(0, strV key), (1, .int .i64 (IntKind.i64.wrap (S12.1 + (1 : Int)))), (2, strV nonce), (9, V5), (11, .int .i64 S12.2.1)]) (fun T _ => [.frz V5 5 T]) ?_ (fun T22 X23 => ?_)
            · refine TW.block ?_
              refine TW.loopX (σ := Int × List UInt8) (X := Unit) (fun T _ => [(0, strV key), (1, .int .i64 (IntKind.i64.wrap (S12.1 + (1 : Int)))), (2, strV nonce), (9, V5), (11, .int .i64 S12.2.1), (12, strV R17), (13, .int .i64 T.1)]) (fun T _ => [.frz V5 5 T.2]) () [0] ⟨rfl, rfl, rfl, rfl, rfl, rfl, rfl, trivial⟩ rfl (fun S20 X21 => ?_)
              refine TW.seq ?_
              refine TW.seq ?_
              refine TW.joinBX (τ := Bool) (X := Unit) (fun T _ => [(0, strV key), (1, .int .i64 (IntKind.i64.wrap (S12.1 + (1 : Int)))), (2, strV nonce), (9, V5), (11, .int .i64 S12.2.1), (12, strV R17), (13, .int .i64 S20.1), (55, .bool T)]) (fun _ _ => [.frz V5 5 S20.2]) ?_ (fun T24 X25 => ?_)
              · refine TW.region ?_
                refine TO.y (Y.move rfl) rfl rfl rfl ?_
                refine TO.y (Y.lss rfl rfl) rfl rfl rfl ?_
                refine TO.y (Y.move rfl) rfl rfl rfl ?_
                refine TO.ite (b := decide (S20.1 < (64 : Int))) (fun H26 => ?_) (fun H26 => ?_)
                · refine TO.y (Y.move rfl) (Gd.at 2 true 48 (decide (S20.1 < (64 : Int))) rfl rfl rfl (beq_tt H26)) rfl rfl ?_
                  refine TO.y (Y.move rfl) (Gd.at 2 true 48 (decide (S20.1 < (64 : Int))) rfl rfl rfl (beq_tt H26)) rfl rfl ?_
                  refine TO.y (Y.add rfl rfl) (Gd.at 2 true 48 (decide (S20.1 < (64 : Int))) rfl rfl rfl (beq_tt H26)) rfl rfl ?_
                  refine TO.y (Y.move rfl) (Gd.at 2 true 48 (decide (S20.1 < (64 : Int))) rfl rfl rfl (beq_tt H26)) rfl rfl ?_
                  refine TO.y (Y.len (l := S20.2) ke22 (Can.frz 0 rfl) rfl) (Gd.at 2 true 48 (decide (S20.1 < (64 : Int))) rfl rfl rfl (beq_tt H26)) rfl rfl ?_
                  refine TO.y (Y.lss rfl rfl) (Gd.at 2 true 48 (decide (S20.1 < (64 : Int))) rfl rfl rfl (beq_tt H26)) rfl rfl ?_
                  refine TO.y (Y.pick_t H26 rfl rfl) rfl rfl rfl ?_
                  refine TO.nil ?_
                  exact TE.jb_go () [0] ⟨rfl, rfl, rfl, rfl, rfl, rfl, rfl, rfl, trivial⟩ rfl
                · refine TO.off (Gd.at 2 true 48 (decide (S20.1 < (64 : Int))) rfl rfl rfl (beq_ft H26)) rfl rfl ?_
                  refine TO.off (Gd.at 2 true 48 (decide (S20.1 < (64 : Int))) rfl rfl rfl (beq_ft H26)) rfl rfl ?_
                  refine TO.off (Gd.at 2 true 48 (decide (S20.1 < (64 : Int))) rfl rfl rfl (beq_ft H26)) rfl rfl ?_
                  refine TO.off (Gd.at 2 true 48 (decide (S20.1 < (64 : Int))) rfl rfl rfl (beq_ft H26)) rfl rfl ?_
                  refine TO.off (Gd.at 2 true 48 (decide (S20.1 < (64 : Int))) rfl rfl rfl (beq_ft H26)) rfl rfl ?_
                  refine TO.off (Gd.at 2 true 48 (decide (S20.1 < (64 : Int))) rfl rfl rfl (beq_ft H26)) rfl rfl ?_
                  refine TO.y (Y.pick_f H26 rfl rfl) rfl rfl rfl ?_
                  refine TO.nil ?_
                  exact TE.jb_go () [0] ⟨rfl, rfl, rfl, rfl, rfl, rfl, rfl, rfl, trivial⟩ rfl
              · refine TE.next ?_
                refine TW.cond rfl (fun H27 => ?_) (fun H27 => ?_)
                · refine TW.skip ?_
                  refine TE.next ?_
                  refine TW.seq ?_
                  refine TW.block ?_
                  refine TW.draw (isH := []) hMix ?_
                  refine TA.y (listed' := #[true, false, false, false, false, false, false, false, false, false, false, false]) 0 [] rfl (Y.move rfl) rfl rfl rfl (by kernel_rfl) (by kernel_rfl) (by kernel_rfl) rfl rfl ?_
                  refine TA.y (listed' := #[true, true, false, false, false, false, false, false, false, false, false, false]) 1 [] rfl (Y.move rfl) rfl rfl rfl (by kernel_rfl) (by kernel_rfl) (by kernel_rfl) rfl rfl ?_
                  refine TA.y (listed' := #[true, true, true, false, false, false, false, false, false, false, false, false]) 2 [] rfl (Y.move rfl) rfl rfl rfl (by kernel_rfl) (by kernel_rfl) (by kernel_rfl) rfl rfl ?_
                  refine TA.y (listed' := #[true, true, true, true, false, false, false, false, false, false, false, false]) 3 [] rfl (Y.add rfl rfl) rfl rfl rfl (by kernel_rfl) (by kernel_rfl) (by kernel_rfl) rfl rfl ?_
                  refine TA.y (listed' := #[true, true, true, true, false, false, true, false, false, false, false, false]) 6 [] rfl (Y.move rfl) rfl rfl rfl (by kernel_rfl) (by kernel_rfl) (by kernel_rfl) rfl rfl ?_
                  refine TA.y (listed' := #[true, true, true, true, false, false, true, true, false, false, false, false]) 7 [] rfl (Y.move rfl) rfl rfl rfl (by kernel_rfl) (by kernel_rfl) (by kernel_rfl) rfl rfl ?_
                  refine TA.bind fun E28 H29 => ?_
                  refine TA.y (listed' := #[true, true, true, true, false, false, true, true, true, false, false, false]) 8 [] rfl (Y.sidx H29 ks9 rfl rfl) rfl rfl rfl (by kernel_rfl) (by kernel_rfl) (by kernel_rfl) rfl rfl ?_
                  refine TA.bind fun E30 H31 => ?_
                  refine TA.one 4 (by kernel_rfl) ?_
                  refine TX.y (listed' := #[true, true, true, true, true, false, true, true, true, false, false, false]) [] rfl (Y.index ke22 (Can.frz 0 rfl) H31 rfl rfl) rfl rfl rfl rfl rfl ?_
                  refine TA.one 5 (by kernel_rfl) ?_
                  refine TX.y (listed' := #[true, true, true, true, true, true, true, true, true, false, false, false]) [] rfl (Y.load_el (us := [.int .u8 ((E30.toNat : Nat) : Int)]) (u := .int .u8 ((E30.toNat : Nat) : Int)) kk5 rfl (Can.frz 0 rfl) (idx_get H31).2.2 rfl rfl rfl rfl rfl) rfl rfl rfl rfl rfl ?_
                  refine TA.y (listed' := #[true, true, true, true, true, true, true, true, true, true, false, false]) 9 [] rfl (Y.xor8 rfl rfl) rfl rfl rfl (by kernel_rfl) (by kernel_rfl) (by kernel_rfl) rfl rfl ?_
                  refine TA.one 10 (by kernel_rfl) ?_
                  refine TX.y (listed' := #[true, true, true, true, true, true, true, true, true, true, true, false]) [] rfl (Y.index ke22 (Can.frz 0 rfl) H31 rfl rfl) rfl rfl rfl rfl rfl ?_
                  refine TA.one 11 (by kernel_rfl) ?_
                  refine TX.ef0 (listed' := #[true, true, true, true, true, true, true, true, true, true, true, true]) [] rfl (Ef.store_frz (is' := [.frz V5 5 (S20.2.set ((IntKind.i64.wrap (S12.2.1 + S20.1)).toNat) (E30 ^^^ E28))]) (E30 ^^^ E28) 0 kk5 rfl (idx_get H31).2.2 rfl rfl rfl rfl rfl) rfl rfl rfl (fun _ => rfl) (fun _ => ?_)
                  refine TA.nil (by kernel_rfl) ?_
                  refine TE.block_normal ?_
                  refine TE.next ?_
                  refine TW.region ?_
                  refine TO.y (Y.move rfl) rfl rfl rfl ?_
                  refine TO.y (Y.add rfl rfl) rfl rfl rfl ?_
                  refine TO.y (Y.assign rfl) rfl rfl rfl ?_
                  refine TO.nil ?_
                  exact TE.lp_go () [0] ⟨rfl, rfl, rfl, rfl, rfl, rfl, rfl, trivial⟩ rfl
                · refine TW.exit ?_
                  refine TE.then_exit ?_
                  refine TE.lp_exit ?_
                  refine TE.block_exit ?_
                  exact TE.jn_go () [0] ⟨rfl, rfl, rfl, rfl, rfl, trivial⟩ rfl
            · refine TE.block_normal ?_
              refine TE.next ?_
              refine TW.region ?_
              refine TO.y (Y.move rfl) rfl rfl rfl ?_
              refine TO.y (Y.add rfl rfl) rfl rfl rfl ?_
              refine TO.y (Y.assign rfl) rfl rfl rfl ?_
              refine TO.nil ?_
              exact TE.lp_go () [0] ⟨rfl, rfl, rfl, rfl, rfl, trivial⟩ rfl
          · refine TW.exit ?_
            refine TE.then_exit ?_
            refine TE.lp_exit ?_
            refine TE.block_exit ?_
            exact TE.jn_go () [0] ⟨rfl, trivial⟩ rfl
        · refine TE.next ?_
          refine TW.seq ?_
          refine TW.region ?_
          refine TO.y (Y.move rfl) rfl rfl rfl ?_
          refine TO.y (Y.toStr ke22 ki5 ks9 (Can.frz 0 rfl) rfl) rfl rfl rfl ?_
          refine TO.y (Y.assign rfl) rfl rfl rfl ?_
          refine TO.nil ?_
          refine TE.next ?_
          refine TW.ret ?_
          exact TE.leaf fun _ _ hf_ hs_ => ret_any (rs := [.tmp 8]) (vs := [strV T14]) (.inl rfl) rfl ⟨rfl, trivial⟩ hf_ hs_ ⟨(), rfl, hs_.pulls [] rfl⟩

/-- loop.example/g00950/spec.l3Little -/
noncomputable def spec_l3Little (s : List UInt8) (at_ : Int) : Option Int :=
  (sidx s at_).bind fun E1 =>
  (sidx s (IntKind.i64.wrap (at_ + (1 : Int)))).bind fun E3 =>
  (sidx s (IntKind.i64.wrap (at_ + (2 : Int)))).bind fun E5 =>
  (sidx s (IntKind.i64.wrap (at_ + (3 : Int)))).bind fun E7 =>
  some (ior .i64 (ior .i64 (ior .i64 (IntKind.i64.wrap ((E1.toNat : Nat) : Int)) (ishl .i64 (IntKind.i64.wrap ((E3.toNat : Nat) : Int)) (8 : Int))) (ishl .i64 (IntKind.i64.wrap ((E5.toNat : Nat) : Int)) (16 : Int))) (ishl .i64 (IntKind.i64.wrap ((E7.toNat : Nat) : Int)) (24 : Int)))

theorem spec_l3Little_con (s : List UInt8) (at_ : Int)  (r : Int) (hm : spec_l3Little s at_ = some r) :
    Con Try.prog 45 [strV s, .int .i64 at_] [] [] (fun _ : Unit => .int .i64 r) (fun _ => []) := by
  refine Con.intro (args := [strV s, .int .i64 at_]) (n := 30) (val := fun r (_ : Unit) => .int .i64 r) (post := fun _ _ => []) (m := spec_l3Little s at_) Try.func45 rfl rfl rfl hm ?_
  intro w S _
  unfold spec_l3Little
  refine TW.seq ?_
  refine TW.region ?_
  refine TO.y (Y.assign rfl) rfl rfl rfl ?_
  refine TO.nil ?_
  refine TE.next ?_
  refine TW.seq ?_
  refine TW.draw (isH := []) hMix ?_
  refine TA.y (listed' := #[true, false, false, false, false, false, false, false, false, false, false, false, false, false, false, false, false, false, false, false, false, false, false, false, false, false]) 0 [] rfl (Y.move rfl) rfl rfl rfl (by kernel_rfl) (by kernel_rfl) (by kernel_rfl) rfl rfl ?_
  refine TA.y (listed' := #[true, true, false, false, false, false, false, false, false, false, false, false, false, false, false, false, false, false, false, false, false, false, false, false, false, false]) 1 [] rfl (Y.move rfl) rfl rfl rfl (by kernel_rfl) (by kernel_rfl) (by kernel_rfl) rfl rfl ?_
  refine TA.bind fun E1 H2 => ?_
  refine TA.y (listed' := #[true, true, true, false, false, false, false, false, false, false, false, false, false, false, false, false, false, false, false, false, false, false, false, false, false, false]) 2 [] rfl (Y.sidx H2 ks9 rfl rfl) rfl rfl rfl (by kernel_rfl) (by kernel_rfl) (by kernel_rfl) rfl rfl ?_
  refine TA.y (listed' := #[true, true, true, true, false, false, false, false, false, false, false, false, false, false, false, false, false, false, false, false, false, false, false, false, false, false]) 3 [] rfl (Y.conv ki5 ki3 rfl) rfl rfl rfl (by kernel_rfl) (by kernel_rfl) (by kernel_rfl) rfl rfl ?_
  refine TA.y (listed' := #[true, true, true, true, true, false, false, false, false, false, false, false, false, false, false, false, false, false, false, false, false, false, false, false, false, false]) 4 [] rfl (Y.move rfl) rfl rfl rfl (by kernel_rfl) (by kernel_rfl) (by kernel_rfl) rfl rfl ?_
  refine TA.y (listed' := #[true, true, true, true, true, true, false, false, false, false, false, false, false, false, false, false, false, false, false, false, false, false, false, false, false, false]) 5 [] rfl (Y.move rfl) rfl rfl rfl (by kernel_rfl) (by kernel_rfl) (by kernel_rfl) rfl rfl ?_
  refine TA.y (listed' := #[true, true, true, true, true, true, true, false, false, false, false, false, false, false, false, false, false, false, false, false, false, false, false, false, false, false]) 6 [] rfl (Y.add rfl rfl) rfl rfl rfl (by kernel_rfl) (by kernel_rfl) (by kernel_rfl) rfl rfl ?_
  refine TA.bind fun E3 H4 => ?_
  refine TA.y (listed' := #[true, true, true, true, true, true, true, true, false, false, false, false, false, false, false, false, false, false, false, false, false, false, false, false, false, false]) 7 [] rfl (Y.sidx H4 ks9 rfl rfl) rfl rfl rfl (by kernel_rfl) (by kernel_rfl) (by kernel_rfl) rfl rfl ?_
  refine TA.y (listed' := #[true, true, true, true, true, true, true, true, true, false, false, false, false, false, false, false, false, false, false, false, false, false, false, false, false, false]) 8 [] rfl (Y.conv ki5 ki3 rfl) rfl rfl rfl (by kernel_rfl) (by kernel_rfl) (by kernel_rfl) rfl rfl ?_
  refine TA.y (listed' := #[true, true, true, true, true, true, true, true, true, true, false, false, false, false, false, false, false, false, false, false, false, false, false, false, false, false]) 9 [] rfl (Y.shl (by decide) rfl rfl) rfl rfl rfl (by kernel_rfl) (by kernel_rfl) (by kernel_rfl) rfl rfl ?_
  refine TA.y (listed' := #[true, true, true, true, true, true, true, true, true, true, true, false, false, false, false, false, false, false, false, false, false, false, false, false, false, false]) 10 [] rfl (Y.or rfl rfl) rfl rfl rfl (by kernel_rfl) (by kernel_rfl) (by kernel_rfl) rfl rfl ?_
  refine TA.y (listed' := #[true, true, true, true, true, true, true, true, true, true, true, true, false, false, false, false, false, false, false, false, false, false, false, false, false, false]) 11 [] rfl (Y.move rfl) rfl rfl rfl (by kernel_rfl) (by kernel_rfl) (by kernel_rfl) rfl rfl ?_
  refine TA.y (listed' := #[true, true, true, true, true, true, true, true, true, true, true, true, true, false, false, false, false, false, false, false, false, false, false, false, false, false]) 12 [] rfl (Y.move rfl) rfl rfl rfl (by kernel_rfl) (by kernel_rfl) (by kernel_rfl) rfl rfl ?_
  refine TA.y (listed' := #[true, true, true, true, true, true, true, true, true, true, true, true, true, true, false, false, false, false, false, false, false, false, false, false, false, false]) 13 [] rfl (Y.add rfl rfl) rfl rfl rfl (by kernel_rfl) (by kernel_rfl) (by kernel_rfl) rfl rfl ?_
  refine TA.bind fun E5 H6 => ?_
  refine TA.y (listed' := #[true, true, true, true, true, true, true, true, true, true, true, true, true, true, true, false, false, false, false, false, false, false, false, false, false, false]) 14 [] rfl (Y.sidx H6 ks9 rfl rfl) rfl rfl rfl (by kernel_rfl) (by kernel_rfl) (by kernel_rfl) rfl rfl ?_
  refine TA.y (listed' := #[true, true, true, true, true, true, true, true, true, true, true, true, true, true, true, true, false, false, false, false, false, false, false, false, false, false]) 15 [] rfl (Y.conv ki5 ki3 rfl) rfl rfl rfl (by kernel_rfl) (by kernel_rfl) (by kernel_rfl) rfl rfl ?_
  refine TA.y (listed' := #[true, true, true, true, true, true, true, true, true, true, true, true, true, true, true, true, true, false, false, false, false, false, false, false, false, false]) 16 [] rfl (Y.shl (by decide) rfl rfl) rfl rfl rfl (by kernel_rfl) (by kernel_rfl) (by kernel_rfl) rfl rfl ?_
  refine TA.y (listed' := #[true, true, true, true, true, true, true, true, true, true, true, true, true, true, true, true, true, true, false, false, false, false, false, false, false, false]) 17 [] rfl (Y.or rfl rfl) rfl rfl rfl (by kernel_rfl) (by kernel_rfl) (by kernel_rfl) rfl rfl ?_
  refine TA.y (listed' := #[true, true, true, true, true, true, true, true, true, true, true, true, true, true, true, true, true, true, true, false, false, false, false, false, false, false]) 18 [] rfl (Y.move rfl) rfl rfl rfl (by kernel_rfl) (by kernel_rfl) (by kernel_rfl) rfl rfl ?_
  refine TA.y (listed' := #[true, true, true, true, true, true, true, true, true, true, true, true, true, true, true, true, true, true, true, true, false, false, false, false, false, false]) 19 [] rfl (Y.move rfl) rfl rfl rfl (by kernel_rfl) (by kernel_rfl) (by kernel_rfl) rfl rfl ?_
  refine TA.y (listed' := #[true, true, true, true, true, true, true, true, true, true, true, true, true, true, true, true, true, true, true, true, true, false, false, false, false, false]) 20 [] rfl (Y.add rfl rfl) rfl rfl rfl (by kernel_rfl) (by kernel_rfl) (by kernel_rfl) rfl rfl ?_
  refine TA.bind fun E7 H8 => ?_
  refine TA.y (listed' := #[true, true, true, true, true, true, true, true, true, true, true, true, true, true, true, true, true, true, true, true, true, true, false, false, false, false]) 21 [] rfl (Y.sidx H8 ks9 rfl rfl) rfl rfl rfl (by kernel_rfl) (by kernel_rfl) (by kernel_rfl) rfl rfl ?_
  refine TA.y (listed' := #[true, true, true, true, true, true, true, true, true, true, true, true, true, true, true, true, true, true, true, true, true, true, true, false, false, false]) 22 [] rfl (Y.conv ki5 ki3 rfl) rfl rfl rfl (by kernel_rfl) (by kernel_rfl) (by kernel_rfl) rfl rfl ?_
  refine TA.y (listed' := #[true, true, true, true, true, true, true, true, true, true, true, true, true, true, true, true, true, true, true, true, true, true, true, true, false, false]) 23 [] rfl (Y.shl (by decide) rfl rfl) rfl rfl rfl (by kernel_rfl) (by kernel_rfl) (by kernel_rfl) rfl rfl ?_
  refine TA.y (listed' := #[true, true, true, true, true, true, true, true, true, true, true, true, true, true, true, true, true, true, true, true, true, true, true, true, true, false]) 24 [] rfl (Y.or rfl rfl) rfl rfl rfl (by kernel_rfl) (by kernel_rfl) (by kernel_rfl) rfl rfl ?_
  refine TA.y (listed' := #[true, true, true, true, true, true, true, true, true, true, true, true, true, true, true, true, true, true, true, true, true, true, true, true, true, true]) 25 [] rfl (Y.assign rfl) rfl rfl rfl (by kernel_rfl) (by kernel_rfl) (by kernel_rfl) rfl rfl ?_
  refine TA.nil (by kernel_rfl) ?_
  refine TE.next ?_
  refine TW.ret ?_
  exact TE.leaf fun _ _ hf_ hs_ => ret_any (rs := [.tmp 4]) (vs := [.int .i64 (ior .i64 (ior .i64 (ior .i64 (IntKind.i64.wrap ((E1.toNat : Nat) : Int)) (ishl .i64 (IntKind.i64.wrap ((E3.toNat : Nat) : Int)) (8 : Int))) (ishl .i64 (IntKind.i64.wrap ((E5.toNat : Nat) : Int)) (16 : Int))) (ishl .i64 (IntKind.i64.wrap ((E7.toNat : Nat) : Int)) (24 : Int)))]) (.inl rfl) rfl ⟨rfl, trivial⟩ hf_ hs_ ⟨(), rfl, hs_.pulls [] rfl⟩

/-- loop.example/g00950/spec.l3Word -/
noncomputable def spec_l3Word (x : Int) : Option Int :=
  some (iand .i64 x (4294967295 : Int))

theorem spec_l3Word_con (x : Int)  (r : Int) (hm : spec_l3Word x = some r) :
    Con Try.prog 47 [.int .i64 x] [] [] (fun _ : Unit => .int .i64 r) (fun _ => []) := by
  refine Con.intro (args := [.int .i64 x]) (n := 5) (val := fun r (_ : Unit) => .int .i64 r) (post := fun _ _ => []) (m := spec_l3Word x) Try.func47 rfl rfl rfl hm ?_
  intro w S _
  unfold spec_l3Word
  refine TW.seq ?_
  refine TW.region ?_
  refine TO.y (Y.assign rfl) rfl rfl rfl ?_
  refine TO.nil ?_
  refine TE.next ?_
  refine TW.seq ?_
  refine TW.region ?_
  refine TO.y (Y.move rfl) rfl rfl rfl ?_
  refine TO.y (Y.and rfl rfl) rfl rfl rfl ?_
  refine TO.y (Y.assign rfl) rfl rfl rfl ?_
  refine TO.nil ?_
  refine TE.next ?_
  refine TW.ret ?_
  exact TE.leaf fun _ _ hf_ hs_ => ret_any (rs := [.tmp 2]) (vs := [.int .i64 (iand .i64 x (4294967295 : Int))]) (.inl rfl) rfl ⟨rfl, trivial⟩ hf_ hs_ ⟨(), rfl, hs_.pulls [] rfl⟩

/-- loop.example/g00950/spec.l3Left -/
noncomputable def spec_l3Left (x : Int) (n : Int) : Option Int :=
  (nn n).bind fun E1 =>
  (spec_l3Word (ior .i64 (ishl .i64 x n) (ishr .i64 x (IntKind.u64.wrap ((32 : Int) - n))))).bind fun R3 =>
  some R3

theorem spec_l3Left_con (x : Int) (n : Int)  (r : Int) (hm : spec_l3Left x n = some r) :
    Con Try.prog 48 [.int .i64 x, .int .u64 n] [] [] (fun _ : Unit => .int .i64 r) (fun _ => []) := by
  refine Con.intro (args := [.int .i64 x, .int .u64 n]) (n := 14) (val := fun r (_ : Unit) => .int .i64 r) (post := fun _ _ => []) (m := spec_l3Left x n) Try.func48 rfl rfl rfl hm ?_
  intro w S _
  unfold spec_l3Left
  refine TW.seq ?_
  refine TW.region ?_
  refine TO.y (Y.assign rfl) rfl rfl rfl ?_
  refine TO.nil ?_
  refine TE.next ?_
  refine TW.seq ?_
  refine TW.region ?_
  refine TO.y (Y.move rfl) rfl rfl rfl ?_
  refine TO.y (Y.move rfl) rfl rfl rfl ?_
  refine TO.bind fun E1 H2 => ?_
  refine TO.y (Y.shl (nn_ge H2) rfl rfl) rfl rfl rfl ?_
  refine TO.y (Y.move rfl) rfl rfl rfl ?_
  refine TO.y (Y.move rfl) rfl rfl rfl ?_
  refine TO.y (Y.sub rfl rfl) rfl rfl rfl ?_
  refine TO.y (Y.shr (wrap_u_nonneg rfl _) rfl rfl) rfl rfl rfl ?_
  refine TO.y (Y.or rfl rfl) rfl rfl rfl ?_
  refine TO.bind fun R3 H4 => ?_
  refine TO.ef (Ef.call (rest := []) [] (spec_l3Word_con (ior .i64 (ishl .i64 x n) (ishr .i64 x (IntKind.u64.wrap ((32 : Int) - n))))  R3 H4) kc47 rfl rfl trivial) rfl rfl rfl (fun _ => ?_)
  refine TO.y (Y.assign rfl) rfl rfl rfl ?_
  refine TO.nil ?_
  refine TE.next ?_
  refine TW.ret ?_
  exact TE.leaf fun _ _ hf_ hs_ => ret_any (rs := [.tmp 4]) (vs := [.int .i64 R3]) (.inl rfl) rfl ⟨rfl, trivial⟩ hf_ hs_ ⟨(), rfl, hs_.pulls [] rfl⟩

end Go.Proofs.Ytbocplhlbbhblaa
