/-
  The functions that a law reaches, each as a pure function, with the proof that the program computes it, and the step from a pure law to the given statement. Conditions: none.
-/
import Derived.Test.YtpnnbeiojpphhabSw
import Derived.Test.YtpnnbeiojpphhabRows
set_option linter.unusedVariables false
set_option maxRecDepth 100000
set_option maxHeartbeats 4000000
namespace Go.Proofs.Ytpnnbeiojpphhab
open Go Sl

structure Ent where
  Key : List UInt8
  Seq : Int
  Del : Bool
  Val : List UInt8
  deriving DecidableEq
instance : Enc Ent := ⟨4, fun x => [.str x.Key, .int .i64 x.Seq, .bool x.Del, .str x.Val], fun _ => rfl, by decide⟩
instance : Dec Ent where
  sh := [.str, .int .i64, .bool, .str]
  ok x := x.Key.length ≤ 9223372036854775807 ∧ okI x.Seq ∧ True ∧ x.Val.length ≤ 9223372036854775807
  dec cs h := by
    obtain ⟨c0, r0, rfl, h0, h⟩ := h.cons_inv
    obtain ⟨c1, r1, rfl, h1, h⟩ := h.cons_inv
    obtain ⟨c2, r2, rfl, h2, h⟩ := h.cons_inv
    obtain ⟨c3, r3, rfl, h3, h⟩ := h.cons_inv
    obtain rfl := h.nil_inv
    obtain ⟨y0, rfl, w0⟩ := h0.str_inv
    obtain ⟨y1, rfl, w1_⟩ := h1.int_inv
    have w1 := okI_of w1_
    obtain ⟨y2, rfl⟩ := h2.bool_inv
    have w2 := True.intro
    obtain ⟨y3, rfl, w3⟩ := h3.str_inv
    exact ⟨{ Key := y0, Seq := y1, Del := y2, Val := y3 : Ent }, rfl, w0, w1, w2, w3⟩
instance : Flat Ent := { vals := fun x => [strV x.Key, .int .i64 x.Seq, .bool x.Del, strV x.Val], flat := fun _ => rfl }
structure Op where
  Key : List UInt8
  Del : Bool
  Val : List UInt8
  deriving DecidableEq
instance : Enc Op := ⟨3, fun x => [.str x.Key, .bool x.Del, .str x.Val], fun _ => rfl, by decide⟩
instance : Dec Op where
  sh := [.str, .bool, .str]
  ok x := x.Key.length ≤ 9223372036854775807 ∧ True ∧ x.Val.length ≤ 9223372036854775807
  dec cs h := by
    obtain ⟨c0, r0, rfl, h0, h⟩ := h.cons_inv
    obtain ⟨c1, r1, rfl, h1, h⟩ := h.cons_inv
    obtain ⟨c2, r2, rfl, h2, h⟩ := h.cons_inv
    obtain rfl := h.nil_inv
    obtain ⟨y0, rfl, w0⟩ := h0.str_inv
    obtain ⟨y1, rfl⟩ := h1.bool_inv
    have w1 := True.intro
    obtain ⟨y2, rfl, w2⟩ := h2.str_inv
    exact ⟨{ Key := y0, Del := y1, Val := y2 : Op }, rfl, w0, w1, w2⟩
instance : Flat Op := { vals := fun x => [strV x.Key, .bool x.Del, strV x.Val], flat := fun _ => rfl }

theorem hMix : Try.prog.follows .mixedOrders = true := by kernel_rfl
theorem kf128_0 : fieldB Try.prog 128 0 = some 0 := by kernel_rfl
theorem kk9 : kindB Try.prog 9 = some (false, 1) := by kernel_rfl
theorem ks9 : isStrB Try.prog 9 = true := by kernel_rfl
theorem kf128_3 : fieldB Try.prog 128 3 = some 3 := by kernel_rfl
theorem ke77 : elemB Try.prog 77 = some (128, 4, 48) := by kernel_rfl
theorem kk128 : kindB Try.prog 128 = some (true, 4) := by kernel_rfl
theorem kc96 : callB Try.prog 96 = true := by kernel_rfl
theorem kz130 : zeroB Try.prog 130 = some (.agg #[strV ([]), .int .i64 (0 : Int), .bool false, strV ([])]) := by kernel_rfl
theorem kf130_0 : fieldB Try.prog 130 0 = some 0 := by kernel_rfl
theorem kf128_1 : fieldB Try.prog 128 1 = some 1 := by kernel_rfl
theorem kk3 : kindB Try.prog 3 = some (false, 1) := by kernel_rfl
theorem kf130_1 : fieldB Try.prog 130 1 = some 1 := by kernel_rfl
theorem kf128_2 : fieldB Try.prog 128 2 = some 2 := by kernel_rfl
theorem kk4 : kindB Try.prog 4 = some (false, 1) := by kernel_rfl
theorem kf130_2 : fieldB Try.prog 130 2 = some 2 := by kernel_rfl
theorem kf130_3 : fieldB Try.prog 130 3 = some 3 := by kernel_rfl
theorem kk130 : kindB Try.prog 130 = some (true, 4) := by kernel_rfl
theorem ke80 : elemB Try.prog 80 = some (130, 4, 48) := by kernel_rfl
theorem kc100 : callB Try.prog 100 = true := by kernel_rfl
theorem ke78 : elemB Try.prog 78 = some (3, 1, 8) := by kernel_rfl
theorem kz3 : zeroB Try.prog 3 = some (.int .i64 (0 : Int)) := by kernel_rfl
theorem kf120_0 : fieldB Try.prog 120 0 = some 0 := by kernel_rfl
theorem kc79 : callB Try.prog 79 = true := by kernel_rfl
theorem kf120_2 : fieldB Try.prog 120 2 = some 2 := by kernel_rfl
theorem kf120_1 : fieldB Try.prog 120 1 = some 1 := by kernel_rfl
theorem kz120 : zeroB Try.prog 120 = some (.agg #[strV ([]), .bool false, strV ([])]) := by kernel_rfl
theorem kp120 : placesB Try.prog 120 = some [(0, 1), (1, 1), (2, 1)] := by kernel_rfl
theorem kc89 : callB Try.prog 89 = true := by kernel_rfl
theorem kc131 : callB Try.prog 131 = true := by kernel_rfl
theorem kc132 : callB Try.prog 132 = true := by kernel_rfl
theorem kp130 : placesB Try.prog 130 = some [(0, 1), (1, 1), (2, 1), (3, 1)] := by kernel_rfl
theorem kc133 : callB Try.prog 133 = true := by kernel_rfl
theorem kc97 : callB Try.prog 97 = true := by kernel_rfl
theorem kc98 : callB Try.prog 98 = true := by kernel_rfl
theorem kc99 : callB Try.prog 99 = true := by kernel_rfl
theorem kc82 : callB Try.prog 82 = true := by kernel_rfl
theorem kc127 : callB Try.prog 127 = true := by kernel_rfl
theorem kc148 : callB Try.prog 148 = true := by kernel_rfl
theorem kc149 : callB Try.prog 149 = true := by kernel_rfl
theorem kc143 : callB Try.prog 143 = true := by kernel_rfl
theorem kc142 : callB Try.prog 142 = true := by kernel_rfl
theorem kc119 : callB Try.prog 119 = true := by kernel_rfl
theorem kc118 : callB Try.prog 118 = true := by kernel_rfl
theorem kc150 : callB Try.prog 150 = true := by kernel_rfl
theorem kc134 : callB Try.prog 134 = true := by kernel_rfl
theorem kc135 : callB Try.prog 135 = true := by kernel_rfl
theorem kc136 : callB Try.prog 136 = true := by kernel_rfl
theorem kc137 : callB Try.prog 137 = true := by kernel_rfl
theorem kc101 : callB Try.prog 101 = true := by kernel_rfl
theorem kc102 : callB Try.prog 102 = true := by kernel_rfl
theorem kb4 : Try.prog.underlying 4 = some .bool := by kernel_rfl
theorem kc103 : callB Try.prog 103 = true := by kernel_rfl
theorem ki3 : intB Try.prog 3 = some .i64 := by kernel_rfl
theorem ki5 : intB Try.prog 5 = some .u8 := by kernel_rfl
theorem kz5 : zeroB Try.prog 5 = some (.int .u8 (0 : Int)) := by kernel_rfl
theorem ke49 : elemB Try.prog 49 = some (5, 1, 1) := by kernel_rfl
theorem kc75 : callB Try.prog 75 = true := by kernel_rfl
theorem kc43 : callB Try.prog 43 = true := by kernel_rfl
theorem kc45 : callB Try.prog 45 = true := by kernel_rfl
theorem kc46 : callB Try.prog 46 = true := by kernel_rfl
theorem kc44 : callB Try.prog 44 = true := by kernel_rfl
theorem kc47 : callB Try.prog 47 = true := by kernel_rfl
theorem kc48 : callB Try.prog 48 = true := by kernel_rfl
theorem kc49 : callB Try.prog 49 = true := by kernel_rfl
theorem kc50 : callB Try.prog 50 = true := by kernel_rfl
theorem kc51 : callB Try.prog 51 = true := by kernel_rfl
theorem kc52 : callB Try.prog 52 = true := by kernel_rfl
theorem hu77 : Try.prog.underlying 77 = some (.slice 128) := by kernel_rfl
theorem hs77 : shB Try.prog 20 77 = some ([.sl 4 (Dec.sh Ent)]) := by kernel_rfl
theorem hu78 : Try.prog.underlying 78 = some (.slice 3) := by kernel_rfl
theorem hs78 : shB Try.prog 20 78 = some ([.sl 1 (Dec.sh Int)]) := by kernel_rfl
theorem hu4 : Try.prog.underlying 4 = some (.bool) := by kernel_rfl
theorem hs4 : shB Try.prog 20 4 = some ([.bool]) := by kernel_rfl

/-- loop.example/g00950/laws.szEnt -/
noncomputable def laws_szEnt (a : Ent) (left : Int) : Option Int :=
  if (decide (IntKind.i64.wrap (left - ((a.Key.length : Nat) : Int)) < (0 : Int))) = true then (some (-1 : Int))
  else (if (decide (IntKind.i64.wrap (IntKind.i64.wrap (left - ((a.Key.length : Nat) : Int)) - ((a.Val.length : Nat) : Int)) < (0 : Int))) = true then (some (-1 : Int))
  else (some (IntKind.i64.wrap (IntKind.i64.wrap (left - ((a.Key.length : Nat) : Int)) - ((a.Val.length : Nat) : Int)))))

theorem laws_szEnt_con (a : Ent) (left : Int)  (r : Int) (hm : laws_szEnt a left = some r) :
    Con Try.prog 96 [.agg #[strV a.Key, .int .i64 a.Seq, .bool a.Del, strV a.Val], .int .i64 left] [] [] (fun _ : Unit => .int .i64 r) (fun _ => []) := by
  refine Con.intro (args := [.agg #[strV a.Key, .int .i64 a.Seq, .bool a.Del, strV a.Val], .int .i64 left]) (n := 20) (val := fun r (_ : Unit) => .int .i64 r) (post := fun _ _ => []) (m := laws_szEnt a left) Try.func96 rfl rfl rfl hm ?_
  intro w S _
  unfold laws_szEnt
  refine TW.seq ?_
  refine TW.region ?_
  refine TO.ef (Ef.box rfl (Cel.plain rfl rfl)) rfl rfl rfl (fun B1 => ?_)
  refine TO.y (Y.assign rfl) rfl rfl rfl ?_
  refine TO.nil ?_
  refine TE.next ?_
  refine TW.seq ?_
  refine TW.region ?_
  refine TO.y (Y.move rfl) rfl rfl rfl ?_
  refine TO.y (Y.field_box kf128_0 rfl rfl) rfl rfl rfl ?_
  refine TO.y (Y.load_box (v := strV a.Key) 0 kk9 rfl rfl rfl) rfl rfl rfl ?_
  refine TO.y (Y.slen ks9 rfl) rfl rfl rfl ?_
  refine TO.y (Y.sub rfl rfl) rfl rfl rfl ?_
  refine TO.y (Y.assign rfl) rfl rfl rfl ?_
  refine TO.nil ?_
  refine TE.next ?_
  refine TW.seq ?_
  refine TW.seq ?_
  refine TW.region ?_
  refine TO.y (Y.move rfl) rfl rfl rfl ?_
  refine TO.y (Y.lss rfl rfl) rfl rfl rfl ?_
  refine TO.nil ?_
  refine TE.next ?_
  refine TW.cond rfl (fun H2 => ?_) (fun H2 => ?_)
  · refine TW.seq ?_
    refine TW.region ?_
    refine TO.y (Y.assign rfl) rfl rfl rfl ?_
    refine TO.nil ?_
    refine TE.next ?_
    refine TW.ret ?_
    refine TE.then_ret ?_
    exact TE.leaf fun _ _ hf_ hs_ => ret_any (rs := [.tmp 4]) (vs := [.int .i64 (-1 : Int)]) (.inl rfl) rfl ⟨rfl, trivial⟩ hf_ hs_ ⟨(), rfl, hs_.pulls [] rfl⟩
  · refine TW.skip ?_
    refine TE.next ?_
    refine TW.seq ?_
    refine TW.region ?_
    refine TO.y (Y.move rfl) rfl rfl rfl ?_
    refine TO.y (Y.field_box kf128_3 rfl rfl) rfl rfl rfl ?_
    refine TO.y (Y.load_box (v := strV a.Val) 0 kk9 rfl rfl rfl) rfl rfl rfl ?_
    refine TO.y (Y.slen ks9 rfl) rfl rfl rfl ?_
    refine TO.y (Y.sub rfl rfl) rfl rfl rfl ?_
    refine TO.y (Y.assign rfl) rfl rfl rfl ?_
    refine TO.nil ?_
    refine TE.next ?_
    refine TW.seq ?_
    refine TW.seq ?_
    refine TW.region ?_
    refine TO.y (Y.move rfl) rfl rfl rfl ?_
    refine TO.y (Y.lss rfl rfl) rfl rfl rfl ?_
    refine TO.nil ?_
    refine TE.next ?_
    refine TW.cond rfl (fun H3 => ?_) (fun H3 => ?_)
    · refine TW.seq ?_
      refine TW.region ?_
      refine TO.y (Y.assign rfl) rfl rfl rfl ?_
      refine TO.nil ?_
      refine TE.next ?_
      refine TW.ret ?_
      refine TE.then_ret ?_
      exact TE.leaf fun _ _ hf_ hs_ => ret_any (rs := [.tmp 4]) (vs := [.int .i64 (-1 : Int)]) (.inl rfl) rfl ⟨rfl, trivial⟩ hf_ hs_ ⟨(), rfl, hs_.pulls [] rfl⟩
    · refine TW.skip ?_
      refine TE.next ?_
      refine TW.seq ?_
      refine TW.region ?_
      refine TO.y (Y.move rfl) rfl rfl rfl ?_
      refine TO.y (Y.assign rfl) rfl rfl rfl ?_
      refine TO.nil ?_
      refine TE.next ?_
      refine TW.ret ?_
      exact TE.leaf fun _ _ hf_ hs_ => ret_any (rs := [.tmp 4]) (vs := [.int .i64 (IntKind.i64.wrap (IntKind.i64.wrap (left - ((a.Key.length : Nat) : Int)) - ((a.Val.length : Nat) : Int)))]) (.inl rfl) rfl ⟨rfl, trivial⟩ hf_ hs_ ⟨(), rfl, hs_.pulls [] rfl⟩

/-- loop.example/g00950/laws.szEntS -/
noncomputable def laws_szEntS (a : List Ent) (left : Int) : Option Int :=
  if (decide (IntKind.i64.wrap (left - ((a.length : Nat) : Int)) < (0 : Int))) = true then (some (-1 : Int))
  else (bindC (loopO (fun (S2 : Int × Int) => if (decide (S2.2 < ((a.length : Nat) : Int))) = true then ((idx a S2.2).bind fun E7 =>
  (laws_szEnt E7 S2.1).bind fun R9 =>
  if (decide (R9 < (0 : Int))) = true then (some (.done (.done (-1 : Int))))
  else (some (.go (R9, IntKind.i64.wrap (S2.2 + (1 : Int))))))
  else (some (.done (.go S2.1))))
  (IntKind.i64.wrap (left - ((a.length : Nat) : Int)), (0 : Int)))
  (fun (T4 : Int) => some T4))

theorem laws_szEntS_con (a : List Ent) (left : Int) (V_a0 : Value) (r : Int) (hm : laws_szEntS a left = some r) :
    Con Try.prog 43 [V_a0, .int .i64 left] [] [(V_a0, lc a)] (fun _ : Unit => .int .i64 r) (fun _ => []) := by
  refine Con.intro (args := [V_a0, .int .i64 left]) (n := 27) (val := fun r (_ : Unit) => .int .i64 r) (post := fun _ _ => []) (m := laws_szEntS a left) Try.func43 rfl rfl rfl hm ?_
  intro w S hrd
  have HB_V_a0 := hrd _ (.head _)
  clear hrd
  unfold laws_szEntS
  refine TW.seq ?_
  refine TW.region ?_
  refine TO.y (Y.assign rfl) rfl rfl rfl ?_
  refine TO.nil ?_
  refine TE.next ?_
  refine TW.seq ?_
  refine TW.region ?_
  refine TO.y (Y.move rfl) rfl rfl rfl ?_
  refine TO.y (Y.move rfl) rfl rfl rfl ?_
  refine TO.y (Y.len (l := a) ke77 (Base.can HB_V_a0) rfl) rfl rfl rfl ?_
  refine TO.y (Y.sub rfl rfl) rfl rfl rfl ?_
  refine TO.y (Y.assign rfl) rfl rfl rfl ?_
  refine TO.nil ?_
  refine TE.next ?_
  refine TW.seq ?_
  refine TW.seq ?_
  refine TW.region ?_
  refine TO.y (Y.move rfl) rfl rfl rfl ?_
  refine TO.y (Y.lss rfl rfl) rfl rfl rfl ?_
  refine TO.nil ?_
  refine TE.next ?_
  refine TW.cond rfl (fun H1 => ?_) (fun H1 => ?_)
  · refine TW.seq ?_
    refine TW.region ?_
    refine TO.y (Y.assign rfl) rfl rfl rfl ?_
    refine TO.nil ?_
    refine TE.next ?_
    refine TW.ret ?_
    refine TE.then_ret ?_
    exact TE.leaf fun _ _ hf_ hs_ => ret_any (rs := [.tmp 4]) (vs := [.int .i64 (-1 : Int)]) (.inl rfl) rfl ⟨rfl, trivial⟩ hf_ hs_ ⟨(), rfl, hs_.pulls [] rfl⟩
  · refine TW.skip ?_
    refine TE.next ?_
    refine TW.seq ?_
    refine TW.seq ?_
    refine TW.region ?_
    refine TO.y (Y.assign rfl) rfl rfl rfl ?_
    refine TO.nil ?_
    refine TE.next ?_
    refine TW.joinX (τ := Int) (X := Unit) (fun T _ => [(1, .int .i64 T)]) (fun _ _ => []) ?_ (fun T4 X5 => ?_)
    · refine TW.block ?_
      refine TW.loopX (σ := Int × Int) (X := Unit) (fun T _ => [(0, V_a0), (1, .int .i64 T.1), (5, .int .i64 T.2)]) (fun _ _ => []) () [] ⟨rfl, rfl, rfl, trivial⟩ rfl (fun S2 X3 => ?_)
      refine TW.seq ?_
      refine TW.seq ?_
      refine TW.region ?_
      refine TO.y (Y.move rfl) rfl rfl rfl ?_
      refine TO.y (Y.move rfl) rfl rfl rfl ?_
      refine TO.y (Y.len (l := a) ke77 (Base.can HB_V_a0) rfl) rfl rfl rfl ?_
      refine TO.y (Y.lss rfl rfl) rfl rfl rfl ?_
      refine TO.nil ?_
      refine TE.next ?_
      refine TW.cond rfl (fun H6 => ?_) (fun H6 => ?_)
      · refine TW.skip ?_
        refine TE.next ?_
        refine TW.seq ?_
        refine TW.block ?_
        refine TW.seq ?_
        refine TW.region ?_
        refine TO.y (Y.move rfl) rfl rfl rfl ?_
        refine TO.y (Y.move rfl) rfl rfl rfl ?_
        refine TO.bind fun E7 H8 => ?_
        refine TO.y (Y.index ke77 (Base.can HB_V_a0) H8 rfl rfl) rfl rfl rfl ?_
        refine TO.y (Y.load_el (us := [strV E7.Key, .int .i64 E7.Seq, .bool E7.Del, strV E7.Val]) (u := .agg #[strV E7.Key, .int .i64 E7.Seq, .bool E7.Del, strV E7.Val]) kk128 rfl (Base.can HB_V_a0) (idx_get H8).2.2 rfl rfl rfl rfl rfl) rfl rfl rfl ?_
        refine TO.y (Y.move rfl) rfl rfl rfl ?_
        refine TO.bind fun R9 H10 => ?_
        refine TO.ef (Ef.call (rest := []) [] (laws_szEnt_con E7 S2.1  R9 H10) kc96 rfl rfl trivial) rfl rfl rfl (fun _ => ?_)
        refine TO.y (Y.assign rfl) rfl rfl rfl ?_
        refine TO.nil ?_
        refine TE.next ?_
        refine TW.seq ?_
        refine TW.region ?_
        refine TO.y (Y.move rfl) rfl rfl rfl ?_
        refine TO.y (Y.lss rfl rfl) rfl rfl rfl ?_
        refine TO.nil ?_
        refine TE.next ?_
        refine TW.cond rfl (fun H12 => ?_) (fun H12 => ?_)
        · refine TW.seq ?_
          refine TW.region ?_
          refine TO.y (Y.assign rfl) rfl rfl rfl ?_
          refine TO.nil ?_
          refine TE.next ?_
          refine TW.ret ?_
          refine TE.block_ret ?_
          refine TE.then_ret ?_
          refine TE.lp_ret ?_
          refine TE.block_ret ?_
          refine TE.jn_done ?_
          refine TE.then_ret ?_
          exact TE.leaf fun _ _ hf_ hs_ => ret_any (rs := [.tmp 4]) (vs := [.int .i64 (-1 : Int)]) (.inl rfl) rfl ⟨rfl, trivial⟩ hf_ hs_ ⟨(), rfl, hs_.pulls [] rfl⟩
        · refine TW.skip ?_
          refine TE.block_normal ?_
          refine TE.next ?_
          refine TW.region ?_
          refine TO.y (Y.move rfl) rfl rfl rfl ?_
          refine TO.y (Y.add rfl rfl) rfl rfl rfl ?_
          refine TO.y (Y.assign rfl) rfl rfl rfl ?_
          refine TO.nil ?_
          exact TE.lp_go () [] ⟨rfl, rfl, rfl, trivial⟩ rfl
      · refine TW.exit ?_
        refine TE.then_exit ?_
        refine TE.lp_exit ?_
        refine TE.block_exit ?_
        exact TE.jn_go () [] ⟨rfl, trivial⟩ rfl
    · refine TE.next ?_
      refine TW.seq ?_
      refine TW.region ?_
      refine TO.y (Y.move rfl) rfl rfl rfl ?_
      refine TO.y (Y.assign rfl) rfl rfl rfl ?_
      refine TO.nil ?_
      refine TE.next ?_
      refine TW.ret ?_
      exact TE.leaf fun _ _ hf_ hs_ => ret_any (rs := [.tmp 4]) (vs := [.int .i64 T4]) (.inl rfl) rfl ⟨rfl, trivial⟩ hf_ hs_ ⟨(), rfl, hs_.pulls [] rfl⟩

/-- loop.example/g00950/laws.toEnt -/
noncomputable def laws_toEnt (a : Ent) : Option Ent :=
  some a

theorem laws_toEnt_con (a : Ent)  (r : Ent) (hm : laws_toEnt a = some r) :
    Con Try.prog 100 [.agg #[strV a.Key, .int .i64 a.Seq, .bool a.Del, strV a.Val]] [] [] (fun _ : Unit => .agg #[strV r.Key, .int .i64 r.Seq, .bool r.Del, strV r.Val]) (fun _ => []) := by
  refine Con.intro (args := [.agg #[strV a.Key, .int .i64 a.Seq, .bool a.Del, strV a.Val]]) (n := 17) (val := fun r (_ : Unit) => .agg #[strV r.Key, .int .i64 r.Seq, .bool r.Del, strV r.Val]) (post := fun _ _ => []) (m := laws_toEnt a) Try.func100 rfl rfl rfl hm ?_
  intro w S _
  unfold laws_toEnt
  refine TW.seq ?_
  refine TW.region ?_
  refine TO.ef (Ef.box rfl (Cel.plain rfl rfl)) rfl rfl rfl (fun B1 => ?_)
  refine TO.ef (Ef.alloc kz130 rfl) rfl rfl rfl (fun B2 => ?_)
  refine TO.nil ?_
  refine TE.next ?_
  refine TW.seq ?_
  refine TW.region ?_
  refine TO.ef (Ef.alloc kz130 rfl) rfl rfl rfl (fun B3 => ?_)
  refine TO.nil ?_
  refine TE.next ?_
  refine TW.seq ?_
  refine TW.region ?_
  refine TO.y (Y.field_box kf128_0 rfl rfl) rfl rfl rfl ?_
  refine TO.y (Y.load_box (v := strV a.Key) 2 kk9 rfl rfl rfl) rfl rfl rfl ?_
  refine TO.y (Y.field_box kf130_0 rfl rfl) rfl rfl rfl ?_
  refine TO.ef0 (Ef.store_box (us := [strV a.Key]) (vs' := [strV a.Key, .int .i64 (0 : Int), .bool false, strV ([])]) (is' := [.box B3 130 [strV a.Key, .int .i64 (0 : Int), .bool false, strV ([])], .box B2 130 [strV ([]), .int .i64 (0 : Int), .bool false, strV ([])], .box B1 128 [strV a.Key, .int .i64 a.Seq, .bool a.Del, strV a.Val]]) 0 kk9 rfl rfl rfl (Cel.plain rfl rfl) rfl rfl rfl rfl) rfl rfl (fun _ => ?_)
  refine TO.nil ?_
  refine TE.next ?_
  refine TW.seq ?_
  refine TW.region ?_
  refine TO.y (Y.field_box kf128_1 rfl rfl) rfl rfl rfl ?_
  refine TO.y (Y.load_box (v := .int .i64 a.Seq) 2 kk3 rfl rfl rfl) rfl rfl rfl ?_
  refine TO.y (Y.field_box kf130_1 rfl rfl) rfl rfl rfl ?_
  refine TO.ef0 (Ef.store_box (us := [.int .i64 a.Seq]) (vs' := [strV a.Key, .int .i64 a.Seq, .bool false, strV ([])]) (is' := [.box B3 130 [strV a.Key, .int .i64 a.Seq, .bool false, strV ([])], .box B2 130 [strV ([]), .int .i64 (0 : Int), .bool false, strV ([])], .box B1 128 [strV a.Key, .int .i64 a.Seq, .bool a.Del, strV a.Val]]) 0 kk3 rfl rfl rfl (Cel.plain rfl rfl) rfl rfl rfl rfl) rfl rfl (fun _ => ?_)
  refine TO.nil ?_
  refine TE.next ?_
  refine TW.seq ?_
  refine TW.region ?_
  refine TO.y (Y.field_box kf128_2 rfl rfl) rfl rfl rfl ?_
  refine TO.y (Y.load_box (v := .bool a.Del) 2 kk4 rfl rfl rfl) rfl rfl rfl ?_
  refine TO.y (Y.field_box kf130_2 rfl rfl) rfl rfl rfl ?_
  refine TO.ef0 (Ef.store_box (us := [.bool a.Del]) (vs' := [strV a.Key, .int .i64 a.Seq, .bool a.Del, strV ([])]) (is' := [.box B3 130 [strV a.Key, .int .i64 a.Seq, .bool a.Del, strV ([])], .box B2 130 [strV ([]), .int .i64 (0 : Int), .bool false, strV ([])], .box B1 128 [strV a.Key, .int .i64 a.Seq, .bool a.Del, strV a.Val]]) 0 kk4 rfl rfl rfl (Cel.plain rfl rfl) rfl rfl rfl rfl) rfl rfl (fun _ => ?_)
  refine TO.nil ?_
  refine TE.next ?_
  refine TW.seq ?_
  refine TW.region ?_
  refine TO.y (Y.field_box kf128_3 rfl rfl) rfl rfl rfl ?_
  refine TO.y (Y.load_box (v := strV a.Val) 2 kk9 rfl rfl rfl) rfl rfl rfl ?_
  refine TO.y (Y.field_box kf130_3 rfl rfl) rfl rfl rfl ?_
  refine TO.ef0 (Ef.store_box (us := [strV a.Val]) (vs' := [strV a.Key, .int .i64 a.Seq, .bool a.Del, strV a.Val]) (is' := [.box B3 130 [strV a.Key, .int .i64 a.Seq, .bool a.Del, strV a.Val], .box B2 130 [strV ([]), .int .i64 (0 : Int), .bool false, strV ([])], .box B1 128 [strV a.Key, .int .i64 a.Seq, .bool a.Del, strV a.Val]]) 0 kk9 rfl rfl rfl (Cel.plain rfl rfl) rfl rfl rfl rfl) rfl rfl (fun _ => ?_)
  refine TO.nil ?_
  refine TE.next ?_
  refine TW.seq ?_
  refine TW.region ?_
  refine TO.y (Y.load_box (v := .agg #[strV a.Key, .int .i64 a.Seq, .bool a.Del, strV a.Val]) 0 kk130 rfl rfl rfl) rfl rfl rfl ?_
  refine TO.ef0 (Ef.store_box (us := [strV a.Key, .int .i64 a.Seq, .bool a.Del, strV a.Val]) (vs' := [strV a.Key, .int .i64 a.Seq, .bool a.Del, strV a.Val]) (is' := [.box B3 130 [strV a.Key, .int .i64 a.Seq, .bool a.Del, strV a.Val], .box B2 130 [strV a.Key, .int .i64 a.Seq, .bool a.Del, strV a.Val], .box B1 128 [strV a.Key, .int .i64 a.Seq, .bool a.Del, strV a.Val]]) 1 kk130 rfl rfl rfl (Cel.plain rfl rfl) rfl rfl rfl rfl) rfl rfl (fun _ => ?_)
  refine TO.nil ?_
  refine TE.next ?_
  refine TW.ret ?_
  exact TE.leaf fun _ _ hf_ hs_ => ret_any (rs := [.cell 2 130]) (vs := [.agg #[strV a.Key, .int .i64 a.Seq, .bool a.Del, strV a.Val]]) (.inl rfl) rfl (RV.cell 1 rfl rfl kk130 rfl trivial) hf_ hs_ ⟨(), rfl, hs_.pulls [] rfl⟩

/-- loop.example/g00950/laws.toEntS -/
noncomputable def laws_toEntS (a : List Ent) : Option (List Ent) :=
  (mkLen 48 ((a.length : Nat) : Int)).bind fun E2 =>
  bindC (loopO (fun (S4 : Int × List Ent) => if (decide (S4.1 < ((a.length : Nat) : Int))) = true then ((idx a S4.1).bind fun E9 =>
  (laws_toEnt E9).bind fun R11 =>
  (idx S4.2 S4.1).bind fun E14 =>
  some (.go (IntKind.i64.wrap (S4.1 + (1 : Int)), (S4.2.set S4.1.toNat R11))))
  else (some (.done (.go S4.2))))
  ((0 : Int), (List.replicate E2 ({ Key := [], Seq := (0 : Int), Del := false, Val := [] : Ent } : Ent))))
  (fun (T6 : List Ent) => some T6)

theorem laws_toEntS_con (a : List Ent) (V_a0 : Value) (r : List Ent) (hm : laws_toEntS a = some r) :
    Con Try.prog 45 [V_a0] [] [(V_a0, lc a)] (fun X : Value => X) (fun X => [.own X (lc r)]) := by
  refine Con.intro (args := [V_a0]) (n := 23) (val := fun _ (X : Value) => X) (post := fun r X => [.own X (lc r)]) (m := laws_toEntS a) Try.func45 rfl rfl rfl hm ?_
  intro w S hrd
  have HB_V_a0 := hrd _ (.head _)
  clear hrd
  unfold laws_toEntS
  refine TW.seq ?_
  refine TW.region ?_
  refine TO.y (Y.assign rfl) rfl rfl rfl ?_
  refine TO.nil ?_
  refine TE.next ?_
  refine TW.seq ?_
  refine TW.region ?_
  refine TO.y (Y.move rfl) rfl rfl rfl ?_
  refine TO.y (Y.len (l := a) ke77 (Base.can HB_V_a0) rfl) rfl rfl rfl ?_
  refine TO.bind fun E2 H3 => ?_
  refine TO.ef (Ef.make (α := Ent) (z := ({ Key := [], Seq := (0 : Int), Del := false, Val := [] : Ent } : Ent)) H3 ke80 kz130 rfl rfl rfl rfl) rfl rfl rfl (fun V1 => ?_)
  refine TO.y (Y.assign rfl) rfl rfl rfl ?_
  refine TO.nil ?_
  refine TE.next ?_
  refine TW.seq ?_
  refine TW.seq ?_
  refine TW.region ?_
  refine TO.y (Y.assign rfl) rfl rfl rfl ?_
  refine TO.nil ?_
  refine TE.next ?_
  refine TW.joinX (τ := List Ent) (X := Unit) (fun _ _ => [(3, V1)]) (fun T _ => [.own V1 (lc T)]) ?_ (fun T6 X7 => ?_)
  · refine TW.block ?_
    refine TW.loopX (σ := Int × List Ent) (X := Unit) (fun T _ => [(0, V_a0), (3, V1), (4, .int .i64 T.1)]) (fun T _ => [.own V1 (lc T.2)]) () [0] ⟨rfl, rfl, rfl, trivial⟩ rfl (fun S4 X5 => ?_)
    refine TW.seq ?_
    refine TW.seq ?_
    refine TW.region ?_
    refine TO.y (Y.move rfl) rfl rfl rfl ?_
    refine TO.y (Y.move rfl) rfl rfl rfl ?_
    refine TO.y (Y.len (l := a) ke77 (Base.can HB_V_a0) rfl) rfl rfl rfl ?_
    refine TO.y (Y.lss rfl rfl) rfl rfl rfl ?_
    refine TO.nil ?_
    refine TE.next ?_
    refine TW.cond rfl (fun H8 => ?_) (fun H8 => ?_)
    · refine TW.skip ?_
      refine TE.next ?_
      refine TW.seq ?_
      refine TW.block ?_
      refine TW.region ?_
      refine TO.y (Y.move rfl) rfl rfl rfl ?_
      refine TO.y (Y.move rfl) rfl rfl rfl ?_
      refine TO.y (Y.move rfl) rfl rfl rfl ?_
      refine TO.y (Y.move rfl) rfl rfl rfl ?_
      refine TO.bind fun E9 H10 => ?_
      refine TO.y (Y.index ke77 (Base.can HB_V_a0) H10 rfl rfl) rfl rfl rfl ?_
      refine TO.y (Y.load_el (us := [strV E9.Key, .int .i64 E9.Seq, .bool E9.Del, strV E9.Val]) (u := .agg #[strV E9.Key, .int .i64 E9.Seq, .bool E9.Del, strV E9.Val]) kk128 rfl (Base.can HB_V_a0) (idx_get H10).2.2 rfl rfl rfl rfl rfl) rfl rfl rfl ?_
      refine TO.bind fun R11 H12 => ?_
      refine TO.ef (Ef.call (rest := [.own V1 (lc S4.2)]) [0] (laws_toEnt_con E9  R11 H12) kc100 rfl rfl trivial) rfl rfl rfl (fun _ => ?_)
      refine TO.bind fun E14 H15 => ?_
      refine TO.y (Y.index ke80 (Can.own 0 rfl) H15 rfl rfl) rfl rfl rfl ?_
      refine TO.ef0 (Ef.store_el (us := [strV R11.Key, .int .i64 R11.Seq, .bool R11.Del, strV R11.Val]) (is' := [.own V1 (lc (S4.2.set S4.1.toNat R11))]) R11 0 kk130 rfl rfl (idx_get H15).2.2 rfl rfl (Cel.plain rfl rfl) rfl rfl rfl rfl) rfl rfl (fun _ => ?_)
      refine TO.nil ?_
      refine TE.block_normal ?_
      refine TE.next ?_
      refine TW.region ?_
      refine TO.y (Y.move rfl) rfl rfl rfl ?_
      refine TO.y (Y.add rfl rfl) rfl rfl rfl ?_
      refine TO.y (Y.assign rfl) rfl rfl rfl ?_
      refine TO.nil ?_
      exact TE.lp_go () [0] ⟨rfl, rfl, rfl, trivial⟩ rfl
    · refine TW.exit ?_
      refine TE.then_exit ?_
      refine TE.lp_exit ?_
      refine TE.block_exit ?_
      exact TE.jn_go () [0] ⟨rfl, trivial⟩ rfl
  · refine TE.next ?_
    refine TW.seq ?_
    refine TW.region ?_
    refine TO.y (Y.move rfl) rfl rfl rfl ?_
    refine TO.y (Y.assign rfl) rfl rfl rfl ?_
    refine TO.nil ?_
    refine TE.next ?_
    refine TW.ret ?_
    exact TE.leaf fun _ _ hf_ hs_ => ret_any (rs := [.tmp 2]) (vs := [V1]) (.inl rfl) rfl ⟨rfl, trivial⟩ hf_ hs_ ⟨V1, rfl, hs_.pulls [0] rfl⟩

/-- loop.example/g00950/laws.toIntS -/
noncomputable def laws_toIntS (a : List Int) : Option (List Int) :=
  (mkLen 8 ((a.length : Nat) : Int)).bind fun E2 =>
  bindC (loopO (fun (S4 : Int × List Int) => if (decide (S4.1 < ((a.length : Nat) : Int))) = true then ((idx a S4.1).bind fun E9 =>
  (idx S4.2 S4.1).bind fun E11 =>
  some (.go (IntKind.i64.wrap (S4.1 + (1 : Int)), (S4.2.set S4.1.toNat E9))))
  else (some (.done (.go S4.2))))
  ((0 : Int), (List.replicate E2 (0 : Int))))
  (fun (T6 : List Int) => some T6)

theorem laws_toIntS_con (a : List Int) (V_a0 : Value) (r : List Int) (hm : laws_toIntS a = some r) :
    Con Try.prog 46 [V_a0] [] [(V_a0, lc a)] (fun X : Value => X) (fun X => [.own X (lc r)]) := by
  refine Con.intro (args := [V_a0]) (n := 22) (val := fun _ (X : Value) => X) (post := fun r X => [.own X (lc r)]) (m := laws_toIntS a) Try.func46 rfl rfl rfl hm ?_
  intro w S hrd
  have HB_V_a0 := hrd _ (.head _)
  clear hrd
  unfold laws_toIntS
  refine TW.seq ?_
  refine TW.region ?_
  refine TO.y (Y.assign rfl) rfl rfl rfl ?_
  refine TO.nil ?_
  refine TE.next ?_
  refine TW.seq ?_
  refine TW.region ?_
  refine TO.y (Y.move rfl) rfl rfl rfl ?_
  refine TO.y (Y.len (l := a) ke78 (Base.can HB_V_a0) rfl) rfl rfl rfl ?_
  refine TO.bind fun E2 H3 => ?_
  refine TO.ef (Ef.make (α := Int) (z := (0 : Int)) H3 ke78 kz3 rfl rfl rfl rfl) rfl rfl rfl (fun V1 => ?_)
  refine TO.y (Y.assign rfl) rfl rfl rfl ?_
  refine TO.nil ?_
  refine TE.next ?_
  refine TW.seq ?_
  refine TW.seq ?_
  refine TW.region ?_
  refine TO.y (Y.assign rfl) rfl rfl rfl ?_
  refine TO.nil ?_
  refine TE.next ?_
  refine TW.joinX (τ := List Int) (X := Unit) (fun _ _ => [(3, V1)]) (fun T _ => [.own V1 (lc T)]) ?_ (fun T6 X7 => ?_)
  · refine TW.block ?_
    refine TW.loopX (σ := Int × List Int) (X := Unit) (fun T _ => [(0, V_a0), (3, V1), (4, .int .i64 T.1)]) (fun T _ => [.own V1 (lc T.2)]) () [0] ⟨rfl, rfl, rfl, trivial⟩ rfl (fun S4 X5 => ?_)
    refine TW.seq ?_
    refine TW.seq ?_
    refine TW.region ?_
    refine TO.y (Y.move rfl) rfl rfl rfl ?_
    refine TO.y (Y.move rfl) rfl rfl rfl ?_
    refine TO.y (Y.len (l := a) ke78 (Base.can HB_V_a0) rfl) rfl rfl rfl ?_
    refine TO.y (Y.lss rfl rfl) rfl rfl rfl ?_
    refine TO.nil ?_
    refine TE.next ?_
    refine TW.cond rfl (fun H8 => ?_) (fun H8 => ?_)
    · refine TW.skip ?_
      refine TE.next ?_
      refine TW.seq ?_
      refine TW.block ?_
      refine TW.region ?_
      refine TO.y (Y.move rfl) rfl rfl rfl ?_
      refine TO.y (Y.move rfl) rfl rfl rfl ?_
      refine TO.y (Y.move rfl) rfl rfl rfl ?_
      refine TO.y (Y.move rfl) rfl rfl rfl ?_
      refine TO.bind fun E9 H10 => ?_
      refine TO.y (Y.index ke78 (Base.can HB_V_a0) H10 rfl rfl) rfl rfl rfl ?_
      refine TO.y (Y.load_el (us := [.int .i64 E9]) (u := .int .i64 E9) kk3 rfl (Base.can HB_V_a0) (idx_get H10).2.2 rfl rfl rfl rfl rfl) rfl rfl rfl ?_
      refine TO.bind fun E11 H12 => ?_
      refine TO.y (Y.index ke78 (Can.own 0 rfl) H12 rfl rfl) rfl rfl rfl ?_
      refine TO.ef0 (Ef.store_el (us := [.int .i64 E9]) (is' := [.own V1 (lc (S4.2.set S4.1.toNat E9))]) E9 0 kk3 rfl rfl (idx_get H12).2.2 rfl rfl (Cel.plain rfl rfl) rfl rfl rfl rfl) rfl rfl (fun _ => ?_)
      refine TO.nil ?_
      refine TE.block_normal ?_
      refine TE.next ?_
      refine TW.region ?_
      refine TO.y (Y.move rfl) rfl rfl rfl ?_
      refine TO.y (Y.add rfl rfl) rfl rfl rfl ?_
      refine TO.y (Y.assign rfl) rfl rfl rfl ?_
      refine TO.nil ?_
      exact TE.lp_go () [0] ⟨rfl, rfl, rfl, trivial⟩ rfl
    · refine TW.exit ?_
      refine TE.then_exit ?_
      refine TE.lp_exit ?_
      refine TE.block_exit ?_
      exact TE.jn_go () [0] ⟨rfl, trivial⟩ rfl
  · refine TE.next ?_
    refine TW.seq ?_
    refine TW.region ?_
    refine TO.y (Y.move rfl) rfl rfl rfl ?_
    refine TO.y (Y.assign rfl) rfl rfl rfl ?_
    refine TO.nil ?_
    refine TE.next ?_
    refine TW.ret ?_
    exact TE.leaf fun _ _ hf_ hs_ => ret_any (rs := [.tmp 2]) (vs := [V1]) (.inl rfl) rfl ⟨rfl, trivial⟩ hf_ hs_ ⟨V1, rfl, hs_.pulls [0] rfl⟩

/-- loop.example/g00950/spec.l1In -/
noncomputable def spec_l1In (x : Int) (low : Int) (high : Int) : Option Bool :=
  (if (decide (x ≥ low)) = true then (some (decide (x ≤ high)))
  else (some false)).bind (fun (T1 : Bool) =>
  some T1)

theorem spec_l1In_con (x : Int) (low : Int) (high : Int)  (r : Bool) (hm : spec_l1In x low high = some r) :
    Con Try.prog 79 [.int .i64 x, .int .i64 low, .int .i64 high] [] [] (fun _ : Unit => .bool r) (fun _ => []) := by
  refine Con.intro (args := [.int .i64 x, .int .i64 low, .int .i64 high]) (n := 15) (val := fun r (_ : Unit) => .bool r) (post := fun _ _ => []) (m := spec_l1In x low high) Try.func79 rfl rfl rfl hm ?_
  intro w S _
  unfold spec_l1In
  refine TW.seq ?_
  refine TW.region ?_
  refine TO.y (Y.assign rfl) rfl rfl rfl ?_
  refine TO.nil ?_
  refine TE.next ?_
  refine TW.seq ?_
  refine TW.joinBX (τ := Bool) (X := Unit) (fun T _ => [(6, .bool T)]) (fun _ _ => []) ?_ (fun T1 X2 => ?_)
  · refine TW.region ?_
    refine TO.y (Y.move rfl) rfl rfl rfl ?_
    refine TO.y (Y.move rfl) rfl rfl rfl ?_
    refine TO.y (Y.geq rfl rfl) rfl rfl rfl ?_
    refine TO.y (Y.move rfl) rfl rfl rfl ?_
    refine TO.ite (b := decide (x ≥ low)) (fun H3 => ?_) (fun H3 => ?_)
    · refine TO.y (Y.move rfl) (Gd.at 3 true 10 (decide (x ≥ low)) rfl rfl rfl (beq_tt H3)) rfl rfl ?_
      refine TO.y (Y.move rfl) (Gd.at 3 true 10 (decide (x ≥ low)) rfl rfl rfl (beq_tt H3)) rfl rfl ?_
      refine TO.y (Y.leq rfl rfl) (Gd.at 3 true 10 (decide (x ≥ low)) rfl rfl rfl (beq_tt H3)) rfl rfl ?_
      refine TO.y (Y.pick_t H3 rfl rfl) rfl rfl rfl ?_
      refine TO.y (Y.assign rfl) rfl rfl rfl ?_
      refine TO.nil ?_
      exact TE.jb_go () [] ⟨rfl, trivial⟩ rfl
    · refine TO.off (Gd.at 3 true 10 (decide (x ≥ low)) rfl rfl rfl (beq_ft H3)) rfl rfl ?_
      refine TO.off (Gd.at 3 true 10 (decide (x ≥ low)) rfl rfl rfl (beq_ft H3)) rfl rfl ?_
      refine TO.off (Gd.at 3 true 10 (decide (x ≥ low)) rfl rfl rfl (beq_ft H3)) rfl rfl ?_
      refine TO.y (Y.pick_f H3 rfl rfl) rfl rfl rfl ?_
      refine TO.y (Y.assign rfl) rfl rfl rfl ?_
      refine TO.nil ?_
      exact TE.jb_go () [] ⟨rfl, trivial⟩ rfl
  · refine TE.next ?_
    refine TW.ret ?_
    exact TE.leaf fun _ _ hf_ hs_ => ret_any (rs := [.tmp 6]) (vs := [.bool T1]) (.inl rfl) rfl ⟨rfl, trivial⟩ hf_ hs_ ⟨(), rfl, hs_.pulls [] rfl⟩

/-- loop.example/g00950/spec.l7Op -/
noncomputable def spec_l7Op (o : Op) : Option Bool :=
  ((spec_l1In ((o.Key.length : Nat) : Int) (1 : Int) (10 : Int)).bind fun R4 =>
  if R4 = true then (if (decide (((o.Val.length : Nat) : Int) ≤ (16 : Int))) = true then (if (!o.Del) = true then (some true)
  else (some (decide (o.Val = ([])))))
  else (some false))
  else (some false)).bind (fun (T2 : Bool) =>
  some T2)

theorem spec_l7Op_con (o : Op)  (r : Bool) (hm : spec_l7Op o = some r) :
    Con Try.prog 89 [.agg #[strV o.Key, .bool o.Del, strV o.Val]] [] [] (fun _ : Unit => .bool r) (fun _ => []) := by
  refine Con.intro (args := [.agg #[strV o.Key, .bool o.Del, strV o.Val]]) (n := 23) (val := fun r (_ : Unit) => .bool r) (post := fun _ _ => []) (m := spec_l7Op o) Try.func89 rfl rfl rfl hm ?_
  intro w S _
  unfold spec_l7Op
  refine TW.seq ?_
  refine TW.region ?_
  refine TO.ef (Ef.box rfl (Cel.plain rfl rfl)) rfl rfl rfl (fun B1 => ?_)
  refine TO.y (Y.assign rfl) rfl rfl rfl ?_
  refine TO.nil ?_
  refine TE.next ?_
  refine TW.seq ?_
  refine TW.joinBX (τ := Bool) (X := Unit) (fun T _ => [(2, .bool T)]) (fun _ _ => []) ?_ (fun T2 X3 => ?_)
  · refine TW.region ?_
    refine TO.y (Y.field_box kf120_0 rfl rfl) rfl rfl rfl ?_
    refine TO.y (Y.load_box (v := strV o.Key) 0 kk9 rfl rfl rfl) rfl rfl rfl ?_
    refine TO.y (Y.slen ks9 rfl) rfl rfl rfl ?_
    refine TO.bind fun R4 H5 => ?_
    refine TO.ef (Ef.call (rest := [.box B1 120 [strV o.Key, .bool o.Del, strV o.Val]]) [0] (spec_l1In_con ((o.Key.length : Nat) : Int) (1 : Int) (10 : Int)  R4 H5) kc79 rfl rfl trivial) rfl rfl rfl (fun _ => ?_)
    refine TO.y (Y.move rfl) rfl rfl rfl ?_
    refine TO.ite (b := R4) (fun H7 => ?_) (fun H7 => ?_)
    · refine TO.y (Y.field_box kf120_2 rfl rfl) (Gd.at 4 true 7 R4 rfl rfl rfl (beq_tt H7)) rfl rfl ?_
      refine TO.y (Y.load_box (v := strV o.Val) 0 kk9 rfl rfl rfl) (Gd.at 4 true 7 R4 rfl rfl rfl (beq_tt H7)) rfl rfl ?_
      refine TO.y (Y.slen ks9 rfl) (Gd.at 4 true 7 R4 rfl rfl rfl (beq_tt H7)) rfl rfl ?_
      refine TO.y (Y.leq rfl rfl) (Gd.at 4 true 7 R4 rfl rfl rfl (beq_tt H7)) rfl rfl ?_
      refine TO.y (Y.pick_t H7 rfl rfl) rfl rfl rfl ?_
      refine TO.y (Y.move rfl) rfl rfl rfl ?_
      refine TO.ite (b := decide (((o.Val.length : Nat) : Int) ≤ (16 : Int))) (fun H8 => ?_) (fun H8 => ?_)
      · refine TO.y (Y.field_box kf120_1 rfl rfl) (Gd.at 10 true 13 (decide (((o.Val.length : Nat) : Int) ≤ (16 : Int))) rfl rfl rfl (beq_tt H8)) rfl rfl ?_
        refine TO.y (Y.load_box (v := .bool o.Del) 0 kk4 rfl rfl rfl) (Gd.at 10 true 13 (decide (((o.Val.length : Nat) : Int) ≤ (16 : Int))) rfl rfl rfl (beq_tt H8)) rfl rfl ?_
        refine TO.y (Y.not rfl) (Gd.at 10 true 13 (decide (((o.Val.length : Nat) : Int) ≤ (16 : Int))) rfl rfl rfl (beq_tt H8)) rfl rfl ?_
        refine TO.y (Y.move rfl) (Gd.at 10 true 13 (decide (((o.Val.length : Nat) : Int) ≤ (16 : Int))) rfl rfl rfl (beq_tt H8)) rfl rfl ?_
        refine TO.ite (b := !o.Del) (fun H9 => ?_) (fun H9 => ?_)
        · refine TO.off (Gd.at 14 false 17 (!o.Del) rfl rfl rfl (beq_tf H9)) rfl rfl ?_
          refine TO.off (Gd.at 14 false 17 (!o.Del) rfl rfl rfl (beq_tf H9)) rfl rfl ?_
          refine TO.off (Gd.at 14 false 17 (!o.Del) rfl rfl rfl (beq_tf H9)) rfl rfl ?_
          refine TO.y (Y.pick_t H9 rfl rfl) (Gd.at 10 true 13 (decide (((o.Val.length : Nat) : Int) ≤ (16 : Int))) rfl rfl rfl (beq_tt H8)) rfl rfl ?_
          refine TO.y (Y.pick_t H8 rfl rfl) rfl rfl rfl ?_
          refine TO.y (Y.assign rfl) rfl rfl rfl ?_
          refine TO.nil ?_
          exact TE.jb_go () [] ⟨rfl, trivial⟩ rfl
        · refine TO.y (Y.field_box kf120_2 rfl rfl) (Gd.at 14 false 17 (!o.Del) rfl rfl rfl (beq_ff H9)) rfl rfl ?_
          refine TO.y (Y.load_box (v := strV o.Val) 0 kk9 rfl rfl rfl) (Gd.at 14 false 17 (!o.Del) rfl rfl rfl (beq_ff H9)) rfl rfl ?_
          refine TO.y (Y.seql rfl rfl) (Gd.at 14 false 17 (!o.Del) rfl rfl rfl (beq_ff H9)) rfl rfl ?_
          refine TO.y (Y.pick_f H9 rfl rfl) (Gd.at 10 true 13 (decide (((o.Val.length : Nat) : Int) ≤ (16 : Int))) rfl rfl rfl (beq_tt H8)) rfl rfl ?_
          refine TO.y (Y.pick_t H8 rfl rfl) rfl rfl rfl ?_
          refine TO.y (Y.assign rfl) rfl rfl rfl ?_
          refine TO.nil ?_
          exact TE.jb_go () [] ⟨rfl, trivial⟩ rfl
      · refine TO.off (Gd.at 10 true 13 (decide (((o.Val.length : Nat) : Int) ≤ (16 : Int))) rfl rfl rfl (beq_ft H8)) rfl rfl ?_
        refine TO.off (Gd.at 10 true 13 (decide (((o.Val.length : Nat) : Int) ≤ (16 : Int))) rfl rfl rfl (beq_ft H8)) rfl rfl ?_
        refine TO.off (Gd.at 10 true 13 (decide (((o.Val.length : Nat) : Int) ≤ (16 : Int))) rfl rfl rfl (beq_ft H8)) rfl rfl ?_
        refine TO.off (Gd.at 10 true 13 (decide (((o.Val.length : Nat) : Int) ≤ (16 : Int))) rfl rfl rfl (beq_ft H8)) rfl rfl ?_
        refine TO.off (Gd.un 14 false 17 rfl rfl rfl) rfl rfl ?_
        refine TO.off (Gd.un 14 false 17 rfl rfl rfl) rfl rfl ?_
        refine TO.off (Gd.un 14 false 17 rfl rfl rfl) rfl rfl ?_
        refine TO.off (Gd.at 10 true 13 (decide (((o.Val.length : Nat) : Int) ≤ (16 : Int))) rfl rfl rfl (beq_ft H8)) rfl rfl ?_
        refine TO.y (Y.pick_f H8 rfl rfl) rfl rfl rfl ?_
        refine TO.y (Y.assign rfl) rfl rfl rfl ?_
        refine TO.nil ?_
        exact TE.jb_go () [] ⟨rfl, trivial⟩ rfl
    · refine TO.off (Gd.at 4 true 7 R4 rfl rfl rfl (beq_ft H7)) rfl rfl ?_
      refine TO.off (Gd.at 4 true 7 R4 rfl rfl rfl (beq_ft H7)) rfl rfl ?_
      refine TO.off (Gd.at 4 true 7 R4 rfl rfl rfl (beq_ft H7)) rfl rfl ?_
      refine TO.off (Gd.at 4 true 7 R4 rfl rfl rfl (beq_ft H7)) rfl rfl ?_
      refine TO.y (Y.pick_f H7 rfl rfl) rfl rfl rfl ?_
      refine TO.y (Y.move rfl) rfl rfl rfl ?_
      refine TO.off (Gd.at 10 true 13 false rfl rfl rfl rfl) rfl rfl ?_
      refine TO.off (Gd.at 10 true 13 false rfl rfl rfl rfl) rfl rfl ?_
      refine TO.off (Gd.at 10 true 13 false rfl rfl rfl rfl) rfl rfl ?_
      refine TO.off (Gd.at 10 true 13 false rfl rfl rfl rfl) rfl rfl ?_
      refine TO.off (Gd.un 14 false 17 rfl rfl rfl) rfl rfl ?_
      refine TO.off (Gd.un 14 false 17 rfl rfl rfl) rfl rfl ?_
      refine TO.off (Gd.un 14 false 17 rfl rfl rfl) rfl rfl ?_
      refine TO.off (Gd.at 10 true 13 false rfl rfl rfl rfl) rfl rfl ?_
      refine TO.y (Y.pick_f rfl rfl rfl) rfl rfl rfl ?_
      refine TO.y (Y.assign rfl) rfl rfl rfl ?_
      refine TO.nil ?_
      exact TE.jb_go () [] ⟨rfl, trivial⟩ rfl
  · refine TE.next ?_
    refine TW.ret ?_
    exact TE.leaf fun _ _ hf_ hs_ => ret_any (rs := [.tmp 2]) (vs := [.bool T2]) (.inl rfl) rfl ⟨rfl, trivial⟩ hf_ hs_ ⟨(), rfl, hs_.pulls [] rfl⟩

/-- loop.example/g00950/spec.l9Ent -/
noncomputable def spec_l9Ent (e : Ent) : Option Bool :=
  ((spec_l7Op ({ Key := e.Key, Del := e.Del, Val := e.Val : Op })).bind fun R4 =>
  if R4 = true then ((spec_l1In e.Seq (0 : Int) (1000000 : Int)).bind fun R8 =>
  some R8)
  else (some false)).bind (fun (T2 : Bool) =>
  some T2)

theorem spec_l9Ent_con (e : Ent)  (r : Bool) (hm : spec_l9Ent e = some r) :
    Con Try.prog 131 [.agg #[strV e.Key, .int .i64 e.Seq, .bool e.Del, strV e.Val]] [] [] (fun _ : Unit => .bool r) (fun _ => []) := by
  refine Con.intro (args := [.agg #[strV e.Key, .int .i64 e.Seq, .bool e.Del, strV e.Val]]) (n := 16) (val := fun r (_ : Unit) => .bool r) (post := fun _ _ => []) (m := spec_l9Ent e) Try.func131 rfl rfl rfl hm ?_
  intro w S _
  unfold spec_l9Ent
  refine TW.seq ?_
  refine TW.region ?_
  refine TO.ef (Ef.box rfl (Cel.plain rfl rfl)) rfl rfl rfl (fun B1 => ?_)
  refine TO.y (Y.assign rfl) rfl rfl rfl ?_
  refine TO.nil ?_
  refine TE.next ?_
  refine TW.seq ?_
  refine TW.joinBX (τ := Bool) (X := Unit) (fun T _ => [(2, .bool T)]) (fun _ _ => []) ?_ (fun T2 X3 => ?_)
  · refine TW.region ?_
    refine TO.y (Y.field_box kf130_0 rfl rfl) rfl rfl rfl ?_
    refine TO.y (Y.load_box (v := strV e.Key) 0 kk9 rfl rfl rfl) rfl rfl rfl ?_
    refine TO.y (Y.field_box kf130_2 rfl rfl) rfl rfl rfl ?_
    refine TO.y (Y.load_box (v := .bool e.Del) 0 kk4 rfl rfl rfl) rfl rfl rfl ?_
    refine TO.y (Y.field_box kf130_3 rfl rfl) rfl rfl rfl ?_
    refine TO.y (Y.load_box (v := strV e.Val) 0 kk9 rfl rfl rfl) rfl rfl rfl ?_
    refine TO.y (Y.build (cells := [strV e.Key, .bool e.Del, strV e.Val]) [(0, [strV e.Key]), (1, [.bool e.Del]), (2, [strV e.Val])] kp120 kz120 ⟨rfl, ⟨_, rfl, (Cel.plain rfl rfl)⟩, ⟨rfl, ⟨_, rfl, (Cel.plain rfl rfl)⟩, ⟨rfl, ⟨_, rfl, (Cel.plain rfl rfl)⟩, trivial⟩⟩⟩ rfl) rfl rfl rfl ?_
    refine TO.bind fun R4 H5 => ?_
    refine TO.ef (Ef.call (rest := [.box B1 130 [strV e.Key, .int .i64 e.Seq, .bool e.Del, strV e.Val]]) [0] (spec_l7Op_con ({ Key := e.Key, Del := e.Del, Val := e.Val : Op })  R4 H5) kc89 rfl rfl trivial) rfl rfl rfl (fun _ => ?_)
    refine TO.y (Y.move rfl) rfl rfl rfl ?_
    refine TO.ite (b := R4) (fun H7 => ?_) (fun H7 => ?_)
    · refine TO.y (Y.field_box kf130_1 rfl rfl) (Gd.at 8 true 11 R4 rfl rfl rfl (beq_tt H7)) rfl rfl ?_
      refine TO.y (Y.load_box (v := .int .i64 e.Seq) 0 kk3 rfl rfl rfl) (Gd.at 8 true 11 R4 rfl rfl rfl (beq_tt H7)) rfl rfl ?_
      refine TO.bind fun R8 H9 => ?_
      refine TO.ef (Ef.call (rest := [.box B1 130 [strV e.Key, .int .i64 e.Seq, .bool e.Del, strV e.Val]]) [0] (spec_l1In_con e.Seq (0 : Int) (1000000 : Int)  R8 H9) kc79 rfl rfl trivial) (Gd.at 8 true 11 R4 rfl rfl rfl (beq_tt H7)) rfl rfl (fun _ => ?_)
      refine TO.y (Y.pick_t H7 rfl rfl) rfl rfl rfl ?_
      refine TO.y (Y.assign rfl) rfl rfl rfl ?_
      refine TO.nil ?_
      exact TE.jb_go () [] ⟨rfl, trivial⟩ rfl
    · refine TO.off (Gd.at 8 true 11 R4 rfl rfl rfl (beq_ft H7)) rfl rfl ?_
      refine TO.off (Gd.at 8 true 11 R4 rfl rfl rfl (beq_ft H7)) rfl rfl ?_
      refine TO.off (Gd.at 8 true 11 R4 rfl rfl rfl (beq_ft H7)) rfl rfl ?_
      refine TO.y (Y.pick_f H7 rfl rfl) rfl rfl rfl ?_
      refine TO.y (Y.assign rfl) rfl rfl rfl ?_
      refine TO.nil ?_
      exact TE.jb_go () [] ⟨rfl, trivial⟩ rfl
  · refine TE.next ?_
    refine TW.ret ?_
    exact TE.leaf fun _ _ hf_ hs_ => ret_any (rs := [.tmp 2]) (vs := [.bool T2]) (.inl rfl) rfl ⟨rfl, trivial⟩ hf_ hs_ ⟨(), rfl, hs_.pulls [] rfl⟩

/-- loop.example/g00950/spec.l9Ahead -/
noncomputable def spec_l9Ahead (a : Ent) (b : Ent) : Option Bool :=
  (if (sLt a.Key b.Key) = true then (some true)
  else (if (decide (a.Key = b.Key)) = true then (some (decide (a.Seq > b.Seq)))
  else (some false))).bind (fun (T3 : Bool) =>
  some T3)

theorem spec_l9Ahead_con (a : Ent) (b : Ent)  (r : Bool) (hm : spec_l9Ahead a b = some r) :
    Con Try.prog 132 [.agg #[strV a.Key, .int .i64 a.Seq, .bool a.Del, strV a.Val], .agg #[strV b.Key, .int .i64 b.Seq, .bool b.Del, strV b.Val]] [] [] (fun _ : Unit => .bool r) (fun _ => []) := by
  refine Con.intro (args := [.agg #[strV a.Key, .int .i64 a.Seq, .bool a.Del, strV a.Val], .agg #[strV b.Key, .int .i64 b.Seq, .bool b.Del, strV b.Val]]) (n := 24) (val := fun r (_ : Unit) => .bool r) (post := fun _ _ => []) (m := spec_l9Ahead a b) Try.func132 rfl rfl rfl hm ?_
  intro w S _
  unfold spec_l9Ahead
  refine TW.seq ?_
  refine TW.region ?_
  refine TO.ef (Ef.box rfl (Cel.plain rfl rfl)) rfl rfl rfl (fun B1 => ?_)
  refine TO.ef (Ef.box rfl (Cel.plain rfl rfl)) rfl rfl rfl (fun B2 => ?_)
  refine TO.y (Y.assign rfl) rfl rfl rfl ?_
  refine TO.nil ?_
  refine TE.next ?_
  refine TW.seq ?_
  refine TW.joinBX (τ := Bool) (X := Unit) (fun T _ => [(4, .bool T)]) (fun _ _ => []) ?_ (fun T3 X4 => ?_)
  · refine TW.region ?_
    refine TO.y (Y.field_box kf130_0 rfl rfl) rfl rfl rfl ?_
    refine TO.y (Y.load_box (v := strV a.Key) 1 kk9 rfl rfl rfl) rfl rfl rfl ?_
    refine TO.y (Y.field_box kf130_0 rfl rfl) rfl rfl rfl ?_
    refine TO.y (Y.load_box (v := strV b.Key) 0 kk9 rfl rfl rfl) rfl rfl rfl ?_
    refine TO.y (Y.slss rfl rfl) rfl rfl rfl ?_
    refine TO.y (Y.move rfl) rfl rfl rfl ?_
    refine TO.ite (b := sLt a.Key b.Key) (fun H5 => ?_) (fun H5 => ?_)
    · refine TO.off (Gd.at 5 false 10 (sLt a.Key b.Key) rfl rfl rfl (beq_tf H5)) rfl rfl ?_
      refine TO.off (Gd.at 5 false 10 (sLt a.Key b.Key) rfl rfl rfl (beq_tf H5)) rfl rfl ?_
      refine TO.off (Gd.at 5 false 10 (sLt a.Key b.Key) rfl rfl rfl (beq_tf H5)) rfl rfl ?_
      refine TO.off (Gd.at 5 false 10 (sLt a.Key b.Key) rfl rfl rfl (beq_tf H5)) rfl rfl ?_
      refine TO.off (Gd.at 5 false 10 (sLt a.Key b.Key) rfl rfl rfl (beq_tf H5)) rfl rfl ?_
      refine TO.off (Gd.at 5 false 10 (sLt a.Key b.Key) rfl rfl rfl (beq_tf H5)) rfl rfl ?_
      refine TO.off (Gd.un 11 true 16 rfl rfl rfl) rfl rfl ?_
      refine TO.off (Gd.un 11 true 16 rfl rfl rfl) rfl rfl ?_
      refine TO.off (Gd.un 11 true 16 rfl rfl rfl) rfl rfl ?_
      refine TO.off (Gd.un 11 true 16 rfl rfl rfl) rfl rfl ?_
      refine TO.off (Gd.un 11 true 16 rfl rfl rfl) rfl rfl ?_
      refine TO.off (Gd.at 5 false 10 (sLt a.Key b.Key) rfl rfl rfl (beq_tf H5)) rfl rfl ?_
      refine TO.y (Y.pick_t H5 rfl rfl) rfl rfl rfl ?_
      refine TO.y (Y.assign rfl) rfl rfl rfl ?_
      refine TO.nil ?_
      exact TE.jb_go () [] ⟨rfl, trivial⟩ rfl
    · refine TO.y (Y.field_box kf130_0 rfl rfl) (Gd.at 5 false 10 (sLt a.Key b.Key) rfl rfl rfl (beq_ff H5)) rfl rfl ?_
      refine TO.y (Y.load_box (v := strV a.Key) 1 kk9 rfl rfl rfl) (Gd.at 5 false 10 (sLt a.Key b.Key) rfl rfl rfl (beq_ff H5)) rfl rfl ?_
      refine TO.y (Y.field_box kf130_0 rfl rfl) (Gd.at 5 false 10 (sLt a.Key b.Key) rfl rfl rfl (beq_ff H5)) rfl rfl ?_
      refine TO.y (Y.load_box (v := strV b.Key) 0 kk9 rfl rfl rfl) (Gd.at 5 false 10 (sLt a.Key b.Key) rfl rfl rfl (beq_ff H5)) rfl rfl ?_
      refine TO.y (Y.seql rfl rfl) (Gd.at 5 false 10 (sLt a.Key b.Key) rfl rfl rfl (beq_ff H5)) rfl rfl ?_
      refine TO.y (Y.move rfl) (Gd.at 5 false 10 (sLt a.Key b.Key) rfl rfl rfl (beq_ff H5)) rfl rfl ?_
      refine TO.ite (b := decide (a.Key = b.Key)) (fun H6 => ?_) (fun H6 => ?_)
      · refine TO.y (Y.field_box kf130_1 rfl rfl) (Gd.at 11 true 16 (decide (a.Key = b.Key)) rfl rfl rfl (beq_tt H6)) rfl rfl ?_
        refine TO.y (Y.load_box (v := .int .i64 a.Seq) 1 kk3 rfl rfl rfl) (Gd.at 11 true 16 (decide (a.Key = b.Key)) rfl rfl rfl (beq_tt H6)) rfl rfl ?_
        refine TO.y (Y.field_box kf130_1 rfl rfl) (Gd.at 11 true 16 (decide (a.Key = b.Key)) rfl rfl rfl (beq_tt H6)) rfl rfl ?_
        refine TO.y (Y.load_box (v := .int .i64 b.Seq) 0 kk3 rfl rfl rfl) (Gd.at 11 true 16 (decide (a.Key = b.Key)) rfl rfl rfl (beq_tt H6)) rfl rfl ?_
        refine TO.y (Y.gtr rfl rfl) (Gd.at 11 true 16 (decide (a.Key = b.Key)) rfl rfl rfl (beq_tt H6)) rfl rfl ?_
        refine TO.y (Y.pick_t H6 rfl rfl) (Gd.at 5 false 10 (sLt a.Key b.Key) rfl rfl rfl (beq_ff H5)) rfl rfl ?_
        refine TO.y (Y.pick_f H5 rfl rfl) rfl rfl rfl ?_
        refine TO.y (Y.assign rfl) rfl rfl rfl ?_
        refine TO.nil ?_
        exact TE.jb_go () [] ⟨rfl, trivial⟩ rfl
      · refine TO.off (Gd.at 11 true 16 (decide (a.Key = b.Key)) rfl rfl rfl (beq_ft H6)) rfl rfl ?_
        refine TO.off (Gd.at 11 true 16 (decide (a.Key = b.Key)) rfl rfl rfl (beq_ft H6)) rfl rfl ?_
        refine TO.off (Gd.at 11 true 16 (decide (a.Key = b.Key)) rfl rfl rfl (beq_ft H6)) rfl rfl ?_
        refine TO.off (Gd.at 11 true 16 (decide (a.Key = b.Key)) rfl rfl rfl (beq_ft H6)) rfl rfl ?_
        refine TO.off (Gd.at 11 true 16 (decide (a.Key = b.Key)) rfl rfl rfl (beq_ft H6)) rfl rfl ?_
        refine TO.y (Y.pick_f H6 rfl rfl) (Gd.at 5 false 10 (sLt a.Key b.Key) rfl rfl rfl (beq_ff H5)) rfl rfl ?_
        refine TO.y (Y.pick_f H5 rfl rfl) rfl rfl rfl ?_
        refine TO.y (Y.assign rfl) rfl rfl rfl ?_
        refine TO.nil ?_
        exact TE.jb_go () [] ⟨rfl, trivial⟩ rfl
  · refine TE.next ?_
    refine TW.ret ?_
    exact TE.leaf fun _ _ hf_ hs_ => ret_any (rs := [.tmp 4]) (vs := [.bool T3]) (.inl rfl) rfl ⟨rfl, trivial⟩ hf_ hs_ ⟨(), rfl, hs_.pulls [] rfl⟩

/-- loop.example/g00950/spec.l9Ents -/
noncomputable def spec_l9Ents (l : List Ent) : Option Bool :=
  bindC (loopO (fun (S1 : Int) => if (decide (S1 < ((l.length : Nat) : Int))) = true then (((idx l S1).bind fun E8 =>
  (spec_l9Ent E8).bind fun R10 =>
  if (!R10) = true then (some true)
  else (if (decide (S1 > (0 : Int))) = true then ((idx l (IntKind.i64.wrap (S1 - (1 : Int)))).bind fun E15 =>
  (spec_l9Ahead E15 E8).bind fun R17 =>
  some (!R17))
  else (some false))).bind (fun (T6 : Bool) =>
  if T6 = true then (some (.done (.done false)))
  else (some (.go (IntKind.i64.wrap (S1 + (1 : Int)))))))
  else (some (.done (.go ()))))
  (0 : Int))
  (fun (T3 : Unit) => some true)

theorem spec_l9Ents_con (l : List Ent) (V_l0 : Value) (r : Bool) (hm : spec_l9Ents l = some r) :
    Con Try.prog 97 [V_l0] [] [(V_l0, lc l)] (fun _ : Unit => .bool r) (fun _ => []) := by
  refine Con.intro (args := [V_l0]) (n := 33) (val := fun r (_ : Unit) => .bool r) (post := fun _ _ => []) (m := spec_l9Ents l) Try.func97 rfl rfl rfl hm ?_
  intro w S hrd
  have HB_V_l0 := hrd _ (.head _)
  clear hrd
  unfold spec_l9Ents
  refine TW.seq ?_
  refine TW.region ?_
  refine TO.y (Y.assign rfl) rfl rfl rfl ?_
  refine TO.nil ?_
  refine TE.next ?_
  refine TW.seq ?_
  refine TW.seq ?_
  refine TW.region ?_
  refine TO.y (Y.assign rfl) rfl rfl rfl ?_
  refine TO.nil ?_
  refine TE.next ?_
  refine TW.joinX (τ := Unit) (X := Unit) (fun _ _ => []) (fun _ _ => []) ?_ (fun T3 X4 => ?_)
  · refine TW.block ?_
    refine TW.loopX (σ := Int) (X := Unit) (fun T _ => [(0, V_l0), (3, .int .i64 T)]) (fun _ _ => []) () [] ⟨rfl, rfl, trivial⟩ rfl (fun S1 X2 => ?_)
    refine TW.seq ?_
    refine TW.seq ?_
    refine TW.region ?_
    refine TO.y (Y.move rfl) rfl rfl rfl ?_
    refine TO.y (Y.move rfl) rfl rfl rfl ?_
    refine TO.y (Y.len (l := l) ke80 (Base.can HB_V_l0) rfl) rfl rfl rfl ?_
    refine TO.y (Y.lss rfl rfl) rfl rfl rfl ?_
    refine TO.nil ?_
    refine TE.next ?_
    refine TW.cond rfl (fun H5 => ?_) (fun H5 => ?_)
    · refine TW.skip ?_
      refine TE.next ?_
      refine TW.seq ?_
      refine TW.block ?_
      refine TW.seq ?_
      refine TW.joinBX (τ := Bool) (X := Unit) (fun T _ => [(0, V_l0), (3, .int .i64 S1), (32, .bool T)]) (fun _ _ => []) ?_ (fun T6 X7 => ?_)
      · refine TW.draw (isH := []) hMix ?_
        refine TA.y (listed' := #[true, false, false, false, false, false, false, false, false, false, false, false, false, false, false, false, false, false, false, false, false, false, false]) 0 [] rfl (Y.move rfl) rfl rfl rfl (by kernel_rfl) (by kernel_rfl) (by kernel_rfl) rfl rfl ?_
        refine TA.y (listed' := #[true, true, false, false, false, false, false, false, false, false, false, false, false, false, false, false, false, false, false, false, false, false, false]) 1 [] rfl (Y.move rfl) rfl rfl rfl (by kernel_rfl) (by kernel_rfl) (by kernel_rfl) rfl rfl ?_
        refine TA.bind fun E8 H9 => ?_
        refine TA.y (listed' := #[true, true, true, false, false, false, false, false, false, false, false, false, false, false, false, false, false, false, false, false, false, false, false]) 2 [] rfl (Y.index ke80 (Base.can HB_V_l0) H9 rfl rfl) rfl rfl rfl (by kernel_rfl) (by kernel_rfl) (by kernel_rfl) rfl rfl ?_
        refine TA.y (listed' := #[true, true, true, true, false, false, false, false, false, false, false, false, false, false, false, false, false, false, false, false, false, false, false]) 3 [] rfl (Y.load_el (us := [strV E8.Key, .int .i64 E8.Seq, .bool E8.Del, strV E8.Val]) (u := .agg #[strV E8.Key, .int .i64 E8.Seq, .bool E8.Del, strV E8.Val]) kk130 rfl (Base.can HB_V_l0) (idx_get H9).2.2 rfl rfl rfl rfl rfl) rfl rfl rfl (by kernel_rfl) (by kernel_rfl) (by kernel_rfl) rfl rfl ?_
        refine TA.bind fun R10 H11 => ?_
        refine TA.one 4 (by kernel_rfl) ?_
        refine TX.ef (listed' := #[true, true, true, true, true, false, false, false, false, false, false, false, false, false, false, false, false, false, false, false, false, false, false]) [] rfl (Ef.call (rest := []) [] (spec_l9Ent_con E8  R10 H11) kc131 rfl rfl trivial) rfl rfl rfl rfl (fun _ => rfl) (fun _ => ?_)
        refine TA.y (listed' := #[true, true, true, true, true, true, false, false, false, false, false, false, false, false, false, false, false, false, false, false, false, false, false]) 5 [] rfl (Y.not rfl) rfl rfl rfl (by kernel_rfl) (by kernel_rfl) (by kernel_rfl) rfl rfl ?_
        refine TA.y (listed' := #[true, true, true, true, true, true, true, false, false, false, false, false, false, false, false, false, false, false, false, false, false, false, false]) 6 [] rfl (Y.move rfl) rfl rfl rfl (by kernel_rfl) (by kernel_rfl) (by kernel_rfl) rfl rfl ?_
        refine TA.ite (b := !R10) (fun H13 => ?_) (fun H13 => ?_)
        · refine TA.off (listed' := #[true, true, true, true, true, true, true, true, false, false, false, false, false, false, false, false, false, false, false, false, false, false, false]) 7 [] rfl (Gd.at 6 false 16 (!R10) rfl rfl rfl (beq_tf H13)) rfl rfl (by kernel_rfl) (by kernel_rfl) (by kernel_rfl) rfl rfl ?_
          refine TA.off (listed' := #[true, true, true, true, true, true, true, true, true, false, false, false, false, false, false, false, false, false, false, false, false, false, false]) 8 [] rfl (Gd.at 6 false 16 (!R10) rfl rfl rfl (beq_tf H13)) rfl rfl (by kernel_rfl) (by kernel_rfl) (by kernel_rfl) rfl rfl ?_
          refine TA.off (listed' := #[true, true, true, true, true, true, true, true, true, true, false, false, false, false, false, false, false, false, false, false, false, false, false]) 9 [] rfl (Gd.at 6 false 16 (!R10) rfl rfl rfl (beq_tf H13)) rfl rfl (by kernel_rfl) (by kernel_rfl) (by kernel_rfl) rfl rfl ?_
          refine TA.off (listed' := #[true, true, true, true, true, true, true, true, true, true, true, false, false, false, false, false, false, false, false, false, false, false, false]) 10 [] rfl (Gd.un 9 true 19 rfl rfl rfl) rfl rfl (by kernel_rfl) (by kernel_rfl) (by kernel_rfl) rfl rfl ?_
          refine TA.off (listed' := #[true, true, true, true, true, true, true, true, true, true, true, true, false, false, false, false, false, false, false, false, false, false, false]) 11 [] rfl (Gd.un 9 true 19 rfl rfl rfl) rfl rfl (by kernel_rfl) (by kernel_rfl) (by kernel_rfl) rfl rfl ?_
          refine TA.off (listed' := #[true, true, true, true, true, true, true, true, true, true, true, true, true, false, false, false, false, false, false, false, false, false, false]) 12 [] rfl (Gd.un 9 true 19 rfl rfl rfl) rfl rfl (by kernel_rfl) (by kernel_rfl) (by kernel_rfl) rfl rfl ?_
          refine TA.off (listed' := #[true, true, true, true, true, true, true, true, true, true, true, true, true, true, false, false, false, false, false, false, false, false, false]) 13 [] rfl (Gd.un 9 true 19 rfl rfl rfl) rfl rfl (by kernel_rfl) (by kernel_rfl) (by kernel_rfl) rfl rfl ?_
          refine TA.off (listed' := #[true, true, true, true, true, true, true, true, true, true, true, true, true, true, true, false, false, false, false, false, false, false, false]) 14 [] rfl (Gd.un 9 true 19 rfl rfl rfl) rfl rfl (by kernel_rfl) (by kernel_rfl) (by kernel_rfl) rfl rfl ?_
          refine TA.off (listed' := #[true, true, true, true, true, true, true, true, true, true, true, true, true, true, true, true, false, false, false, false, false, false, false]) 15 [] rfl (Gd.un 9 true 19 rfl rfl rfl) rfl rfl (by kernel_rfl) (by kernel_rfl) (by kernel_rfl) rfl rfl ?_
          refine TA.off (listed' := #[true, true, true, true, true, true, true, true, true, true, true, true, true, true, true, true, true, false, false, false, false, false, false]) 16 [] rfl (Gd.un 9 true 19 rfl rfl rfl) rfl rfl (by kernel_rfl) (by kernel_rfl) (by kernel_rfl) rfl rfl ?_
          refine TA.off (listed' := #[true, true, true, true, true, true, true, true, true, true, true, true, true, true, true, true, true, true, false, false, false, false, false]) 17 [] rfl (Gd.un 9 true 19 rfl rfl rfl) rfl rfl (by kernel_rfl) (by kernel_rfl) (by kernel_rfl) rfl rfl ?_
          refine TA.off (listed' := #[true, true, true, true, true, true, true, true, true, true, true, true, true, true, true, true, true, true, true, false, false, false, false]) 18 [] rfl (Gd.un 9 true 19 rfl rfl rfl) rfl rfl (by kernel_rfl) (by kernel_rfl) (by kernel_rfl) rfl rfl ?_
          refine TA.off (listed' := #[true, true, true, true, true, true, true, true, true, true, true, true, true, true, true, true, true, true, true, true, false, false, false]) 19 [] rfl (Gd.un 9 true 19 rfl rfl rfl) rfl rfl (by kernel_rfl) (by kernel_rfl) (by kernel_rfl) rfl rfl ?_
          refine TA.off (listed' := #[true, true, true, true, true, true, true, true, true, true, true, true, true, true, true, true, true, true, true, true, true, false, false]) 20 [] rfl (Gd.un 9 true 19 rfl rfl rfl) rfl rfl (by kernel_rfl) (by kernel_rfl) (by kernel_rfl) rfl rfl ?_
          refine TA.off (listed' := #[true, true, true, true, true, true, true, true, true, true, true, true, true, true, true, true, true, true, true, true, true, true, false]) 21 [] rfl (Gd.at 6 false 16 (!R10) rfl rfl rfl (beq_tf H13)) rfl rfl (by kernel_rfl) (by kernel_rfl) (by kernel_rfl) rfl rfl ?_
          refine TA.y (listed' := #[true, true, true, true, true, true, true, true, true, true, true, true, true, true, true, true, true, true, true, true, true, true, true]) 22 [] rfl (Y.pick_t H13 rfl rfl) rfl rfl rfl (by kernel_rfl) (by kernel_rfl) (by kernel_rfl) rfl rfl ?_
          refine TA.nil (by kernel_rfl) ?_
          exact TE.jb_go () [] ⟨rfl, rfl, rfl, trivial⟩ rfl
        · refine TA.y (listed' := #[true, true, true, true, true, true, true, true, false, false, false, false, false, false, false, false, false, false, false, false, false, false, false]) 7 [] rfl (Y.move rfl) (Gd.at 6 false 16 (!R10) rfl rfl rfl (beq_ff H13)) rfl rfl (by kernel_rfl) (by kernel_rfl) (by kernel_rfl) rfl rfl ?_
          refine TA.y (listed' := #[true, true, true, true, true, true, true, true, true, false, false, false, false, false, false, false, false, false, false, false, false, false, false]) 8 [] rfl (Y.gtr rfl rfl) (Gd.at 6 false 16 (!R10) rfl rfl rfl (beq_ff H13)) rfl rfl (by kernel_rfl) (by kernel_rfl) (by kernel_rfl) rfl rfl ?_
          refine TA.y (listed' := #[true, true, true, true, true, true, true, true, true, true, false, false, false, false, false, false, false, false, false, false, false, false, false]) 9 [] rfl (Y.move rfl) (Gd.at 6 false 16 (!R10) rfl rfl rfl (beq_ff H13)) rfl rfl (by kernel_rfl) (by kernel_rfl) (by kernel_rfl) rfl rfl ?_
          refine TA.ite (b := decide (S1 > (0 : Int))) (fun H14 => ?_) (fun H14 => ?_)
          · refine TA.y (listed' := #[true, true, true, true, true, true, true, true, true, true, true, false, false, false, false, false, false, false, false, false, false, false, false]) 10 [] rfl (Y.move rfl) (Gd.at 9 true 19 (decide (S1 > (0 : Int))) rfl rfl rfl (beq_tt H14)) rfl rfl (by kernel_rfl) (by kernel_rfl) (by kernel_rfl) rfl rfl ?_
            refine TA.y (listed' := #[true, true, true, true, true, true, true, true, true, true, true, true, false, false, false, false, false, false, false, false, false, false, false]) 11 [] rfl (Y.move rfl) (Gd.at 9 true 19 (decide (S1 > (0 : Int))) rfl rfl rfl (beq_tt H14)) rfl rfl (by kernel_rfl) (by kernel_rfl) (by kernel_rfl) rfl rfl ?_
            refine TA.y (listed' := #[true, true, true, true, true, true, true, true, true, true, true, true, true, false, false, false, false, false, false, false, false, false, false]) 12 [] rfl (Y.sub rfl rfl) (Gd.at 9 true 19 (decide (S1 > (0 : Int))) rfl rfl rfl (beq_tt H14)) rfl rfl (by kernel_rfl) (by kernel_rfl) (by kernel_rfl) rfl rfl ?_
            refine TA.bind fun E15 H16 => ?_
            refine TA.y (listed' := #[true, true, true, true, true, true, true, true, true, true, true, true, true, true, false, false, false, false, false, false, false, false, false]) 13 [] rfl (Y.index ke80 (Base.can HB_V_l0) H16 rfl rfl) (Gd.at 9 true 19 (decide (S1 > (0 : Int))) rfl rfl rfl (beq_tt H14)) rfl rfl (by kernel_rfl) (by kernel_rfl) (by kernel_rfl) rfl rfl ?_
            refine TA.y (listed' := #[true, true, true, true, true, true, true, true, true, true, true, true, true, true, true, false, false, false, false, false, false, false, false]) 14 [] rfl (Y.load_el (us := [strV E15.Key, .int .i64 E15.Seq, .bool E15.Del, strV E15.Val]) (u := .agg #[strV E15.Key, .int .i64 E15.Seq, .bool E15.Del, strV E15.Val]) kk130 rfl (Base.can HB_V_l0) (idx_get H16).2.2 rfl rfl rfl rfl rfl) (Gd.at 9 true 19 (decide (S1 > (0 : Int))) rfl rfl rfl (beq_tt H14)) rfl rfl (by kernel_rfl) (by kernel_rfl) (by kernel_rfl) rfl rfl ?_
            refine TA.y (listed' := #[true, true, true, true, true, true, true, true, true, true, true, true, true, true, true, true, false, false, false, false, false, false, false]) 15 [] rfl (Y.move rfl) (Gd.at 9 true 19 (decide (S1 > (0 : Int))) rfl rfl rfl (beq_tt H14)) rfl rfl (by kernel_rfl) (by kernel_rfl) (by kernel_rfl) rfl rfl ?_
            refine TA.y (listed' := #[true, true, true, true, true, true, true, true, true, true, true, true, true, true, true, true, true, false, false, false, false, false, false]) 16 [] rfl (Y.move rfl) (Gd.at 9 true 19 (decide (S1 > (0 : Int))) rfl rfl rfl (beq_tt H14)) rfl rfl (by kernel_rfl) (by kernel_rfl) (by kernel_rfl) rfl rfl ?_
            refine TA.y (listed' := #[true, true, true, true, true, true, true, true, true, true, true, true, true, true, true, true, true, true, false, false, false, false, false]) 17 [] rfl (Y.index ke80 (Base.can HB_V_l0) H9 rfl rfl) (Gd.at 9 true 19 (decide (S1 > (0 : Int))) rfl rfl rfl (beq_tt H14)) rfl rfl (by kernel_rfl) (by kernel_rfl) (by kernel_rfl) rfl rfl ?_
            refine TA.y (listed' := #[true, true, true, true, true, true, true, true, true, true, true, true, true, true, true, true, true, true, true, false, false, false, false]) 18 [] rfl (Y.load_el (us := [strV E8.Key, .int .i64 E8.Seq, .bool E8.Del, strV E8.Val]) (u := .agg #[strV E8.Key, .int .i64 E8.Seq, .bool E8.Del, strV E8.Val]) kk130 rfl (Base.can HB_V_l0) (idx_get H9).2.2 rfl rfl rfl rfl rfl) (Gd.at 9 true 19 (decide (S1 > (0 : Int))) rfl rfl rfl (beq_tt H14)) rfl rfl (by kernel_rfl) (by kernel_rfl) (by kernel_rfl) rfl rfl ?_
            refine TA.bind fun R17 H18 => ?_
            refine TA.one 19 (by kernel_rfl) ?_
            refine TX.ef (listed' := #[true, true, true, true, true, true, true, true, true, true, true, true, true, true, true, true, true, true, true, true, false, false, false]) [] rfl (Ef.call (rest := []) [] (spec_l9Ahead_con E15 E8  R17 H18) kc132 rfl rfl trivial) (Gd.at 9 true 19 (decide (S1 > (0 : Int))) rfl rfl rfl (beq_tt H14)) rfl rfl rfl (fun _ => rfl) (fun _ => ?_)
            refine TA.y (listed' := #[true, true, true, true, true, true, true, true, true, true, true, true, true, true, true, true, true, true, true, true, true, false, false]) 20 [] rfl (Y.not rfl) (Gd.at 9 true 19 (decide (S1 > (0 : Int))) rfl rfl rfl (beq_tt H14)) rfl rfl (by kernel_rfl) (by kernel_rfl) (by kernel_rfl) rfl rfl ?_
            refine TA.y (listed' := #[true, true, true, true, true, true, true, true, true, true, true, true, true, true, true, true, true, true, true, true, true, true, false]) 21 [] rfl (Y.pick_t H14 rfl rfl) (Gd.at 6 false 16 (!R10) rfl rfl rfl (beq_ff H13)) rfl rfl (by kernel_rfl) (by kernel_rfl) (by kernel_rfl) rfl rfl ?_
            refine TA.y (listed' := #[true, true, true, true, true, true, true, true, true, true, true, true, true, true, true, true, true, true, true, true, true, true, true]) 22 [] rfl (Y.pick_f H13 rfl rfl) rfl rfl rfl (by kernel_rfl) (by kernel_rfl) (by kernel_rfl) rfl rfl ?_
            refine TA.nil (by kernel_rfl) ?_
            exact TE.jb_go () [] ⟨rfl, rfl, rfl, trivial⟩ rfl
          · refine TA.off (listed' := #[true, true, true, true, true, true, true, true, true, true, true, false, false, false, false, false, false, false, false, false, false, false, false]) 10 [] rfl (Gd.at 9 true 19 (decide (S1 > (0 : Int))) rfl rfl rfl (beq_ft H14)) rfl rfl (by kernel_rfl) (by kernel_rfl) (by kernel_rfl) rfl rfl ?_
            refine TA.off (listed' := #[true, true, true, true, true, true, true, true, true, true, true, true, false, false, false, false, false, false, false, false, false, false, false]) 11 [] rfl (Gd.at 9 true 19 (decide (S1 > (0 : Int))) rfl rfl rfl (beq_ft H14)) rfl rfl (by kernel_rfl) (by kernel_rfl) (by kernel_rfl) rfl rfl ?_
            refine TA.off (listed' := #[true, true, true, true, true, true, true, true, true, true, true, true, true, false, false, false, false, false, false, false, false, false, false]) 12 [] rfl (Gd.at 9 true 19 (decide (S1 > (0 : Int))) rfl rfl rfl (beq_ft H14)) rfl rfl (by kernel_rfl) (by kernel_rfl) (by kernel_rfl) rfl rfl ?_
            refine TA.off (listed' := #[true, true, true, true, true, true, true, true, true, true, true, true, true, true, false, false, false, false, false, false, false, false, false]) 13 [] rfl (Gd.at 9 true 19 (decide (S1 > (0 : Int))) rfl rfl rfl (beq_ft H14)) rfl rfl (by kernel_rfl) (by kernel_rfl) (by kernel_rfl) rfl rfl ?_
            refine TA.off (listed' := #[true, true, true, true, true, true, true, true, true, true, true, true, true, true, true, false, false, false, false, false, false, false, false]) 14 [] rfl (Gd.at 9 true 19 (decide (S1 > (0 : Int))) rfl rfl rfl (beq_ft H14)) rfl rfl (by kernel_rfl) (by kernel_rfl) (by kernel_rfl) rfl rfl ?_
            refine TA.off (listed' := #[true, true, true, true, true, true, true, true, true, true, true, true, true, true, true, true, false, false, false, false, false, false, false]) 15 [] rfl (Gd.at 9 true 19 (decide (S1 > (0 : Int))) rfl rfl rfl (beq_ft H14)) rfl rfl (by kernel_rfl) (by kernel_rfl) (by kernel_rfl) rfl rfl ?_
            refine TA.off (listed' := #[true, true, true, true, true, true, true, true, true, true, true, true, true, true, true, true, true, false, false, false, false, false, false]) 16 [] rfl (Gd.at 9 true 19 (decide (S1 > (0 : Int))) rfl rfl rfl (beq_ft H14)) rfl rfl (by kernel_rfl) (by kernel_rfl) (by kernel_rfl) rfl rfl ?_
            refine TA.off (listed' := #[true, true, true, true, true, true, true, true, true, true, true, true, true, true, true, true, true, true, false, false, false, false, false]) 17 [] rfl (Gd.at 9 true 19 (decide (S1 > (0 : Int))) rfl rfl rfl (beq_ft H14)) rfl rfl (by kernel_rfl) (by kernel_rfl) (by kernel_rfl) rfl rfl ?_
            refine TA.off (listed' := #[true, true, true, true, true, true, true, true, true, true, true, true, true, true, true, true, true, true, true, false, false, false, false]) 18 [] rfl (Gd.at 9 true 19 (decide (S1 > (0 : Int))) rfl rfl rfl (beq_ft H14)) rfl rfl (by kernel_rfl) (by kernel_rfl) (by kernel_rfl) rfl rfl ?_
            refine TA.off (listed' := #[true, true, true, true, true, true, true, true, true, true, true, true, true, true, true, true, true, true, true, true, false, false, false]) 19 [] rfl (Gd.at 9 true 19 (decide (S1 > (0 : Int))) rfl rfl rfl (beq_ft H14)) rfl rfl (by kernel_rfl) (by kernel_rfl) (by kernel_rfl) rfl rfl ?_
            refine TA.off (listed' := #[true, true, true, true, true, true, true, true, true, true, true, true, true, true, true, true, true, true, true, true, true, false, false]) 20 [] rfl (Gd.at 9 true 19 (decide (S1 > (0 : Int))) rfl rfl rfl (beq_ft H14)) rfl rfl (by kernel_rfl) (by kernel_rfl) (by kernel_rfl) rfl rfl ?_
            refine TA.y (listed' := #[true, true, true, true, true, true, true, true, true, true, true, true, true, true, true, true, true, true, true, true, true, true, false]) 21 [] rfl (Y.pick_f H14 rfl rfl) (Gd.at 6 false 16 (!R10) rfl rfl rfl (beq_ff H13)) rfl rfl (by kernel_rfl) (by kernel_rfl) (by kernel_rfl) rfl rfl ?_
            refine TA.y (listed' := #[true, true, true, true, true, true, true, true, true, true, true, true, true, true, true, true, true, true, true, true, true, true, true]) 22 [] rfl (Y.pick_f H13 rfl rfl) rfl rfl rfl (by kernel_rfl) (by kernel_rfl) (by kernel_rfl) rfl rfl ?_
            refine TA.nil (by kernel_rfl) ?_
            exact TE.jb_go () [] ⟨rfl, rfl, rfl, trivial⟩ rfl
      · refine TE.next ?_
        refine TW.cond rfl (fun H20 => ?_) (fun H20 => ?_)
        · refine TW.seq ?_
          refine TW.region ?_
          refine TO.y (Y.assign rfl) rfl rfl rfl ?_
          refine TO.nil ?_
          refine TE.next ?_
          refine TW.ret ?_
          refine TE.block_ret ?_
          refine TE.then_ret ?_
          refine TE.lp_ret ?_
          refine TE.block_ret ?_
          refine TE.jn_done ?_
          refine TE.then_ret ?_
          exact TE.leaf fun _ _ hf_ hs_ => ret_any (rs := [.tmp 2]) (vs := [.bool false]) (.inl rfl) rfl ⟨rfl, trivial⟩ hf_ hs_ ⟨(), rfl, hs_.pulls [] rfl⟩
        · refine TW.skip ?_
          refine TE.block_normal ?_
          refine TE.next ?_
          refine TW.region ?_
          refine TO.y (Y.move rfl) rfl rfl rfl ?_
          refine TO.y (Y.add rfl rfl) rfl rfl rfl ?_
          refine TO.y (Y.assign rfl) rfl rfl rfl ?_
          refine TO.nil ?_
          exact TE.lp_go () [] ⟨rfl, rfl, trivial⟩ rfl
    · refine TW.exit ?_
      refine TE.then_exit ?_
      refine TE.lp_exit ?_
      refine TE.block_exit ?_
      exact TE.jn_go () [] trivial rfl
  · refine TE.next ?_
    refine TW.seq ?_
    refine TW.region ?_
    refine TO.y (Y.assign rfl) rfl rfl rfl ?_
    refine TO.nil ?_
    refine TE.next ?_
    refine TW.ret ?_
    exact TE.leaf fun _ _ hf_ hs_ => ret_any (rs := [.tmp 2]) (vs := [.bool true]) (.inl rfl) rfl ⟨rfl, trivial⟩ hf_ hs_ ⟨(), rfl, hs_.pulls [] rfl⟩

/-- loop.example/g00950/spec.l15Last -/
noncomputable def spec_l15Last (l : List Ent) (at_ : Int) : Option Int :=
  bindC (loopO (fun (S1 : Int) => (if (decide (S1 < ((l.length : Nat) : Int))) = true then ((idx l S1).bind fun E8 =>
  (idx l at_).bind fun E10 =>
  some (decide (E8.Key = E10.Key)))
  else (some false)).bind (fun (T5 : Bool) =>
  if T5 = true then (some (.go (IntKind.i64.wrap (S1 + (1 : Int)))))
  else (some (.done (.go S1)))))
  at_)
  (fun (T3 : Int) => some T3)

theorem spec_l15Last_con (l : List Ent) (at_ : Int) (V_l0 : Value) (r : Int) (hm : spec_l15Last l at_ = some r) :
    Con Try.prog 98 [V_l0, .int .i64 at_] [] [(V_l0, lc l)] (fun _ : Unit => .int .i64 r) (fun _ => []) := by
  refine Con.intro (args := [V_l0, .int .i64 at_]) (n := 27) (val := fun r (_ : Unit) => .int .i64 r) (post := fun _ _ => []) (m := spec_l15Last l at_) Try.func98 rfl rfl rfl hm ?_
  intro w S hrd
  have HB_V_l0 := hrd _ (.head _)
  clear hrd
  unfold spec_l15Last
  refine TW.seq ?_
  refine TW.region ?_
  refine TO.y (Y.assign rfl) rfl rfl rfl ?_
  refine TO.nil ?_
  refine TE.next ?_
  refine TW.seq ?_
  refine TW.region ?_
  refine TO.y (Y.move rfl) rfl rfl rfl ?_
  refine TO.y (Y.assign rfl) rfl rfl rfl ?_
  refine TO.nil ?_
  refine TE.next ?_
  refine TW.seq ?_
  refine TW.joinX (τ := Int) (X := Unit) (fun T _ => [(5, .int .i64 T)]) (fun _ _ => []) ?_ (fun T3 X4 => ?_)
  · refine TW.block ?_
    refine TW.loopX (σ := Int) (X := Unit) (fun T _ => [(0, V_l0), (1, .int .i64 at_), (5, .int .i64 T)]) (fun _ _ => []) () [] ⟨rfl, rfl, rfl, trivial⟩ rfl (fun S1 X2 => ?_)
    refine TW.seq ?_
    refine TW.seq ?_
    refine TW.joinBX (τ := Bool) (X := Unit) (fun T _ => [(0, V_l0), (1, .int .i64 at_), (5, .int .i64 S1), (23, .bool T)]) (fun _ _ => []) ?_ (fun T5 X6 => ?_)
    · refine TW.draw (isH := []) hMix ?_
      refine TA.y (listed' := #[true, false, false, false, false, false, false, false, false, false, false, false, false, false, false, false, false]) 0 [] rfl (Y.move rfl) rfl rfl rfl (by kernel_rfl) (by kernel_rfl) (by kernel_rfl) rfl rfl ?_
      refine TA.y (listed' := #[true, true, false, false, false, false, false, false, false, false, false, false, false, false, false, false, false]) 1 [] rfl (Y.move rfl) rfl rfl rfl (by kernel_rfl) (by kernel_rfl) (by kernel_rfl) rfl rfl ?_
      refine TA.y (listed' := #[true, true, true, false, false, false, false, false, false, false, false, false, false, false, false, false, false]) 2 [] rfl (Y.len (l := l) ke80 (Base.can HB_V_l0) rfl) rfl rfl rfl (by kernel_rfl) (by kernel_rfl) (by kernel_rfl) rfl rfl ?_
      refine TA.y (listed' := #[true, true, true, true, false, false, false, false, false, false, false, false, false, false, false, false, false]) 3 [] rfl (Y.lss rfl rfl) rfl rfl rfl (by kernel_rfl) (by kernel_rfl) (by kernel_rfl) rfl rfl ?_
      refine TA.y (listed' := #[true, true, true, true, true, false, false, false, false, false, false, false, false, false, false, false, false]) 4 [] rfl (Y.move rfl) rfl rfl rfl (by kernel_rfl) (by kernel_rfl) (by kernel_rfl) rfl rfl ?_
      refine TA.ite (b := decide (S1 < ((l.length : Nat) : Int))) (fun H7 => ?_) (fun H7 => ?_)
      · refine TA.y (listed' := #[true, true, true, true, true, true, false, false, false, false, false, false, false, false, false, false, false]) 5 [] rfl (Y.move rfl) (Gd.at 4 true 11 (decide (S1 < ((l.length : Nat) : Int))) rfl rfl rfl (beq_tt H7)) rfl rfl (by kernel_rfl) (by kernel_rfl) (by kernel_rfl) rfl rfl ?_
        refine TA.y (listed' := #[true, true, true, true, true, true, true, false, false, false, false, false, false, false, false, false, false]) 6 [] rfl (Y.move rfl) (Gd.at 4 true 11 (decide (S1 < ((l.length : Nat) : Int))) rfl rfl rfl (beq_tt H7)) rfl rfl (by kernel_rfl) (by kernel_rfl) (by kernel_rfl) rfl rfl ?_
        refine TA.bind fun E8 H9 => ?_
        refine TA.y (listed' := #[true, true, true, true, true, true, true, true, false, false, false, false, false, false, false, false, false]) 7 [] rfl (Y.index ke80 (Base.can HB_V_l0) H9 rfl rfl) (Gd.at 4 true 11 (decide (S1 < ((l.length : Nat) : Int))) rfl rfl rfl (beq_tt H7)) rfl rfl (by kernel_rfl) (by kernel_rfl) (by kernel_rfl) rfl rfl ?_
        refine TA.y (listed' := #[true, true, true, true, true, true, true, true, true, false, false, false, false, false, false, false, false]) 8 [] rfl (Y.field_el kf130_0 (Base.can HB_V_l0) (idx_get H9).2.2 rfl rfl) (Gd.at 4 true 11 (decide (S1 < ((l.length : Nat) : Int))) rfl rfl rfl (beq_tt H7)) rfl rfl (by kernel_rfl) (by kernel_rfl) (by kernel_rfl) rfl rfl ?_
        refine TA.y (listed' := #[true, true, true, true, true, true, true, true, true, true, false, false, false, false, false, false, false]) 9 [] rfl (Y.load_el (us := [strV E8.Key]) (u := strV E8.Key) kk9 rfl (Base.can HB_V_l0) (idx_get H9).2.2 rfl rfl rfl rfl rfl) (Gd.at 4 true 11 (decide (S1 < ((l.length : Nat) : Int))) rfl rfl rfl (beq_tt H7)) rfl rfl (by kernel_rfl) (by kernel_rfl) (by kernel_rfl) rfl rfl ?_
        refine TA.y (listed' := #[true, true, true, true, true, true, true, true, true, true, true, false, false, false, false, false, false]) 10 [] rfl (Y.move rfl) (Gd.at 4 true 11 (decide (S1 < ((l.length : Nat) : Int))) rfl rfl rfl (beq_tt H7)) rfl rfl (by kernel_rfl) (by kernel_rfl) (by kernel_rfl) rfl rfl ?_
        refine TA.y (listed' := #[true, true, true, true, true, true, true, true, true, true, true, true, false, false, false, false, false]) 11 [] rfl (Y.move rfl) (Gd.at 4 true 11 (decide (S1 < ((l.length : Nat) : Int))) rfl rfl rfl (beq_tt H7)) rfl rfl (by kernel_rfl) (by kernel_rfl) (by kernel_rfl) rfl rfl ?_
        refine TA.bind fun E10 H11 => ?_
        refine TA.y (listed' := #[true, true, true, true, true, true, true, true, true, true, true, true, true, false, false, false, false]) 12 [] rfl (Y.index ke80 (Base.can HB_V_l0) H11 rfl rfl) (Gd.at 4 true 11 (decide (S1 < ((l.length : Nat) : Int))) rfl rfl rfl (beq_tt H7)) rfl rfl (by kernel_rfl) (by kernel_rfl) (by kernel_rfl) rfl rfl ?_
        refine TA.y (listed' := #[true, true, true, true, true, true, true, true, true, true, true, true, true, true, false, false, false]) 13 [] rfl (Y.field_el kf130_0 (Base.can HB_V_l0) (idx_get H11).2.2 rfl rfl) (Gd.at 4 true 11 (decide (S1 < ((l.length : Nat) : Int))) rfl rfl rfl (beq_tt H7)) rfl rfl (by kernel_rfl) (by kernel_rfl) (by kernel_rfl) rfl rfl ?_
        refine TA.y (listed' := #[true, true, true, true, true, true, true, true, true, true, true, true, true, true, true, false, false]) 14 [] rfl (Y.load_el (us := [strV E10.Key]) (u := strV E10.Key) kk9 rfl (Base.can HB_V_l0) (idx_get H11).2.2 rfl rfl rfl rfl rfl) (Gd.at 4 true 11 (decide (S1 < ((l.length : Nat) : Int))) rfl rfl rfl (beq_tt H7)) rfl rfl (by kernel_rfl) (by kernel_rfl) (by kernel_rfl) rfl rfl ?_
        refine TA.y (listed' := #[true, true, true, true, true, true, true, true, true, true, true, true, true, true, true, true, false]) 15 [] rfl (Y.seql rfl rfl) (Gd.at 4 true 11 (decide (S1 < ((l.length : Nat) : Int))) rfl rfl rfl (beq_tt H7)) rfl rfl (by kernel_rfl) (by kernel_rfl) (by kernel_rfl) rfl rfl ?_
        refine TA.y (listed' := #[true, true, true, true, true, true, true, true, true, true, true, true, true, true, true, true, true]) 16 [] rfl (Y.pick_t H7 rfl rfl) rfl rfl rfl (by kernel_rfl) (by kernel_rfl) (by kernel_rfl) rfl rfl ?_
        refine TA.nil (by kernel_rfl) ?_
        exact TE.jb_go () [] ⟨rfl, rfl, rfl, rfl, trivial⟩ rfl
      · refine TA.off (listed' := #[true, true, true, true, true, true, false, false, false, false, false, false, false, false, false, false, false]) 5 [] rfl (Gd.at 4 true 11 (decide (S1 < ((l.length : Nat) : Int))) rfl rfl rfl (beq_ft H7)) rfl rfl (by kernel_rfl) (by kernel_rfl) (by kernel_rfl) rfl rfl ?_
        refine TA.off (listed' := #[true, true, true, true, true, true, true, false, false, false, false, false, false, false, false, false, false]) 6 [] rfl (Gd.at 4 true 11 (decide (S1 < ((l.length : Nat) : Int))) rfl rfl rfl (beq_ft H7)) rfl rfl (by kernel_rfl) (by kernel_rfl) (by kernel_rfl) rfl rfl ?_
        refine TA.off (listed' := #[true, true, true, true, true, true, true, true, false, false, false, false, false, false, false, false, false]) 7 [] rfl (Gd.at 4 true 11 (decide (S1 < ((l.length : Nat) : Int))) rfl rfl rfl (beq_ft H7)) rfl rfl (by kernel_rfl) (by kernel_rfl) (by kernel_rfl) rfl rfl ?_
        refine TA.off (listed' := #[true, true, true, true, true, true, true, true, true, false, false, false, false, false, false, false, false]) 8 [] rfl (Gd.at 4 true 11 (decide (S1 < ((l.length : Nat) : Int))) rfl rfl rfl (beq_ft H7)) rfl rfl (by kernel_rfl) (by kernel_rfl) (by kernel_rfl) rfl rfl ?_
        refine TA.off (listed' := #[true, true, true, true, true, true, true, true, true, true, false, false, false, false, false, false, false]) 9 [] rfl (Gd.at 4 true 11 (decide (S1 < ((l.length : Nat) : Int))) rfl rfl rfl (beq_ft H7)) rfl rfl (by kernel_rfl) (by kernel_rfl) (by kernel_rfl) rfl rfl ?_
        refine TA.off (listed' := #[true, true, true, true, true, true, true, true, true, true, true, false, false, false, false, false, false]) 10 [] rfl (Gd.at 4 true 11 (decide (S1 < ((l.length : Nat) : Int))) rfl rfl rfl (beq_ft H7)) rfl rfl (by kernel_rfl) (by kernel_rfl) (by kernel_rfl) rfl rfl ?_
        refine TA.off (listed' := #[true, true, true, true, true, true, true, true, true, true, true, true, false, false, false, false, false]) 11 [] rfl (Gd.at 4 true 11 (decide (S1 < ((l.length : Nat) : Int))) rfl rfl rfl (beq_ft H7)) rfl rfl (by kernel_rfl) (by kernel_rfl) (by kernel_rfl) rfl rfl ?_
        refine TA.off (listed' := #[true, true, true, true, true, true, true, true, true, true, true, true, true, false, false, false, false]) 12 [] rfl (Gd.at 4 true 11 (decide (S1 < ((l.length : Nat) : Int))) rfl rfl rfl (beq_ft H7)) rfl rfl (by kernel_rfl) (by kernel_rfl) (by kernel_rfl) rfl rfl ?_
        refine TA.off (listed' := #[true, true, true, true, true, true, true, true, true, true, true, true, true, true, false, false, false]) 13 [] rfl (Gd.at 4 true 11 (decide (S1 < ((l.length : Nat) : Int))) rfl rfl rfl (beq_ft H7)) rfl rfl (by kernel_rfl) (by kernel_rfl) (by kernel_rfl) rfl rfl ?_
        refine TA.off (listed' := #[true, true, true, true, true, true, true, true, true, true, true, true, true, true, true, false, false]) 14 [] rfl (Gd.at 4 true 11 (decide (S1 < ((l.length : Nat) : Int))) rfl rfl rfl (beq_ft H7)) rfl rfl (by kernel_rfl) (by kernel_rfl) (by kernel_rfl) rfl rfl ?_
        refine TA.off (listed' := #[true, true, true, true, true, true, true, true, true, true, true, true, true, true, true, true, false]) 15 [] rfl (Gd.at 4 true 11 (decide (S1 < ((l.length : Nat) : Int))) rfl rfl rfl (beq_ft H7)) rfl rfl (by kernel_rfl) (by kernel_rfl) (by kernel_rfl) rfl rfl ?_
        refine TA.y (listed' := #[true, true, true, true, true, true, true, true, true, true, true, true, true, true, true, true, true]) 16 [] rfl (Y.pick_f H7 rfl rfl) rfl rfl rfl (by kernel_rfl) (by kernel_rfl) (by kernel_rfl) rfl rfl ?_
        refine TA.nil (by kernel_rfl) ?_
        exact TE.jb_go () [] ⟨rfl, rfl, rfl, rfl, trivial⟩ rfl
    · refine TE.next ?_
      refine TW.cond rfl (fun H12 => ?_) (fun H12 => ?_)
      · refine TW.skip ?_
        refine TE.next ?_
        refine TW.block ?_
        refine TW.region ?_
        refine TO.y (Y.move rfl) rfl rfl rfl ?_
        refine TO.y (Y.add rfl rfl) rfl rfl rfl ?_
        refine TO.y (Y.assign rfl) rfl rfl rfl ?_
        refine TO.nil ?_
        refine TE.block_normal ?_
        exact TE.lp_go () [] ⟨rfl, rfl, rfl, trivial⟩ rfl
      · refine TW.exit ?_
        refine TE.then_exit ?_
        refine TE.lp_exit ?_
        refine TE.block_exit ?_
        exact TE.jn_go () [] ⟨rfl, trivial⟩ rfl
  · refine TE.next ?_
    refine TW.seq ?_
    refine TW.region ?_
    refine TO.y (Y.move rfl) rfl rfl rfl ?_
    refine TO.y (Y.assign rfl) rfl rfl rfl ?_
    refine TO.nil ?_
    refine TE.next ?_
    refine TW.ret ?_
    exact TE.leaf fun _ _ hf_ hs_ => ret_any (rs := [.tmp 4]) (vs := [.int .i64 T3]) (.inl rfl) rfl ⟨rfl, trivial⟩ hf_ hs_ ⟨(), rfl, hs_.pulls [] rfl⟩

/-- loop.example/g00950/spec.l9Get -/
noncomputable def spec_l9Get (l : List Ent) (key : List UInt8) (seq : Int) : Option (Ent × Bool) :=
  bindC (loopO (fun (S2 : Int) => if (decide (S2 < ((l.length : Nat) : Int))) = true then (((idx l S2).bind fun E9 =>
  if (decide (E9.Key = key)) = true then (some (decide (E9.Seq ≤ seq)))
  else (some false)).bind (fun (T7 : Bool) =>
  if T7 = true then ((idx l S2).bind fun E13 =>
  some (.done (.done (E13, true))))
  else (some (.go (IntKind.i64.wrap (S2 + (1 : Int)))))))
  else (some (.done (.go ()))))
  (0 : Int))
  (fun (T4 : Unit) => some ({ Key := [], Seq := (0 : Int), Del := false, Val := [] : Ent }, false))

theorem spec_l9Get_con (l : List Ent) (key : List UInt8) (seq : Int) (V_l0 : Value) (r : Ent × Bool) (hm : spec_l9Get l key seq = some r) :
    Con Try.prog 133 [V_l0, strV key, .int .i64 seq] [] [(V_l0, lc l)] (fun _ : Unit => .tuple #[.agg #[strV r.1.Key, .int .i64 r.1.Seq, .bool r.1.Del, strV r.1.Val], .bool r.2]) (fun _ => []) := by
  refine Con.intro (args := [V_l0, strV key, .int .i64 seq]) (n := 36) (val := fun r (_ : Unit) => .tuple #[.agg #[strV r.1.Key, .int .i64 r.1.Seq, .bool r.1.Del, strV r.1.Val], .bool r.2]) (post := fun _ _ => []) (m := spec_l9Get l key seq) Try.func133 rfl rfl rfl hm ?_
  intro w S hrd
  have HB_V_l0 := hrd _ (.head _)
  clear hrd
  unfold spec_l9Get
  refine TW.seq ?_
  refine TW.region ?_
  refine TO.ef (Ef.alloc kz130 rfl) rfl rfl rfl (fun B1 => ?_)
  refine TO.y (Y.assign rfl) rfl rfl rfl ?_
  refine TO.nil ?_
  refine TE.next ?_
  refine TW.seq ?_
  refine TW.seq ?_
  refine TW.region ?_
  refine TO.y (Y.assign rfl) rfl rfl rfl ?_
  refine TO.nil ?_
  refine TE.next ?_
  refine TW.joinX (τ := Unit) (X := Unit) (fun _ _ => [(6, .pointer (some ⟨B1, 0, none⟩))]) (fun _ _ => [.box B1 130 [strV ([]), .int .i64 (0 : Int), .bool false, strV ([])]]) ?_ (fun T4 X5 => ?_)
  · refine TW.block ?_
    refine TW.loopX (σ := Int) (X := Unit) (fun T _ => [(0, V_l0), (1, strV key), (2, .int .i64 seq), (6, .pointer (some ⟨B1, 0, none⟩)), (8, .int .i64 T)]) (fun _ _ => [.box B1 130 [strV ([]), .int .i64 (0 : Int), .bool false, strV ([])]]) () [0] ⟨rfl, rfl, rfl, rfl, rfl, trivial⟩ rfl (fun S2 X3 => ?_)
    refine TW.seq ?_
    refine TW.seq ?_
    refine TW.region ?_
    refine TO.y (Y.move rfl) rfl rfl rfl ?_
    refine TO.y (Y.move rfl) rfl rfl rfl ?_
    refine TO.y (Y.len (l := l) ke80 (Base.can HB_V_l0) rfl) rfl rfl rfl ?_
    refine TO.y (Y.lss rfl rfl) rfl rfl rfl ?_
    refine TO.nil ?_
    refine TE.next ?_
    refine TW.cond rfl (fun H6 => ?_) (fun H6 => ?_)
    · refine TW.skip ?_
      refine TE.next ?_
      refine TW.seq ?_
      refine TW.block ?_
      refine TW.seq ?_
      refine TW.joinBX (τ := Bool) (X := Unit) (fun T _ => [(0, V_l0), (1, strV key), (2, .int .i64 seq), (6, .pointer (some ⟨B1, 0, none⟩)), (8, .int .i64 S2), (30, .bool T)]) (fun _ _ => [.box B1 130 [strV ([]), .int .i64 (0 : Int), .bool false, strV ([])]]) ?_ (fun T7 X8 => ?_)
      · refine TW.region ?_
        refine TO.y (Y.move rfl) rfl rfl rfl ?_
        refine TO.y (Y.move rfl) rfl rfl rfl ?_
        refine TO.bind fun E9 H10 => ?_
        refine TO.y (Y.index ke80 (Base.can HB_V_l0) H10 rfl rfl) rfl rfl rfl ?_
        refine TO.y (Y.field_el kf130_0 (Base.can HB_V_l0) (idx_get H10).2.2 rfl rfl) rfl rfl rfl ?_
        refine TO.y (Y.load_el (us := [strV E9.Key]) (u := strV E9.Key) kk9 rfl (Base.can HB_V_l0) (idx_get H10).2.2 rfl rfl rfl rfl rfl) rfl rfl rfl ?_
        refine TO.y (Y.move rfl) rfl rfl rfl ?_
        refine TO.y (Y.seql rfl rfl) rfl rfl rfl ?_
        refine TO.y (Y.move rfl) rfl rfl rfl ?_
        refine TO.ite (b := decide (E9.Key = key)) (fun H11 => ?_) (fun H11 => ?_)
        · refine TO.y (Y.move rfl) (Gd.at 7 true 22 (decide (E9.Key = key)) rfl rfl rfl (beq_tt H11)) rfl rfl ?_
          refine TO.y (Y.move rfl) (Gd.at 7 true 22 (decide (E9.Key = key)) rfl rfl rfl (beq_tt H11)) rfl rfl ?_
          refine TO.y (Y.index ke80 (Base.can HB_V_l0) H10 rfl rfl) (Gd.at 7 true 22 (decide (E9.Key = key)) rfl rfl rfl (beq_tt H11)) rfl rfl ?_
          refine TO.y (Y.field_el kf130_1 (Base.can HB_V_l0) (idx_get H10).2.2 rfl rfl) (Gd.at 7 true 22 (decide (E9.Key = key)) rfl rfl rfl (beq_tt H11)) rfl rfl ?_
          refine TO.y (Y.load_el (us := [.int .i64 E9.Seq]) (u := .int .i64 E9.Seq) kk3 rfl (Base.can HB_V_l0) (idx_get H10).2.2 rfl rfl rfl rfl rfl) (Gd.at 7 true 22 (decide (E9.Key = key)) rfl rfl rfl (beq_tt H11)) rfl rfl ?_
          refine TO.y (Y.move rfl) (Gd.at 7 true 22 (decide (E9.Key = key)) rfl rfl rfl (beq_tt H11)) rfl rfl ?_
          refine TO.y (Y.leq rfl rfl) (Gd.at 7 true 22 (decide (E9.Key = key)) rfl rfl rfl (beq_tt H11)) rfl rfl ?_
          refine TO.y (Y.pick_t H11 rfl rfl) rfl rfl rfl ?_
          refine TO.nil ?_
          exact TE.jb_go () [0] ⟨rfl, rfl, rfl, rfl, rfl, rfl, trivial⟩ rfl
        · refine TO.off (Gd.at 7 true 22 (decide (E9.Key = key)) rfl rfl rfl (beq_ft H11)) rfl rfl ?_
          refine TO.off (Gd.at 7 true 22 (decide (E9.Key = key)) rfl rfl rfl (beq_ft H11)) rfl rfl ?_
          refine TO.off (Gd.at 7 true 22 (decide (E9.Key = key)) rfl rfl rfl (beq_ft H11)) rfl rfl ?_
          refine TO.off (Gd.at 7 true 22 (decide (E9.Key = key)) rfl rfl rfl (beq_ft H11)) rfl rfl ?_
          refine TO.off (Gd.at 7 true 22 (decide (E9.Key = key)) rfl rfl rfl (beq_ft H11)) rfl rfl ?_
          refine TO.off (Gd.at 7 true 22 (decide (E9.Key = key)) rfl rfl rfl (beq_ft H11)) rfl rfl ?_
          refine TO.off (Gd.at 7 true 22 (decide (E9.Key = key)) rfl rfl rfl (beq_ft H11)) rfl rfl ?_
          refine TO.y (Y.pick_f H11 rfl rfl) rfl rfl rfl ?_
          refine TO.nil ?_
          exact TE.jb_go () [0] ⟨rfl, rfl, rfl, rfl, rfl, rfl, trivial⟩ rfl
      · refine TE.next ?_
        refine TW.cond rfl (fun H12 => ?_) (fun H12 => ?_)
        · refine TW.seq ?_
          refine TW.region ?_
          refine TO.y (Y.move rfl) rfl rfl rfl ?_
          refine TO.y (Y.move rfl) rfl rfl rfl ?_
          refine TO.bind fun E13 H14 => ?_
          refine TO.y (Y.index ke80 (Base.can HB_V_l0) H14 rfl rfl) rfl rfl rfl ?_
          refine TO.y (Y.load_el (us := [strV E13.Key, .int .i64 E13.Seq, .bool E13.Del, strV E13.Val]) (u := .agg #[strV E13.Key, .int .i64 E13.Seq, .bool E13.Del, strV E13.Val]) kk130 rfl (Base.can HB_V_l0) (idx_get H14).2.2 rfl rfl rfl rfl rfl) rfl rfl rfl ?_
          refine TO.ef0 (Ef.store_box (us := [strV E13.Key, .int .i64 E13.Seq, .bool E13.Del, strV E13.Val]) (vs' := [strV E13.Key, .int .i64 E13.Seq, .bool E13.Del, strV E13.Val]) (is' := [.box B1 130 [strV E13.Key, .int .i64 E13.Seq, .bool E13.Del, strV E13.Val]]) 0 kk130 rfl rfl rfl (Cel.plain rfl rfl) rfl rfl rfl rfl) rfl rfl (fun _ => ?_)
          refine TO.y (Y.assign rfl) rfl rfl rfl ?_
          refine TO.nil ?_
          refine TE.next ?_
          refine TW.ret ?_
          refine TE.block_ret ?_
          refine TE.then_ret ?_
          refine TE.lp_ret ?_
          refine TE.block_ret ?_
          refine TE.jn_done ?_
          refine TE.then_ret ?_
          exact TE.leaf fun _ _ hf_ hs_ => ret_any (rs := [.cell 6 130, .tmp 7]) (vs := [.agg #[strV E13.Key, .int .i64 E13.Seq, .bool E13.Del, strV E13.Val], .bool true]) (.inl rfl) rfl (RV.cell 0 rfl rfl kk130 rfl ⟨rfl, trivial⟩) hf_ hs_ ⟨(), rfl, hs_.pulls [] rfl⟩
        · refine TW.skip ?_
          refine TE.block_normal ?_
          refine TE.next ?_
          refine TW.region ?_
          refine TO.y (Y.move rfl) rfl rfl rfl ?_
          refine TO.y (Y.add rfl rfl) rfl rfl rfl ?_
          refine TO.y (Y.assign rfl) rfl rfl rfl ?_
          refine TO.nil ?_
          exact TE.lp_go () [0] ⟨rfl, rfl, rfl, rfl, rfl, trivial⟩ rfl
    · refine TW.exit ?_
      refine TE.then_exit ?_
      refine TE.lp_exit ?_
      refine TE.block_exit ?_
      exact TE.jn_go () [0] ⟨rfl, trivial⟩ rfl
  · refine TE.next ?_
    refine TW.seq ?_
    refine TW.region ?_
    refine TO.y (Y.build (cells := [strV ([]), .int .i64 (0 : Int), .bool false, strV ([])]) [] kp130 kz130 trivial rfl) rfl rfl rfl ?_
    refine TO.ef0 (Ef.store_box (us := [strV ([]), .int .i64 (0 : Int), .bool false, strV ([])]) (vs' := [strV ([]), .int .i64 (0 : Int), .bool false, strV ([])]) (is' := [.box B1 130 [strV ([]), .int .i64 (0 : Int), .bool false, strV ([])]]) 0 kk130 rfl rfl rfl (Cel.plain rfl rfl) rfl rfl rfl rfl) rfl rfl (fun _ => ?_)
    refine TO.y (Y.assign rfl) rfl rfl rfl ?_
    refine TO.nil ?_
    refine TE.next ?_
    refine TW.ret ?_
    exact TE.leaf fun _ _ hf_ hs_ => ret_any (rs := [.cell 6 130, .tmp 7]) (vs := [.agg #[strV ([]), .int .i64 (0 : Int), .bool false, strV ([])], .bool false]) (.inl rfl) rfl (RV.cell 0 rfl rfl kk130 rfl ⟨rfl, trivial⟩) hf_ hs_ ⟨(), rfl, hs_.pulls [] rfl⟩

/-- loop.example/g00950/spec.l15Key -/
noncomputable def spec_l15Key (l : List Ent) (snaps : List Int) (bottom : Bool) : Option (List Ent) :=
  bindC (loopO (fun (S2 : Int × List Ent) => if (decide (S2.1 < ((l.length : Nat) : Int))) = true then (bindC (loopO (fun (S7 : Bool × Int) => if (decide (S7.2 < ((snaps.length : Nat) : Int))) = true then ((idx l S2.1).bind fun E12 =>
  (idx snaps S7.2).bind fun E14 =>
  (spec_l9Get l E12.Key E14).bind fun R16 =>
  (if S7.1 = true then (some true)
  else (if R16.2 = true then (some (decide (R16.1.Seq = E12.Seq)))
  else (some false))).bind (fun (T25 : Bool) =>
  some (.go (T25, IntKind.i64.wrap (S7.2 + (1 : Int))))))
  else (some (.done (.go S7.1))))
  (decide (S2.1 = (0 : Int)), (0 : Int)))
  (fun (T9 : Bool) => bindC (if T9 = true then ((idx l S2.1).bind fun E32 =>
  (app 48 S2.2 ([E32])).bind fun E36 =>
  some (.go E36))
  else (some (.go S2.2)))
  (fun (T29 : List Ent) => some (.go (IntKind.i64.wrap (S2.1 + (1 : Int)), T29)))))
  else (some (.done (.go S2.2))))
  ((0 : Int), ([] : List Ent)))
  (fun (T4 : List Ent) => bindC (loopO (fun (S38 : List Ent) => (if bottom = true then (if (decide (((S38.length : Nat) : Int) > (0 : Int))) = true then ((idx S38 (IntKind.i64.wrap (((S38.length : Nat) : Int) - (1 : Int)))).bind fun E46 =>
  some E46.Del)
  else (some false))
  else (some false)).bind (fun (T42 : Bool) =>
  if T42 = true then ((piece S38 (0 : Int) (IntKind.i64.wrap (((S38.length : Nat) : Int) - (1 : Int)))).bind fun E50 =>
  (app 48 ([] : List Ent) E50).bind fun E53 =>
  some (.go E53))
  else (some (.done (.go S38)))))
  T4)
  (fun (T40 : List Ent) => some T40))

theorem spec_l15Key_con (l : List Ent) (snaps : List Int) (bottom : Bool) (V_l0 : Value) (V_snaps0 : Value) (r : List Ent) (hm : spec_l15Key l snaps bottom = some r) :
    Con Try.prog 99 [V_l0, V_snaps0, .bool bottom] [] [(V_l0, lc l), (V_snaps0, lc snaps)] (fun X : Value => X) (fun X => [.own X (lc r)]) := by
  refine Con.intro (args := [V_l0, V_snaps0, .bool bottom]) (n := 87) (val := fun _ (X : Value) => X) (post := fun r X => [.own X (lc r)]) (m := spec_l15Key l snaps bottom) Try.func99 rfl rfl rfl hm ?_
  intro w S hrd
  have HB_V_l0 := hrd _ (.head _)
  have HB_V_snaps0 := hrd _ (.tail _ (.head _))
  clear hrd
  unfold spec_l15Key
  refine TW.seq ?_
  refine TW.region ?_
  refine TO.y (Y.assign rfl) rfl rfl rfl ?_
  refine TO.nil ?_
  refine TE.next ?_
  refine TW.seq ?_
  refine TW.region ?_
  refine TO.ef (Ef.buildSlice (α := Ent) (Vs := []) ([] : List Ent) ke80 kz130 rfl rfl rfl rfl rfl) rfl rfl rfl (fun B1 => ?_)
  refine TO.y (Y.assign rfl) rfl rfl rfl ?_
  refine TO.nil ?_
  refine TE.next ?_
  refine TW.seq ?_
  refine TW.seq ?_
  refine TW.region ?_
  refine TO.y (Y.assign rfl) rfl rfl rfl ?_
  refine TO.nil ?_
  refine TE.next ?_
  refine TW.joinX (τ := List Ent) (X := Value) (fun _ X => [(2, .bool bottom), (7, X)]) (fun T X => [.own X (lc T)]) ?_ (fun T4 X5 => ?_)
  · refine TW.block ?_
    refine TW.loopX (σ := Int × List Ent) (X := Value) (fun T X => [(0, V_l0), (1, V_snaps0), (2, .bool bottom), (7, X), (8, .int .i64 T.1)]) (fun T X => [.own X (lc T.2)]) (.slice (some ⟨B1, 0, none⟩) 0 0) [0] ⟨rfl, rfl, rfl, rfl, rfl, trivial⟩ rfl (fun S2 X3 => ?_)
    refine TW.seq ?_
    refine TW.seq ?_
    refine TW.region ?_
    refine TO.y (Y.move rfl) rfl rfl rfl ?_
    refine TO.y (Y.move rfl) rfl rfl rfl ?_
    refine TO.y (Y.len (l := l) ke80 (Base.can HB_V_l0) rfl) rfl rfl rfl ?_
    refine TO.y (Y.lss rfl rfl) rfl rfl rfl ?_
    refine TO.nil ?_
    refine TE.next ?_
    refine TW.cond rfl (fun H6 => ?_) (fun H6 => ?_)
    · refine TW.skip ?_
      refine TE.next ?_
      refine TW.seq ?_
      refine TW.block ?_
      refine TW.seq ?_
      refine TW.region ?_
      refine TO.y (Y.move rfl) rfl rfl rfl ?_
      refine TO.y (Y.eql rfl rfl) rfl rfl rfl ?_
      refine TO.y (Y.assign rfl) rfl rfl rfl ?_
      refine TO.nil ?_
      refine TE.next ?_
      refine TW.seq ?_
      refine TW.seq ?_
      refine TW.region ?_
      refine TO.y (Y.assign rfl) rfl rfl rfl ?_
      refine TO.nil ?_
      refine TE.next ?_
      refine TW.joinX (τ := Bool) (X := Unit) (fun T _ => [(0, V_l0), (1, V_snaps0), (2, .bool bottom), (7, X3), (8, .int .i64 S2.1), (9, .bool T)]) (fun _ _ => [.own X3 (lc S2.2)]) ?_ (fun T9 X10 => ?_)
      · refine TW.block ?_
        refine TW.loopX (σ := Bool × Int) (X := Unit) (fun T _ => [(0, V_l0), (1, V_snaps0), (2, .bool bottom), (7, X3), (8, .int .i64 S2.1), (9, .bool T.1), (10, .int .i64 T.2)]) (fun _ _ => [.own X3 (lc S2.2)]) () [0] ⟨rfl, rfl, rfl, rfl, rfl, rfl, rfl, trivial⟩ rfl (fun S7 X8 => ?_)
        refine TW.seq ?_
        refine TW.seq ?_
        refine TW.region ?_
        refine TO.y (Y.move rfl) rfl rfl rfl ?_
        refine TO.y (Y.move rfl) rfl rfl rfl ?_
        refine TO.y (Y.len (l := snaps) ke78 (Base.can HB_V_snaps0) rfl) rfl rfl rfl ?_
        refine TO.y (Y.lss rfl rfl) rfl rfl rfl ?_
        refine TO.nil ?_
        refine TE.next ?_
        refine TW.cond rfl (fun H11 => ?_) (fun H11 => ?_)
        · refine TW.skip ?_
          refine TE.next ?_
          refine TW.seq ?_
          refine TW.block ?_
          refine TW.seq ?_
          refine TW.bind fun E12 H13 => ?_
          refine TW.bind fun E14 H15 => ?_
          refine TW.bind fun R16 H17 => ?_
          refine TW.joinU (X := Nat) (fun _ X => [(0, V_l0), (1, V_snaps0), (2, .bool bottom), (7, X3), (8, .int .i64 S2.1), (9, .bool S7.1), (10, .int .i64 S7.2), (11, .pointer (some ⟨X, 0, none⟩)), (12, .bool R16.2)]) (fun _ X => [.box X 130 [strV R16.1.Key, .int .i64 R16.1.Seq, .bool R16.1.Del, strV R16.1.Val], .own X3 (lc S2.2)]) ?_ (fun _ X22 => ?_)
          · refine TW.draw (isH := [.own X3 (lc S2.2)]) hMix ?_
            refine TA.y (listed' := #[true, false, false, false, false, false, false, false, false, false, false, false, false, false, false, false, false]) 0 [0] rfl (Y.move rfl) rfl rfl rfl (by kernel_rfl) (by kernel_rfl) (by kernel_rfl) rfl rfl ?_
            refine TA.y (listed' := #[true, true, false, false, false, false, false, false, false, false, false, false, false, false, false, false, false]) 1 [0] rfl (Y.move rfl) rfl rfl rfl (by kernel_rfl) (by kernel_rfl) (by kernel_rfl) rfl rfl ?_
            refine TA.y (listed' := #[true, true, true, false, false, false, false, false, false, false, false, false, false, false, false, false, false]) 2 [0] rfl (Y.move rfl) rfl rfl rfl (by kernel_rfl) (by kernel_rfl) (by kernel_rfl) rfl rfl ?_
            refine TA.y (listed' := #[true, true, true, true, false, false, false, false, false, false, false, false, false, false, false, false, false]) 3 [0] rfl (Y.index ke80 (Base.can HB_V_l0) H13 rfl rfl) rfl rfl rfl (by kernel_rfl) (by kernel_rfl) (by kernel_rfl) rfl rfl ?_
            refine TA.y (listed' := #[true, true, true, true, true, false, false, false, false, false, false, false, false, false, false, false, false]) 4 [0] rfl (Y.field_el kf130_0 (Base.can HB_V_l0) (idx_get H13).2.2 rfl rfl) rfl rfl rfl (by kernel_rfl) (by kernel_rfl) (by kernel_rfl) rfl rfl ?_
            refine TA.y (listed' := #[true, true, true, true, true, true, false, false, false, false, false, false, false, false, false, false, false]) 5 [0] rfl (Y.load_el (us := [strV E12.Key]) (u := strV E12.Key) kk9 rfl (Base.can HB_V_l0) (idx_get H13).2.2 rfl rfl rfl rfl rfl) rfl rfl rfl (by kernel_rfl) (by kernel_rfl) (by kernel_rfl) rfl rfl ?_
            refine TA.y (listed' := #[true, true, true, true, true, true, true, false, false, false, false, false, false, false, false, false, false]) 6 [0] rfl (Y.move rfl) rfl rfl rfl (by kernel_rfl) (by kernel_rfl) (by kernel_rfl) rfl rfl ?_
            refine TA.y (listed' := #[true, true, true, true, true, true, true, true, false, false, false, false, false, false, false, false, false]) 7 [0] rfl (Y.move rfl) rfl rfl rfl (by kernel_rfl) (by kernel_rfl) (by kernel_rfl) rfl rfl ?_
            refine TA.y (listed' := #[true, true, true, true, true, true, true, true, true, false, false, false, false, false, false, false, false]) 8 [0] rfl (Y.index ke78 (Base.can HB_V_snaps0) H15 rfl rfl) rfl rfl rfl (by kernel_rfl) (by kernel_rfl) (by kernel_rfl) rfl rfl ?_
            refine TA.y (listed' := #[true, true, true, true, true, true, true, true, true, true, false, false, false, false, false, false, false]) 9 [0] rfl (Y.load_el (us := [.int .i64 E14]) (u := .int .i64 E14) kk3 rfl (Base.can HB_V_snaps0) (idx_get H15).2.2 rfl rfl rfl rfl rfl) rfl rfl rfl (by kernel_rfl) (by kernel_rfl) (by kernel_rfl) rfl rfl ?_
            refine TA.two 10 14 (by kernel_rfl) ?_ ?_
            · refine TX.ef (listed' := #[true, true, true, true, true, true, true, true, true, true, true, false, false, false, false, false, false]) [0] rfl (Ef.call (rest := [.own X3 (lc S2.2)]) [0] (spec_l9Get_con l E12.Key E14 V_l0 R16 H17) kc133 rfl rfl ⟨(Base.can HB_V_l0), trivial⟩) rfl rfl rfl rfl (fun _ => rfl) (fun _ => ?_)
              refine TA.y (listed' := #[true, true, true, true, true, true, true, true, true, true, true, true, false, false, false, false, false]) 11 [0] rfl (Y.move rfl) rfl rfl rfl (by kernel_rfl) (by kernel_rfl) (by kernel_rfl) rfl rfl ?_
              refine TA.y (listed' := #[true, true, true, true, true, true, true, true, true, true, true, true, true, false, false, false, false]) 12 [0] rfl (Y.extract rfl rfl) rfl rfl rfl (by kernel_rfl) (by kernel_rfl) (by kernel_rfl) rfl rfl ?_
              refine TA.y (listed' := #[true, true, true, true, true, true, true, true, true, true, true, true, true, true, false, false, false]) 13 [0] rfl (Y.extract rfl rfl) rfl rfl rfl (by kernel_rfl) (by kernel_rfl) (by kernel_rfl) rfl rfl ?_
              refine TA.one 14 (by kernel_rfl) ?_
              refine TX.ef (listed' := #[true, true, true, true, true, true, true, true, true, true, true, true, true, true, true, false, false]) [1] rfl (Ef.alloc kz130 rfl) rfl rfl rfl rfl (fun _ => rfl) (fun B25 => ?_)
              refine TA.one 15 (by kernel_rfl) ?_
              refine TX.ef0 (listed' := #[true, true, true, true, true, true, true, true, true, true, true, true, true, true, true, true, false]) [1] rfl (Ef.store_box (us := [strV R16.1.Key, .int .i64 R16.1.Seq, .bool R16.1.Del, strV R16.1.Val]) (vs' := [strV R16.1.Key, .int .i64 R16.1.Seq, .bool R16.1.Del, strV R16.1.Val]) (is' := [.box B25 130 [strV R16.1.Key, .int .i64 R16.1.Seq, .bool R16.1.Del, strV R16.1.Val], .own X3 (lc S2.2)]) 0 kk130 rfl rfl rfl (Cel.plain rfl rfl) rfl rfl rfl rfl) rfl rfl rfl (fun _ => rfl) (fun _ => ?_)
              refine TA.y (listed' := #[true, true, true, true, true, true, true, true, true, true, true, true, true, true, true, true, true]) 16 [1] rfl (Y.assign rfl) rfl rfl rfl (by kernel_rfl) (by kernel_rfl) (by kernel_rfl) rfl rfl ?_
              refine TA.nil (by kernel_rfl) ?_
              exact TE.jb_go B25 [0, 0] ⟨rfl, rfl, rfl, rfl, rfl, rfl, rfl, rfl, rfl, trivial⟩ rfl
            · refine TX.ef (listed' := #[true, true, true, true, true, true, true, true, true, true, false, false, false, false, true, false, false]) [1] rfl (Ef.alloc kz130 rfl) rfl rfl rfl rfl (fun _ => rfl) (fun B24 => ?_)
              refine TA.one 10 (by kernel_rfl) ?_
              refine TX.ef (listed' := #[true, true, true, true, true, true, true, true, true, true, true, false, false, false, true, false, false]) [1] rfl (Ef.call (rest := [.box B24 130 [strV ([]), .int .i64 (0 : Int), .bool false, strV ([])], .own X3 (lc S2.2)]) [0, 0] (spec_l9Get_con l E12.Key E14 V_l0 R16 H17) kc133 rfl rfl ⟨(Base.can HB_V_l0), trivial⟩) rfl rfl rfl rfl (fun _ => rfl) (fun _ => ?_)
              refine TA.y (listed' := #[true, true, true, true, true, true, true, true, true, true, true, true, false, false, true, false, false]) 11 [1] rfl (Y.move rfl) rfl rfl rfl (by kernel_rfl) (by kernel_rfl) (by kernel_rfl) rfl rfl ?_
              refine TA.y (listed' := #[true, true, true, true, true, true, true, true, true, true, true, true, true, false, true, false, false]) 12 [1] rfl (Y.extract rfl rfl) rfl rfl rfl (by kernel_rfl) (by kernel_rfl) (by kernel_rfl) rfl rfl ?_
              refine TA.y (listed' := #[true, true, true, true, true, true, true, true, true, true, true, true, true, true, true, false, false]) 13 [1] rfl (Y.extract rfl rfl) rfl rfl rfl (by kernel_rfl) (by kernel_rfl) (by kernel_rfl) rfl rfl ?_
              refine TA.one 15 (by kernel_rfl) ?_
              refine TX.ef0 (listed' := #[true, true, true, true, true, true, true, true, true, true, true, true, true, true, true, true, false]) [1] rfl (Ef.store_box (us := [strV R16.1.Key, .int .i64 R16.1.Seq, .bool R16.1.Del, strV R16.1.Val]) (vs' := [strV R16.1.Key, .int .i64 R16.1.Seq, .bool R16.1.Del, strV R16.1.Val]) (is' := [.box B24 130 [strV R16.1.Key, .int .i64 R16.1.Seq, .bool R16.1.Del, strV R16.1.Val], .own X3 (lc S2.2)]) 0 kk130 rfl rfl rfl (Cel.plain rfl rfl) rfl rfl rfl rfl) rfl rfl rfl (fun _ => rfl) (fun _ => ?_)
              refine TA.y (listed' := #[true, true, true, true, true, true, true, true, true, true, true, true, true, true, true, true, true]) 16 [1] rfl (Y.assign rfl) rfl rfl rfl (by kernel_rfl) (by kernel_rfl) (by kernel_rfl) rfl rfl ?_
              refine TA.nil (by kernel_rfl) ?_
              exact TE.jb_go B24 [0, 0] ⟨rfl, rfl, rfl, rfl, rfl, rfl, rfl, rfl, rfl, trivial⟩ rfl
          · refine TE.next ?_
            refine TW.joinBX (τ := Bool) (X := Unit) (fun T _ => [(0, V_l0), (1, V_snaps0), (2, .bool bottom), (7, X3), (8, .int .i64 S2.1), (9, .bool T), (10, .int .i64 S7.2)]) (fun _ _ => [.own X3 (lc S2.2)]) ?_ (fun T25 X26 => ?_)
            · refine TW.draw (isH := [.box X22 130 [strV R16.1.Key, .int .i64 R16.1.Seq, .bool R16.1.Del, strV R16.1.Val], .own X3 (lc S2.2)]) hMix ?_
              refine TA.y (listed' := #[true, false, false, false, false, false, false, false, false, false, false, false, false, false, false]) 0 [0, 0] rfl (Y.move rfl) rfl rfl rfl (by kernel_rfl) (by kernel_rfl) (by kernel_rfl) rfl rfl ?_
              refine TA.y (listed' := #[true, true, false, false, false, false, false, false, false, false, false, false, false, false, false]) 1 [0, 0] rfl (Y.move rfl) rfl rfl rfl (by kernel_rfl) (by kernel_rfl) (by kernel_rfl) rfl rfl ?_
              refine TA.ite (b := S7.1) (fun H27 => ?_) (fun H27 => ?_)
              · refine TA.off (listed' := #[true, true, true, false, false, false, false, false, false, false, false, false, false, false, false]) 2 [0, 0] rfl (Gd.at 1 false 43 S7.1 rfl rfl rfl (beq_tf H27)) rfl rfl (by kernel_rfl) (by kernel_rfl) (by kernel_rfl) rfl rfl ?_
                refine TA.off (listed' := #[true, true, true, true, false, false, false, false, false, false, false, false, false, false, false]) 3 [0, 0] rfl (Gd.at 1 false 43 S7.1 rfl rfl rfl (beq_tf H27)) rfl rfl (by kernel_rfl) (by kernel_rfl) (by kernel_rfl) rfl rfl ?_
                refine TA.off (listed' := #[true, true, true, true, true, false, false, false, false, false, false, false, false, false, false]) 4 [0, 0] rfl (Gd.un 3 true 45 rfl rfl rfl) rfl rfl (by kernel_rfl) (by kernel_rfl) (by kernel_rfl) rfl rfl ?_
                refine TA.off (listed' := #[true, true, true, true, true, true, false, false, false, false, false, false, false, false, false]) 5 [0, 0] rfl (Gd.un 3 true 45 rfl rfl rfl) rfl rfl (by kernel_rfl) (by kernel_rfl) (by kernel_rfl) rfl rfl ?_
                refine TA.off (listed' := #[true, true, true, true, true, true, true, false, false, false, false, false, false, false, false]) 6 [0, 0] rfl (Gd.un 3 true 45 rfl rfl rfl) rfl rfl (by kernel_rfl) (by kernel_rfl) (by kernel_rfl) rfl rfl ?_
                refine TA.off (listed' := #[true, true, true, true, true, true, true, true, false, false, false, false, false, false, false]) 7 [0, 0] rfl (Gd.un 3 true 45 rfl rfl rfl) rfl rfl (by kernel_rfl) (by kernel_rfl) (by kernel_rfl) rfl rfl ?_
                refine TA.off (listed' := #[true, true, true, true, true, true, true, true, true, false, false, false, false, false, false]) 8 [0, 0] rfl (Gd.un 3 true 45 rfl rfl rfl) rfl rfl (by kernel_rfl) (by kernel_rfl) (by kernel_rfl) rfl rfl ?_
                refine TA.off (listed' := #[true, true, true, true, true, true, true, true, true, true, false, false, false, false, false]) 9 [0, 0] rfl (Gd.un 3 true 45 rfl rfl rfl) rfl rfl (by kernel_rfl) (by kernel_rfl) (by kernel_rfl) rfl rfl ?_
                refine TA.off (listed' := #[true, true, true, true, true, true, true, true, true, true, true, false, false, false, false]) 10 [0, 0] rfl (Gd.un 3 true 45 rfl rfl rfl) rfl rfl (by kernel_rfl) (by kernel_rfl) (by kernel_rfl) rfl rfl ?_
                refine TA.off (listed' := #[true, true, true, true, true, true, true, true, true, true, true, true, false, false, false]) 11 [0, 0] rfl (Gd.un 3 true 45 rfl rfl rfl) rfl rfl (by kernel_rfl) (by kernel_rfl) (by kernel_rfl) rfl rfl ?_
                refine TA.off (listed' := #[true, true, true, true, true, true, true, true, true, true, true, true, true, false, false]) 12 [0, 0] rfl (Gd.at 1 false 43 S7.1 rfl rfl rfl (beq_tf H27)) rfl rfl (by kernel_rfl) (by kernel_rfl) (by kernel_rfl) rfl rfl ?_
                refine TA.y (listed' := #[true, true, true, true, true, true, true, true, true, true, true, true, true, true, false]) 13 [0, 0] rfl (Y.pick_t H27 rfl rfl) rfl rfl rfl (by kernel_rfl) (by kernel_rfl) (by kernel_rfl) rfl rfl ?_
                refine TA.y (listed' := #[true, true, true, true, true, true, true, true, true, true, true, true, true, true, true]) 14 [0, 0] rfl (Y.assign rfl) rfl rfl rfl (by kernel_rfl) (by kernel_rfl) (by kernel_rfl) rfl rfl ?_
                refine TA.nil (by kernel_rfl) ?_
                exact TE.jb_go () [1] ⟨rfl, rfl, rfl, rfl, rfl, rfl, rfl, trivial⟩ rfl
              · refine TA.y (listed' := #[true, true, true, false, false, false, false, false, false, false, false, false, false, false, false]) 2 [0, 0] rfl (Y.move rfl) (Gd.at 1 false 43 S7.1 rfl rfl rfl (beq_ff H27)) rfl rfl (by kernel_rfl) (by kernel_rfl) (by kernel_rfl) rfl rfl ?_
                refine TA.y (listed' := #[true, true, true, true, false, false, false, false, false, false, false, false, false, false, false]) 3 [0, 0] rfl (Y.move rfl) (Gd.at 1 false 43 S7.1 rfl rfl rfl (beq_ff H27)) rfl rfl (by kernel_rfl) (by kernel_rfl) (by kernel_rfl) rfl rfl ?_
                refine TA.ite (b := R16.2) (fun H28 => ?_) (fun H28 => ?_)
                · refine TA.y (listed' := #[true, true, true, true, true, false, false, false, false, false, false, false, false, false, false]) 4 [0, 0] rfl (Y.field_box kf130_1 rfl rfl) (Gd.at 3 true 45 R16.2 rfl rfl rfl (beq_tt H28)) rfl rfl (by kernel_rfl) (by kernel_rfl) (by kernel_rfl) rfl rfl ?_
                  refine TA.y (listed' := #[true, true, true, true, true, true, false, false, false, false, false, false, false, false, false]) 5 [0, 0] rfl (Y.load_box (v := .int .i64 R16.1.Seq) 0 kk3 rfl rfl rfl) (Gd.at 3 true 45 R16.2 rfl rfl rfl (beq_tt H28)) rfl rfl (by kernel_rfl) (by kernel_rfl) (by kernel_rfl) rfl rfl ?_
                  refine TA.y (listed' := #[true, true, true, true, true, true, true, false, false, false, false, false, false, false, false]) 6 [0, 0] rfl (Y.move rfl) (Gd.at 3 true 45 R16.2 rfl rfl rfl (beq_tt H28)) rfl rfl (by kernel_rfl) (by kernel_rfl) (by kernel_rfl) rfl rfl ?_
                  refine TA.y (listed' := #[true, true, true, true, true, true, true, true, false, false, false, false, false, false, false]) 7 [0, 0] rfl (Y.move rfl) (Gd.at 3 true 45 R16.2 rfl rfl rfl (beq_tt H28)) rfl rfl (by kernel_rfl) (by kernel_rfl) (by kernel_rfl) rfl rfl ?_
                  refine TA.y (listed' := #[true, true, true, true, true, true, true, true, true, false, false, false, false, false, false]) 8 [0, 0] rfl (Y.index ke80 (Base.can HB_V_l0) H13 rfl rfl) (Gd.at 3 true 45 R16.2 rfl rfl rfl (beq_tt H28)) rfl rfl (by kernel_rfl) (by kernel_rfl) (by kernel_rfl) rfl rfl ?_
                  refine TA.y (listed' := #[true, true, true, true, true, true, true, true, true, true, false, false, false, false, false]) 9 [0, 0] rfl (Y.field_el kf130_1 (Base.can HB_V_l0) (idx_get H13).2.2 rfl rfl) (Gd.at 3 true 45 R16.2 rfl rfl rfl (beq_tt H28)) rfl rfl (by kernel_rfl) (by kernel_rfl) (by kernel_rfl) rfl rfl ?_
                  refine TA.y (listed' := #[true, true, true, true, true, true, true, true, true, true, true, false, false, false, false]) 10 [0, 0] rfl (Y.load_el (us := [.int .i64 E12.Seq]) (u := .int .i64 E12.Seq) kk3 rfl (Base.can HB_V_l0) (idx_get H13).2.2 rfl rfl rfl rfl rfl) (Gd.at 3 true 45 R16.2 rfl rfl rfl (beq_tt H28)) rfl rfl (by kernel_rfl) (by kernel_rfl) (by kernel_rfl) rfl rfl ?_
                  refine TA.y (listed' := #[true, true, true, true, true, true, true, true, true, true, true, true, false, false, false]) 11 [0, 0] rfl (Y.eql rfl rfl) (Gd.at 3 true 45 R16.2 rfl rfl rfl (beq_tt H28)) rfl rfl (by kernel_rfl) (by kernel_rfl) (by kernel_rfl) rfl rfl ?_
                  refine TA.y (listed' := #[true, true, true, true, true, true, true, true, true, true, true, true, true, false, false]) 12 [0, 0] rfl (Y.pick_t H28 rfl rfl) (Gd.at 1 false 43 S7.1 rfl rfl rfl (beq_ff H27)) rfl rfl (by kernel_rfl) (by kernel_rfl) (by kernel_rfl) rfl rfl ?_
                  refine TA.y (listed' := #[true, true, true, true, true, true, true, true, true, true, true, true, true, true, false]) 13 [0, 0] rfl (Y.pick_f H27 rfl rfl) rfl rfl rfl (by kernel_rfl) (by kernel_rfl) (by kernel_rfl) rfl rfl ?_
                  refine TA.y (listed' := #[true, true, true, true, true, true, true, true, true, true, true, true, true, true, true]) 14 [0, 0] rfl (Y.assign rfl) rfl rfl rfl (by kernel_rfl) (by kernel_rfl) (by kernel_rfl) rfl rfl ?_
                  refine TA.nil (by kernel_rfl) ?_
                  exact TE.jb_go () [1] ⟨rfl, rfl, rfl, rfl, rfl, rfl, rfl, trivial⟩ rfl
                · refine TA.off (listed' := #[true, true, true, true, true, false, false, false, false, false, false, false, false, false, false]) 4 [0, 0] rfl (Gd.at 3 true 45 R16.2 rfl rfl rfl (beq_ft H28)) rfl rfl (by kernel_rfl) (by kernel_rfl) (by kernel_rfl) rfl rfl ?_
                  refine TA.off (listed' := #[true, true, true, true, true, true, false, false, false, false, false, false, false, false, false]) 5 [0, 0] rfl (Gd.at 3 true 45 R16.2 rfl rfl rfl (beq_ft H28)) rfl rfl (by kernel_rfl) (by kernel_rfl) (by kernel_rfl) rfl rfl ?_
                  refine TA.off (listed' := #[true, true, true, true, true, true, true, false, false, false, false, false, false, false, false]) 6 [0, 0] rfl (Gd.at 3 true 45 R16.2 rfl rfl rfl (beq_ft H28)) rfl rfl (by kernel_rfl) (by kernel_rfl) (by kernel_rfl) rfl rfl ?_
                  refine TA.off (listed' := #[true, true, true, true, true, true, true, true, false, false, false, false, false, false, false]) 7 [0, 0] rfl (Gd.at 3 true 45 R16.2 rfl rfl rfl (beq_ft H28)) rfl rfl (by kernel_rfl) (by kernel_rfl) (by kernel_rfl) rfl rfl ?_
                  refine TA.off (listed' := #[true, true, true, true, true, true, true, true, true, false, false, false, false, false, false]) 8 [0, 0] rfl (Gd.at 3 true 45 R16.2 rfl rfl rfl (beq_ft H28)) rfl rfl (by kernel_rfl) (by kernel_rfl) (by kernel_rfl) rfl rfl ?_
                  refine TA.off (listed' := #[true, true, true, true, true, true, true, true, true, true, false, false, false, false, false]) 9 [0, 0] rfl (Gd.at 3 true 45 R16.2 rfl rfl rfl (beq_ft H28)) rfl rfl (by kernel_rfl) (by kernel_rfl) (by kernel_rfl) rfl rfl ?_
                  refine TA.off (listed' := #[true, true, true, true, true, true, true, true, true, true, true, false, false, false, false]) 10 [0, 0] rfl (Gd.at 3 true 45 R16.2 rfl rfl rfl (beq_ft H28)) rfl rfl (by kernel_rfl) (by kernel_rfl) (by kernel_rfl) rfl rfl ?_
                  refine TA.off (listed' := #[true, true, true, true, true, true, true, true, true, true, true, true, false, false, false]) 11 [0, 0] rfl (Gd.at 3 true 45 R16.2 rfl rfl rfl (beq_ft H28)) rfl rfl (by kernel_rfl) (by kernel_rfl) (by kernel_rfl) rfl rfl ?_
                  refine TA.y (listed' := #[true, true, true, true, true, true, true, true, true, true, true, true, true, false, false]) 12 [0, 0] rfl (Y.pick_f H28 rfl rfl) (Gd.at 1 false 43 S7.1 rfl rfl rfl (beq_ff H27)) rfl rfl (by kernel_rfl) (by kernel_rfl) (by kernel_rfl) rfl rfl ?_
                  refine TA.y (listed' := #[true, true, true, true, true, true, true, true, true, true, true, true, true, true, false]) 13 [0, 0] rfl (Y.pick_f H27 rfl rfl) rfl rfl rfl (by kernel_rfl) (by kernel_rfl) (by kernel_rfl) rfl rfl ?_
                  refine TA.y (listed' := #[true, true, true, true, true, true, true, true, true, true, true, true, true, true, true]) 14 [0, 0] rfl (Y.assign rfl) rfl rfl rfl (by kernel_rfl) (by kernel_rfl) (by kernel_rfl) rfl rfl ?_
                  refine TA.nil (by kernel_rfl) ?_
                  exact TE.jb_go () [1] ⟨rfl, rfl, rfl, rfl, rfl, rfl, rfl, trivial⟩ rfl
            · refine TE.block_normal ?_
              refine TE.next ?_
              refine TW.region ?_
              refine TO.y (Y.move rfl) rfl rfl rfl ?_
              refine TO.y (Y.add rfl rfl) rfl rfl rfl ?_
              refine TO.y (Y.assign rfl) rfl rfl rfl ?_
              refine TO.nil ?_
              exact TE.lp_go () [0] ⟨rfl, rfl, rfl, rfl, rfl, rfl, rfl, trivial⟩ rfl
        · refine TW.exit ?_
          refine TE.then_exit ?_
          refine TE.lp_exit ?_
          refine TE.block_exit ?_
          exact TE.jn_go () [0] ⟨rfl, rfl, rfl, rfl, rfl, rfl, trivial⟩ rfl
      · refine TE.next ?_
        refine TW.seq ?_
        refine TW.region ?_
        refine TO.y (Y.move rfl) rfl rfl rfl ?_
        refine TO.nil ?_
        refine TE.next ?_
        refine TW.joinX (τ := List Ent) (X := Value) (fun _ X => [(0, V_l0), (1, V_snaps0), (2, .bool bottom), (7, X), (8, .int .i64 S2.1)]) (fun T X => [.own X (lc T)]) ?_ (fun T29 X30 => ?_)
        · refine TW.cond rfl (fun H31 => ?_) (fun H31 => ?_)
          · refine TW.region ?_
            refine TO.y (Y.move rfl) rfl rfl rfl ?_
            refine TO.y (Y.move rfl) rfl rfl rfl ?_
            refine TO.y (Y.move rfl) rfl rfl rfl ?_
            refine TO.bind fun E32 H33 => ?_
            refine TO.y (Y.index ke80 (Base.can HB_V_l0) H33 rfl rfl) rfl rfl rfl ?_
            refine TO.y (Y.load_el (us := [strV E32.Key, .int .i64 E32.Seq, .bool E32.Del, strV E32.Val]) (u := .agg #[strV E32.Key, .int .i64 E32.Seq, .bool E32.Del, strV E32.Val]) kk130 rfl (Base.can HB_V_l0) (idx_get H33).2.2 rfl rfl rfl rfl rfl) rfl rfl rfl ?_
            refine TO.ef (Ef.buildSlice (α := Ent) (Vs := [.agg #[strV E32.Key, .int .i64 E32.Seq, .bool E32.Del, strV E32.Val]]) [E32] ke80 kz130 rfl rfl rfl rfl rfl) rfl rfl rfl (fun B34 => ?_)
            refine TO.bind fun E36 H37 => ?_
            refine TO.ef (Ef.append (α := Ent) (is' := [.own (.slice (some ⟨B34, 0, none⟩) 1 1) (lc ([E32]))]) [1, 0] H37 ke80 kz130 rfl rfl rfl rfl rfl (Can.own 0 rfl)) rfl rfl rfl (fun V35 => ?_)
            refine TO.y (Y.assign rfl) rfl rfl rfl ?_
            refine TO.nil ?_
            exact TE.jn_go V35 [0] ⟨rfl, rfl, rfl, rfl, rfl, trivial⟩ rfl
          · refine TW.skip ?_
            exact TE.jn_go X3 [0] ⟨rfl, rfl, rfl, rfl, rfl, trivial⟩ rfl
        · refine TE.block_normal ?_
          refine TE.next ?_
          refine TW.region ?_
          refine TO.y (Y.move rfl) rfl rfl rfl ?_
          refine TO.y (Y.add rfl rfl) rfl rfl rfl ?_
          refine TO.y (Y.assign rfl) rfl rfl rfl ?_
          refine TO.nil ?_
          exact TE.lp_go X30 [0] ⟨rfl, rfl, rfl, rfl, rfl, trivial⟩ rfl
    · refine TW.exit ?_
      refine TE.then_exit ?_
      refine TE.lp_exit ?_
      refine TE.block_exit ?_
      exact TE.jn_go X3 [0] ⟨rfl, rfl, trivial⟩ rfl
  · refine TE.next ?_
    refine TW.seq ?_
    refine TW.joinX (τ := List Ent) (X := Value) (fun _ X => [(7, X)]) (fun T X => [.own X (lc T)]) ?_ (fun T40 X41 => ?_)
    · refine TW.block ?_
      refine TW.loopX (σ := List Ent) (X := Value) (fun _ X => [(2, .bool bottom), (7, X)]) (fun T X => [.own X (lc T)]) X5 [0] ⟨rfl, rfl, trivial⟩ rfl (fun S38 X39 => ?_)
      refine TW.seq ?_
      refine TW.seq ?_
      refine TW.joinBX (τ := Bool) (X := Unit) (fun T _ => [(2, .bool bottom), (7, X39), (78, .bool T)]) (fun _ _ => [.own X39 (lc S38)]) ?_ (fun T42 X43 => ?_)
      · refine TW.region ?_
        refine TO.y (Y.move rfl) rfl rfl rfl ?_
        refine TO.y (Y.move rfl) rfl rfl rfl ?_
        refine TO.ite (b := bottom) (fun H44 => ?_) (fun H44 => ?_)
        · refine TO.y (Y.move rfl) (Gd.at 1 true 65 bottom rfl rfl rfl (beq_tt H44)) rfl rfl ?_
          refine TO.y (Y.len (l := S38) ke80 (Can.own 0 rfl) rfl) (Gd.at 1 true 65 bottom rfl rfl rfl (beq_tt H44)) rfl rfl ?_
          refine TO.y (Y.gtr rfl rfl) (Gd.at 1 true 65 bottom rfl rfl rfl (beq_tt H44)) rfl rfl ?_
          refine TO.y (Y.pick_t H44 rfl rfl) rfl rfl rfl ?_
          refine TO.y (Y.move rfl) rfl rfl rfl ?_
          refine TO.ite (b := decide (((S38.length : Nat) : Int) > (0 : Int))) (fun H45 => ?_) (fun H45 => ?_)
          · refine TO.y (Y.move rfl) (Gd.at 6 true 70 (decide (((S38.length : Nat) : Int) > (0 : Int))) rfl rfl rfl (beq_tt H45)) rfl rfl ?_
            refine TO.y (Y.move rfl) (Gd.at 6 true 70 (decide (((S38.length : Nat) : Int) > (0 : Int))) rfl rfl rfl (beq_tt H45)) rfl rfl ?_
            refine TO.y (Y.len (l := S38) ke80 (Can.own 0 rfl) rfl) (Gd.at 6 true 70 (decide (((S38.length : Nat) : Int) > (0 : Int))) rfl rfl rfl (beq_tt H45)) rfl rfl ?_
            refine TO.y (Y.sub rfl rfl) (Gd.at 6 true 70 (decide (((S38.length : Nat) : Int) > (0 : Int))) rfl rfl rfl (beq_tt H45)) rfl rfl ?_
            refine TO.bind fun E46 H47 => ?_
            refine TO.y (Y.index ke80 (Can.own 0 rfl) H47 rfl rfl) (Gd.at 6 true 70 (decide (((S38.length : Nat) : Int) > (0 : Int))) rfl rfl rfl (beq_tt H45)) rfl rfl ?_
            refine TO.y (Y.field_el kf130_2 (Can.own 0 rfl) (idx_get H47).2.2 rfl rfl) (Gd.at 6 true 70 (decide (((S38.length : Nat) : Int) > (0 : Int))) rfl rfl rfl (beq_tt H45)) rfl rfl ?_
            refine TO.y (Y.load_el (us := [.bool E46.Del]) (u := .bool E46.Del) kk4 rfl (Can.own 0 rfl) (idx_get H47).2.2 rfl rfl rfl rfl rfl) (Gd.at 6 true 70 (decide (((S38.length : Nat) : Int) > (0 : Int))) rfl rfl rfl (beq_tt H45)) rfl rfl ?_
            refine TO.y (Y.pick_t H45 rfl rfl) rfl rfl rfl ?_
            refine TO.nil ?_
            exact TE.jb_go () [0] ⟨rfl, rfl, rfl, trivial⟩ rfl
          · refine TO.off (Gd.at 6 true 70 (decide (((S38.length : Nat) : Int) > (0 : Int))) rfl rfl rfl (beq_ft H45)) rfl rfl ?_
            refine TO.off (Gd.at 6 true 70 (decide (((S38.length : Nat) : Int) > (0 : Int))) rfl rfl rfl (beq_ft H45)) rfl rfl ?_
            refine TO.off (Gd.at 6 true 70 (decide (((S38.length : Nat) : Int) > (0 : Int))) rfl rfl rfl (beq_ft H45)) rfl rfl ?_
            refine TO.off (Gd.at 6 true 70 (decide (((S38.length : Nat) : Int) > (0 : Int))) rfl rfl rfl (beq_ft H45)) rfl rfl ?_
            refine TO.off (Gd.at 6 true 70 (decide (((S38.length : Nat) : Int) > (0 : Int))) rfl rfl rfl (beq_ft H45)) rfl rfl ?_
            refine TO.off (Gd.at 6 true 70 (decide (((S38.length : Nat) : Int) > (0 : Int))) rfl rfl rfl (beq_ft H45)) rfl rfl ?_
            refine TO.off (Gd.at 6 true 70 (decide (((S38.length : Nat) : Int) > (0 : Int))) rfl rfl rfl (beq_ft H45)) rfl rfl ?_
            refine TO.y (Y.pick_f H45 rfl rfl) rfl rfl rfl ?_
            refine TO.nil ?_
            exact TE.jb_go () [0] ⟨rfl, rfl, rfl, trivial⟩ rfl
        · refine TO.off (Gd.at 1 true 65 bottom rfl rfl rfl (beq_ft H44)) rfl rfl ?_
          refine TO.off (Gd.at 1 true 65 bottom rfl rfl rfl (beq_ft H44)) rfl rfl ?_
          refine TO.off (Gd.at 1 true 65 bottom rfl rfl rfl (beq_ft H44)) rfl rfl ?_
          refine TO.y (Y.pick_f H44 rfl rfl) rfl rfl rfl ?_
          refine TO.y (Y.move rfl) rfl rfl rfl ?_
          refine TO.off (Gd.at 6 true 70 false rfl rfl rfl rfl) rfl rfl ?_
          refine TO.off (Gd.at 6 true 70 false rfl rfl rfl rfl) rfl rfl ?_
          refine TO.off (Gd.at 6 true 70 false rfl rfl rfl rfl) rfl rfl ?_
          refine TO.off (Gd.at 6 true 70 false rfl rfl rfl rfl) rfl rfl ?_
          refine TO.off (Gd.at 6 true 70 false rfl rfl rfl rfl) rfl rfl ?_
          refine TO.off (Gd.at 6 true 70 false rfl rfl rfl rfl) rfl rfl ?_
          refine TO.off (Gd.at 6 true 70 false rfl rfl rfl rfl) rfl rfl ?_
          refine TO.y (Y.pick_f rfl rfl rfl) rfl rfl rfl ?_
          refine TO.nil ?_
          exact TE.jb_go () [0] ⟨rfl, rfl, rfl, trivial⟩ rfl
      · refine TE.next ?_
        refine TW.cond rfl (fun H48 => ?_) (fun H48 => ?_)
        · refine TW.skip ?_
          refine TE.next ?_
          refine TW.block ?_
          refine TW.region ?_
          refine TO.ef (Ef.buildSlice (α := Ent) (Vs := []) ([] : List Ent) ke80 kz130 rfl rfl rfl rfl rfl) rfl rfl rfl (fun B49 => ?_)
          refine TO.y (Y.move rfl) rfl rfl rfl ?_
          refine TO.y (Y.move rfl) rfl rfl rfl ?_
          refine TO.y (Y.len (l := S38) ke80 (Can.own 1 rfl) rfl) rfl rfl rfl ?_
          refine TO.y (Y.sub rfl rfl) rfl rfl rfl ?_
          refine TO.bind fun E50 H51 => ?_
          refine TO.y (Y.subs H51 ke80 (Can.own 1 rfl) rfl rfl ⟨_, rfl⟩) rfl rfl rfl ?_
          refine TO.bind fun E53 H54 => ?_
          refine TO.ef (Ef.append (α := Ent) (is' := [.own X39 (lc S38)]) [0, 0] H54 ke80 kz130 rfl rfl rfl rfl rfl (Can.sub H51 rfl (Can.own 1 rfl))) rfl rfl rfl (fun V52 => ?_)
          refine TO.y (Y.assign rfl) rfl rfl rfl ?_
          refine TO.nil ?_
          refine TE.block_normal ?_
          exact TE.lp_go V52 [0] ⟨rfl, rfl, trivial⟩ rfl
        · refine TW.exit ?_
          refine TE.then_exit ?_
          refine TE.lp_exit ?_
          refine TE.block_exit ?_
          exact TE.jn_go X39 [0] ⟨rfl, trivial⟩ rfl
    · refine TE.next ?_
      refine TW.seq ?_
      refine TW.region ?_
      refine TO.y (Y.move rfl) rfl rfl rfl ?_
      refine TO.y (Y.assign rfl) rfl rfl rfl ?_
      refine TO.nil ?_
      refine TE.next ?_
      refine TW.ret ?_
      exact TE.leaf fun _ _ hf_ hs_ => ret_any (rs := [.tmp 6]) (vs := [X41]) (.inl rfl) rfl ⟨rfl, trivial⟩ hf_ hs_ ⟨X41, rfl, hs_.pulls [0] rfl⟩

/-- loop.example/g00950/spec.CompactEnts -/
noncomputable def spec_CompactEnts (l : List Ent) (snaps : List Int) (bottom : Bool) : Option (List Ent) :=
  (if (decide (((l.length : Nat) : Int) > (400 : Int))) = true then (some true)
  else ((spec_l9Ents l).bind fun R5 =>
  some (!R5))).bind (fun (T2 : Bool) =>
  if T2 = true then (some ([] : List Ent))
  else (bindC (loopO (fun (S9 : Int × List Ent) => if (decide (S9.1 < ((l.length : Nat) : Int))) = true then ((spec_l15Last l S9.1).bind fun R14 =>
  (piece l S9.1 R14).bind fun E17 =>
  (spec_l15Key E17 snaps bottom).bind fun R20 =>
  (app 48 S9.2 R20).bind fun E24 =>
  some (.go (R14, E24)))
  else (some (.done (.go S9.2))))
  ((0 : Int), ([] : List Ent)))
  (fun (T11 : List Ent) => some T11)))

theorem spec_CompactEnts_con (l : List Ent) (snaps : List Int) (bottom : Bool) (V_l0 : Value) (V_snaps0 : Value) (r : List Ent) (hm : spec_CompactEnts l snaps bottom = some r) :
    Con Try.prog 44 [V_l0, V_snaps0, .bool bottom] [] [(V_l0, lc l), (V_snaps0, lc snaps)] (fun X : Value => X) (fun X => [.own X (lc r)]) := by
  refine Con.intro (args := [V_l0, V_snaps0, .bool bottom]) (n := 38) (val := fun _ (X : Value) => X) (post := fun r X => [.own X (lc r)]) (m := spec_CompactEnts l snaps bottom) Try.func44 rfl rfl rfl hm ?_
  intro w S hrd
  have HB_V_l0 := hrd _ (.head _)
  have HB_V_snaps0 := hrd _ (.tail _ (.head _))
  clear hrd
  unfold spec_CompactEnts
  refine TW.seq ?_
  refine TW.region ?_
  refine TO.y (Y.assign rfl) rfl rfl rfl ?_
  refine TO.nil ?_
  refine TE.next ?_
  refine TW.seq ?_
  refine TW.region ?_
  refine TO.ef (Ef.buildSlice (α := Ent) (Vs := []) ([] : List Ent) ke80 kz130 rfl rfl rfl rfl rfl) rfl rfl rfl (fun B1 => ?_)
  refine TO.y (Y.assign rfl) rfl rfl rfl ?_
  refine TO.nil ?_
  refine TE.next ?_
  refine TW.seq ?_
  refine TW.seq ?_
  refine TW.joinBX (τ := Bool) (X := Unit) (fun T _ => [(0, V_l0), (1, V_snaps0), (2, .bool bottom), (7, .slice (some ⟨B1, 0, none⟩) 0 0), (17, .bool T)]) (fun _ _ => [.own (.slice (some ⟨B1, 0, none⟩) 0 0) (lc ([] : List Ent))]) ?_ (fun T2 X3 => ?_)
  · refine TW.region ?_
    refine TO.y (Y.move rfl) rfl rfl rfl ?_
    refine TO.y (Y.len (l := l) ke80 (Base.can HB_V_l0) rfl) rfl rfl rfl ?_
    refine TO.y (Y.gtr rfl rfl) rfl rfl rfl ?_
    refine TO.y (Y.move rfl) rfl rfl rfl ?_
    refine TO.ite (b := decide (((l.length : Nat) : Int) > (400 : Int))) (fun H4 => ?_) (fun H4 => ?_)
    · refine TO.off (Gd.at 3 false 13 (decide (((l.length : Nat) : Int) > (400 : Int))) rfl rfl rfl (beq_tf H4)) rfl rfl ?_
      refine TO.off (Gd.at 3 false 13 (decide (((l.length : Nat) : Int) > (400 : Int))) rfl rfl rfl (beq_tf H4)) rfl rfl ?_
      refine TO.off (Gd.at 3 false 13 (decide (((l.length : Nat) : Int) > (400 : Int))) rfl rfl rfl (beq_tf H4)) rfl rfl ?_
      refine TO.y (Y.pick_t H4 rfl rfl) rfl rfl rfl ?_
      refine TO.nil ?_
      exact TE.jb_go () [0] ⟨rfl, rfl, rfl, rfl, rfl, trivial⟩ rfl
    · refine TO.y (Y.move rfl) (Gd.at 3 false 13 (decide (((l.length : Nat) : Int) > (400 : Int))) rfl rfl rfl (beq_ff H4)) rfl rfl ?_
      refine TO.bind fun R5 H6 => ?_
      refine TO.ef (Ef.call (rest := [.own (.slice (some ⟨B1, 0, none⟩) 0 0) (lc ([] : List Ent))]) [0] (spec_l9Ents_con l V_l0 R5 H6) kc97 rfl rfl ⟨(Base.can HB_V_l0), trivial⟩) (Gd.at 3 false 13 (decide (((l.length : Nat) : Int) > (400 : Int))) rfl rfl rfl (beq_ff H4)) rfl rfl (fun _ => ?_)
      refine TO.y (Y.not rfl) (Gd.at 3 false 13 (decide (((l.length : Nat) : Int) > (400 : Int))) rfl rfl rfl (beq_ff H4)) rfl rfl ?_
      refine TO.y (Y.pick_f H4 rfl rfl) rfl rfl rfl ?_
      refine TO.nil ?_
      exact TE.jb_go () [0] ⟨rfl, rfl, rfl, rfl, rfl, trivial⟩ rfl
  · refine TE.next ?_
    refine TW.cond rfl (fun H8 => ?_) (fun H8 => ?_)
    · refine TW.seq ?_
      refine TW.region ?_
      refine TO.y (Y.move rfl) rfl rfl rfl ?_
      refine TO.y (Y.assign rfl) rfl rfl rfl ?_
      refine TO.nil ?_
      refine TE.next ?_
      refine TW.ret ?_
      refine TE.then_ret ?_
      exact TE.leaf fun _ _ hf_ hs_ => ret_any (rs := [.tmp 6]) (vs := [.slice (some ⟨B1, 0, none⟩) 0 0]) (.inl rfl) rfl ⟨rfl, trivial⟩ hf_ hs_ ⟨(.slice (some ⟨B1, 0, none⟩) 0 0), rfl, hs_.pulls [0] rfl⟩
    · refine TW.skip ?_
      refine TE.next ?_
      refine TW.seq ?_
      refine TW.seq ?_
      refine TW.region ?_
      refine TO.y (Y.assign rfl) rfl rfl rfl ?_
      refine TO.nil ?_
      refine TE.next ?_
      refine TW.joinX (τ := List Ent) (X := Value) (fun _ X => [(7, X)]) (fun T X => [.own X (lc T)]) ?_ (fun T11 X12 => ?_)
      · refine TW.block ?_
        refine TW.loopX (σ := Int × List Ent) (X := Value) (fun T X => [(0, V_l0), (1, V_snaps0), (2, .bool bottom), (7, X), (8, .int .i64 T.1)]) (fun T X => [.own X (lc T.2)]) (.slice (some ⟨B1, 0, none⟩) 0 0) [0] ⟨rfl, rfl, rfl, rfl, rfl, trivial⟩ rfl (fun S9 X10 => ?_)
        refine TW.seq ?_
        refine TW.seq ?_
        refine TW.region ?_
        refine TO.y (Y.move rfl) rfl rfl rfl ?_
        refine TO.y (Y.move rfl) rfl rfl rfl ?_
        refine TO.y (Y.len (l := l) ke80 (Base.can HB_V_l0) rfl) rfl rfl rfl ?_
        refine TO.y (Y.lss rfl rfl) rfl rfl rfl ?_
        refine TO.nil ?_
        refine TE.next ?_
        refine TW.cond rfl (fun H13 => ?_) (fun H13 => ?_)
        · refine TW.skip ?_
          refine TE.next ?_
          refine TW.seq ?_
          refine TW.block ?_
          refine TW.region ?_
          refine TO.y (Y.move rfl) rfl rfl rfl ?_
          refine TO.y (Y.move rfl) rfl rfl rfl ?_
          refine TO.y (Y.move rfl) rfl rfl rfl ?_
          refine TO.y (Y.move rfl) rfl rfl rfl ?_
          refine TO.y (Y.move rfl) rfl rfl rfl ?_
          refine TO.bind fun R14 H15 => ?_
          refine TO.ef (Ef.call (rest := [.own X10 (lc S9.2)]) [0] (spec_l15Last_con l S9.1 V_l0 R14 H15) kc98 rfl rfl ⟨(Base.can HB_V_l0), trivial⟩) rfl rfl rfl (fun _ => ?_)
          refine TO.bind fun E17 H18 => ?_
          have Q19 := Base.sub (sz := 4) H18 rfl HB_V_l0
          refine TO.y (Y.subs H18 ke80 (Base.can HB_V_l0) rfl ⟨_, rfl⟩ ⟨_, rfl⟩) rfl rfl rfl ?_
          refine TO.y (Y.move rfl) rfl rfl rfl ?_
          refine TO.y (Y.move rfl) rfl rfl rfl ?_
          refine TO.bind fun R20 H21 => ?_
          refine TO.ef (Ef.call (rest := [.own X10 (lc S9.2)]) [0] (spec_l15Key_con E17 snaps bottom (subV V_l0 4 S9.1.toNat (R14.toNat - S9.1.toNat)) V_snaps0 R20 H21) kc99 rfl rfl ⟨(Base.can Q19), (Base.can HB_V_snaps0), trivial⟩) rfl rfl rfl (fun Y22 => ?_)
          refine TO.bind fun E24 H25 => ?_
          refine TO.ef (Ef.append (α := Ent) (is' := [.own Y22 (lc R20)]) [1, 0] H25 ke80 kz130 rfl rfl rfl rfl rfl (Can.own 0 rfl)) rfl rfl rfl (fun V23 => ?_)
          refine TO.y (Y.assign rfl) rfl rfl rfl ?_
          refine TO.nil ?_
          refine TE.block_normal ?_
          refine TE.next ?_
          refine TW.region ?_
          refine TO.y (Y.move rfl) rfl rfl rfl ?_
          refine TO.y (Y.move rfl) rfl rfl rfl ?_
          refine TO.ef (Ef.call (rest := [.own V23 (lc E24), .own Y22 (lc R20)]) [0, 0] (spec_l15Last_con l S9.1 V_l0 R14 H15) kc98 rfl rfl ⟨(Base.can HB_V_l0), trivial⟩) rfl rfl rfl (fun _ => ?_)
          refine TO.y (Y.assign rfl) rfl rfl rfl ?_
          refine TO.nil ?_
          exact TE.lp_go V23 [0] ⟨rfl, rfl, rfl, rfl, rfl, trivial⟩ rfl
        · refine TW.exit ?_
          refine TE.then_exit ?_
          refine TE.lp_exit ?_
          refine TE.block_exit ?_
          exact TE.jn_go X10 [0] ⟨rfl, trivial⟩ rfl
      · refine TE.next ?_
        refine TW.seq ?_
        refine TW.region ?_
        refine TO.y (Y.move rfl) rfl rfl rfl ?_
        refine TO.y (Y.assign rfl) rfl rfl rfl ?_
        refine TO.nil ?_
        refine TE.next ?_
        refine TW.ret ?_
        exact TE.leaf fun _ _ hf_ hs_ => ret_any (rs := [.tmp 6]) (vs := [X12]) (.inl rfl) rfl ⟨rfl, trivial⟩ hf_ hs_ ⟨X12, rfl, hs_.pulls [0] rfl⟩

/-- loop.example/g00950/impl.inRange -/
noncomputable def impl_inRange (n : Int) (least : Int) (most : Int) : Option Bool :=
  (if (decide (n ≥ least)) = true then (some (decide (n ≤ most)))
  else (some false)).bind (fun (T1 : Bool) =>
  some T1)

theorem impl_inRange_con (n : Int) (least : Int) (most : Int)  (r : Bool) (hm : impl_inRange n least most = some r) :
    Con Try.prog 82 [.int .i64 n, .int .i64 least, .int .i64 most] [] [] (fun _ : Unit => .bool r) (fun _ => []) := by
  refine Con.intro (args := [.int .i64 n, .int .i64 least, .int .i64 most]) (n := 15) (val := fun r (_ : Unit) => .bool r) (post := fun _ _ => []) (m := impl_inRange n least most) Try.func82 rfl rfl rfl hm ?_
  intro w S _
  unfold impl_inRange
  refine TW.seq ?_
  refine TW.region ?_
  refine TO.y (Y.assign rfl) rfl rfl rfl ?_
  refine TO.nil ?_
  refine TE.next ?_
  refine TW.seq ?_
  refine TW.joinBX (τ := Bool) (X := Unit) (fun T _ => [(6, .bool T)]) (fun _ _ => []) ?_ (fun T1 X2 => ?_)
  · refine TW.region ?_
    refine TO.y (Y.move rfl) rfl rfl rfl ?_
    refine TO.y (Y.move rfl) rfl rfl rfl ?_
    refine TO.y (Y.geq rfl rfl) rfl rfl rfl ?_
    refine TO.y (Y.move rfl) rfl rfl rfl ?_
    refine TO.ite (b := decide (n ≥ least)) (fun H3 => ?_) (fun H3 => ?_)
    · refine TO.y (Y.move rfl) (Gd.at 3 true 10 (decide (n ≥ least)) rfl rfl rfl (beq_tt H3)) rfl rfl ?_
      refine TO.y (Y.move rfl) (Gd.at 3 true 10 (decide (n ≥ least)) rfl rfl rfl (beq_tt H3)) rfl rfl ?_
      refine TO.y (Y.leq rfl rfl) (Gd.at 3 true 10 (decide (n ≥ least)) rfl rfl rfl (beq_tt H3)) rfl rfl ?_
      refine TO.y (Y.pick_t H3 rfl rfl) rfl rfl rfl ?_
      refine TO.y (Y.assign rfl) rfl rfl rfl ?_
      refine TO.nil ?_
      exact TE.jb_go () [] ⟨rfl, trivial⟩ rfl
    · refine TO.off (Gd.at 3 true 10 (decide (n ≥ least)) rfl rfl rfl (beq_ft H3)) rfl rfl ?_
      refine TO.off (Gd.at 3 true 10 (decide (n ≥ least)) rfl rfl rfl (beq_ft H3)) rfl rfl ?_
      refine TO.off (Gd.at 3 true 10 (decide (n ≥ least)) rfl rfl rfl (beq_ft H3)) rfl rfl ?_
      refine TO.y (Y.pick_f H3 rfl rfl) rfl rfl rfl ?_
      refine TO.y (Y.assign rfl) rfl rfl rfl ?_
      refine TO.nil ?_
      exact TE.jb_go () [] ⟨rfl, trivial⟩ rfl
  · refine TE.next ?_
    refine TW.ret ?_
    exact TE.leaf fun _ _ hf_ hs_ => ret_any (rs := [.tmp 6]) (vs := [.bool T1]) (.inl rfl) rfl ⟨rfl, trivial⟩ hf_ hs_ ⟨(), rfl, hs_.pulls [] rfl⟩

/-- loop.example/g00950/impl.isKey -/
noncomputable def impl_isKey (s : List UInt8) : Option Bool :=
  (impl_inRange ((s.length : Nat) : Int) (1 : Int) (10 : Int)).bind fun R1 =>
  some R1

theorem impl_isKey_con (s : List UInt8)  (r : Bool) (hm : impl_isKey s = some r) :
    Con Try.prog 127 [strV s] [] [] (fun _ : Unit => .bool r) (fun _ => []) := by
  refine Con.intro (args := [strV s]) (n := 6) (val := fun r (_ : Unit) => .bool r) (post := fun _ _ => []) (m := impl_isKey s) Try.func127 rfl rfl rfl hm ?_
  intro w S _
  unfold impl_isKey
  refine TW.seq ?_
  refine TW.region ?_
  refine TO.y (Y.assign rfl) rfl rfl rfl ?_
  refine TO.nil ?_
  refine TE.next ?_
  refine TW.seq ?_
  refine TW.region ?_
  refine TO.y (Y.move rfl) rfl rfl rfl ?_
  refine TO.y (Y.slen ks9 rfl) rfl rfl rfl ?_
  refine TO.bind fun R1 H2 => ?_
  refine TO.ef (Ef.call (rest := []) [] (impl_inRange_con ((s.length : Nat) : Int) (1 : Int) (10 : Int)  R1 H2) kc82 rfl rfl trivial) rfl rfl rfl (fun _ => ?_)
  refine TO.y (Y.assign rfl) rfl rfl rfl ?_
  refine TO.nil ?_
  refine TE.next ?_
  refine TW.ret ?_
  exact TE.leaf fun _ _ hf_ hs_ => ret_any (rs := [.tmp 2]) (vs := [.bool R1]) (.inl rfl) rfl ⟨rfl, trivial⟩ hf_ hs_ ⟨(), rfl, hs_.pulls [] rfl⟩

/-- loop.example/g00950/impl.isNumber -/
noncomputable def impl_isNumber (n : Int) : Option Bool :=
  (impl_inRange n (0 : Int) (1000000 : Int)).bind fun R1 =>
  some R1

theorem impl_isNumber_con (n : Int)  (r : Bool) (hm : impl_isNumber n = some r) :
    Con Try.prog 148 [.int .i64 n] [] [] (fun _ : Unit => .bool r) (fun _ => []) := by
  refine Con.intro (args := [.int .i64 n]) (n := 5) (val := fun r (_ : Unit) => .bool r) (post := fun _ _ => []) (m := impl_isNumber n) Try.func148 rfl rfl rfl hm ?_
  intro w S _
  unfold impl_isNumber
  refine TW.seq ?_
  refine TW.region ?_
  refine TO.y (Y.assign rfl) rfl rfl rfl ?_
  refine TO.nil ?_
  refine TE.next ?_
  refine TW.seq ?_
  refine TW.region ?_
  refine TO.y (Y.move rfl) rfl rfl rfl ?_
  refine TO.bind fun R1 H2 => ?_
  refine TO.ef (Ef.call (rest := []) [] (impl_inRange_con n (0 : Int) (1000000 : Int)  R1 H2) kc82 rfl rfl trivial) rfl rfl rfl (fun _ => ?_)
  refine TO.y (Y.assign rfl) rfl rfl rfl ?_
  refine TO.nil ?_
  refine TE.next ?_
  refine TW.ret ?_
  exact TE.leaf fun _ _ hf_ hs_ => ret_any (rs := [.tmp 2]) (vs := [.bool R1]) (.inl rfl) rfl ⟨rfl, trivial⟩ hf_ hs_ ⟨(), rfl, hs_.pulls [] rfl⟩

/-- loop.example/g00950/impl.isVal -/
noncomputable def impl_isVal (del : Bool) (val : List UInt8) : Option Bool :=
  (if (decide (((val.length : Nat) : Int) ≤ (16 : Int))) = true then (if del = true then (some (!(!(decide (val = ([]))))))
  else (some (!false)))
  else (some false)).bind (fun (T1 : Bool) =>
  some T1)

theorem impl_isVal_con (del : Bool) (val : List UInt8)  (r : Bool) (hm : impl_isVal del val = some r) :
    Con Try.prog 149 [.bool del, strV val] [] [] (fun _ : Unit => .bool r) (fun _ => []) := by
  refine Con.intro (args := [.bool del, strV val]) (n := 16) (val := fun r (_ : Unit) => .bool r) (post := fun _ _ => []) (m := impl_isVal del val) Try.func149 rfl rfl rfl hm ?_
  intro w S _
  unfold impl_isVal
  refine TW.seq ?_
  refine TW.region ?_
  refine TO.y (Y.assign rfl) rfl rfl rfl ?_
  refine TO.nil ?_
  refine TE.next ?_
  refine TW.seq ?_
  refine TW.joinBX (τ := Bool) (X := Unit) (fun T _ => [(4, .bool T)]) (fun _ _ => []) ?_ (fun T1 X2 => ?_)
  · refine TW.region ?_
    refine TO.y (Y.move rfl) rfl rfl rfl ?_
    refine TO.y (Y.slen ks9 rfl) rfl rfl rfl ?_
    refine TO.y (Y.leq rfl rfl) rfl rfl rfl ?_
    refine TO.y (Y.move rfl) rfl rfl rfl ?_
    refine TO.ite (b := decide (((val.length : Nat) : Int) ≤ (16 : Int))) (fun H3 => ?_) (fun H3 => ?_)
    · refine TO.y (Y.move rfl) (Gd.at 3 true 8 (decide (((val.length : Nat) : Int) ≤ (16 : Int))) rfl rfl rfl (beq_tt H3)) rfl rfl ?_
      refine TO.y (Y.move rfl) (Gd.at 3 true 8 (decide (((val.length : Nat) : Int) ≤ (16 : Int))) rfl rfl rfl (beq_tt H3)) rfl rfl ?_
      refine TO.ite (b := del) (fun H4 => ?_) (fun H4 => ?_)
      · refine TO.y (Y.move rfl) (Gd.at 5 true 10 del rfl rfl rfl (beq_tt H4)) rfl rfl ?_
        refine TO.y (Y.sneq rfl rfl) (Gd.at 5 true 10 del rfl rfl rfl (beq_tt H4)) rfl rfl ?_
        refine TO.y (Y.pick_t H4 rfl rfl) (Gd.at 3 true 8 (decide (((val.length : Nat) : Int) ≤ (16 : Int))) rfl rfl rfl (beq_tt H3)) rfl rfl ?_
        refine TO.y (Y.not rfl) (Gd.at 3 true 8 (decide (((val.length : Nat) : Int) ≤ (16 : Int))) rfl rfl rfl (beq_tt H3)) rfl rfl ?_
        refine TO.y (Y.pick_t H3 rfl rfl) rfl rfl rfl ?_
        refine TO.y (Y.assign rfl) rfl rfl rfl ?_
        refine TO.nil ?_
        exact TE.jb_go () [] ⟨rfl, trivial⟩ rfl
      · refine TO.off (Gd.at 5 true 10 del rfl rfl rfl (beq_ft H4)) rfl rfl ?_
        refine TO.off (Gd.at 5 true 10 del rfl rfl rfl (beq_ft H4)) rfl rfl ?_
        refine TO.y (Y.pick_f H4 rfl rfl) (Gd.at 3 true 8 (decide (((val.length : Nat) : Int) ≤ (16 : Int))) rfl rfl rfl (beq_tt H3)) rfl rfl ?_
        refine TO.y (Y.not rfl) (Gd.at 3 true 8 (decide (((val.length : Nat) : Int) ≤ (16 : Int))) rfl rfl rfl (beq_tt H3)) rfl rfl ?_
        refine TO.y (Y.pick_t H3 rfl rfl) rfl rfl rfl ?_
        refine TO.y (Y.assign rfl) rfl rfl rfl ?_
        refine TO.nil ?_
        exact TE.jb_go () [] ⟨rfl, trivial⟩ rfl
    · refine TO.off (Gd.at 3 true 8 (decide (((val.length : Nat) : Int) ≤ (16 : Int))) rfl rfl rfl (beq_ft H3)) rfl rfl ?_
      refine TO.off (Gd.at 3 true 8 (decide (((val.length : Nat) : Int) ≤ (16 : Int))) rfl rfl rfl (beq_ft H3)) rfl rfl ?_
      refine TO.off (Gd.un 5 true 10 rfl rfl rfl) rfl rfl ?_
      refine TO.off (Gd.un 5 true 10 rfl rfl rfl) rfl rfl ?_
      refine TO.off (Gd.at 3 true 8 (decide (((val.length : Nat) : Int) ≤ (16 : Int))) rfl rfl rfl (beq_ft H3)) rfl rfl ?_
      refine TO.off (Gd.at 3 true 8 (decide (((val.length : Nat) : Int) ≤ (16 : Int))) rfl rfl rfl (beq_ft H3)) rfl rfl ?_
      refine TO.y (Y.pick_f H3 rfl rfl) rfl rfl rfl ?_
      refine TO.y (Y.assign rfl) rfl rfl rfl ?_
      refine TO.nil ?_
      exact TE.jb_go () [] ⟨rfl, trivial⟩ rfl
  · refine TE.next ?_
    refine TW.ret ?_
    exact TE.leaf fun _ _ hf_ hs_ => ret_any (rs := [.tmp 4]) (vs := [.bool T1]) (.inl rfl) rfl ⟨rfl, trivial⟩ hf_ hs_ ⟨(), rfl, hs_.pulls [] rfl⟩

/-- loop.example/g00950/impl.entOk -/
noncomputable def impl_entOk (e : Ent) : Option Bool :=
  ((impl_isKey e.Key).bind fun R4 =>
  if R4 = true then ((impl_isNumber e.Seq).bind fun R8 =>
  if R8 = true then ((impl_isVal e.Del e.Val).bind fun R12 =>
  some R12)
  else (some false))
  else (some false)).bind (fun (T2 : Bool) =>
  some T2)

theorem impl_entOk_con (e : Ent)  (r : Bool) (hm : impl_entOk e = some r) :
    Con Try.prog 134 [.agg #[strV e.Key, .int .i64 e.Seq, .bool e.Del, strV e.Val]] [] [] (fun _ : Unit => .bool r) (fun _ => []) := by
  refine Con.intro (args := [.agg #[strV e.Key, .int .i64 e.Seq, .bool e.Del, strV e.Val]]) (n := 18) (val := fun r (_ : Unit) => .bool r) (post := fun _ _ => []) (m := impl_entOk e) Try.func134 rfl rfl rfl hm ?_
  intro w S _
  unfold impl_entOk
  refine TW.seq ?_
  refine TW.region ?_
  refine TO.ef (Ef.box rfl (Cel.plain rfl rfl)) rfl rfl rfl (fun B1 => ?_)
  refine TO.y (Y.assign rfl) rfl rfl rfl ?_
  refine TO.nil ?_
  refine TE.next ?_
  refine TW.seq ?_
  refine TW.joinBX (τ := Bool) (X := Unit) (fun T _ => [(2, .bool T)]) (fun _ _ => []) ?_ (fun T2 X3 => ?_)
  · refine TW.region ?_
    refine TO.y (Y.field_box kf130_0 rfl rfl) rfl rfl rfl ?_
    refine TO.y (Y.load_box (v := strV e.Key) 0 kk9 rfl rfl rfl) rfl rfl rfl ?_
    refine TO.bind fun R4 H5 => ?_
    refine TO.ef (Ef.call (rest := [.box B1 130 [strV e.Key, .int .i64 e.Seq, .bool e.Del, strV e.Val]]) [0] (impl_isKey_con e.Key  R4 H5) kc127 rfl rfl trivial) rfl rfl rfl (fun _ => ?_)
    refine TO.y (Y.move rfl) rfl rfl rfl ?_
    refine TO.ite (b := R4) (fun H7 => ?_) (fun H7 => ?_)
    · refine TO.y (Y.field_box kf130_1 rfl rfl) (Gd.at 3 true 6 R4 rfl rfl rfl (beq_tt H7)) rfl rfl ?_
      refine TO.y (Y.load_box (v := .int .i64 e.Seq) 0 kk3 rfl rfl rfl) (Gd.at 3 true 6 R4 rfl rfl rfl (beq_tt H7)) rfl rfl ?_
      refine TO.bind fun R8 H9 => ?_
      refine TO.ef (Ef.call (rest := [.box B1 130 [strV e.Key, .int .i64 e.Seq, .bool e.Del, strV e.Val]]) [0] (impl_isNumber_con e.Seq  R8 H9) kc148 rfl rfl trivial) (Gd.at 3 true 6 R4 rfl rfl rfl (beq_tt H7)) rfl rfl (fun _ => ?_)
      refine TO.y (Y.pick_t H7 rfl rfl) rfl rfl rfl ?_
      refine TO.y (Y.move rfl) rfl rfl rfl ?_
      refine TO.ite (b := R8) (fun H11 => ?_) (fun H11 => ?_)
      · refine TO.y (Y.field_box kf130_2 rfl rfl) (Gd.at 8 true 11 R8 rfl rfl rfl (beq_tt H11)) rfl rfl ?_
        refine TO.y (Y.load_box (v := .bool e.Del) 0 kk4 rfl rfl rfl) (Gd.at 8 true 11 R8 rfl rfl rfl (beq_tt H11)) rfl rfl ?_
        refine TO.y (Y.field_box kf130_3 rfl rfl) (Gd.at 8 true 11 R8 rfl rfl rfl (beq_tt H11)) rfl rfl ?_
        refine TO.y (Y.load_box (v := strV e.Val) 0 kk9 rfl rfl rfl) (Gd.at 8 true 11 R8 rfl rfl rfl (beq_tt H11)) rfl rfl ?_
        refine TO.bind fun R12 H13 => ?_
        refine TO.ef (Ef.call (rest := [.box B1 130 [strV e.Key, .int .i64 e.Seq, .bool e.Del, strV e.Val]]) [0] (impl_isVal_con e.Del e.Val  R12 H13) kc149 rfl rfl trivial) (Gd.at 8 true 11 R8 rfl rfl rfl (beq_tt H11)) rfl rfl (fun _ => ?_)
        refine TO.y (Y.pick_t H11 rfl rfl) rfl rfl rfl ?_
        refine TO.y (Y.assign rfl) rfl rfl rfl ?_
        refine TO.nil ?_
        exact TE.jb_go () [] ⟨rfl, trivial⟩ rfl
      · refine TO.off (Gd.at 8 true 11 R8 rfl rfl rfl (beq_ft H11)) rfl rfl ?_
        refine TO.off (Gd.at 8 true 11 R8 rfl rfl rfl (beq_ft H11)) rfl rfl ?_
        refine TO.off (Gd.at 8 true 11 R8 rfl rfl rfl (beq_ft H11)) rfl rfl ?_
        refine TO.off (Gd.at 8 true 11 R8 rfl rfl rfl (beq_ft H11)) rfl rfl ?_
        refine TO.off (Gd.at 8 true 11 R8 rfl rfl rfl (beq_ft H11)) rfl rfl ?_
        refine TO.y (Y.pick_f H11 rfl rfl) rfl rfl rfl ?_
        refine TO.y (Y.assign rfl) rfl rfl rfl ?_
        refine TO.nil ?_
        exact TE.jb_go () [] ⟨rfl, trivial⟩ rfl
    · refine TO.off (Gd.at 3 true 6 R4 rfl rfl rfl (beq_ft H7)) rfl rfl ?_
      refine TO.off (Gd.at 3 true 6 R4 rfl rfl rfl (beq_ft H7)) rfl rfl ?_
      refine TO.off (Gd.at 3 true 6 R4 rfl rfl rfl (beq_ft H7)) rfl rfl ?_
      refine TO.y (Y.pick_f H7 rfl rfl) rfl rfl rfl ?_
      refine TO.y (Y.move rfl) rfl rfl rfl ?_
      refine TO.off (Gd.at 8 true 11 false rfl rfl rfl rfl) rfl rfl ?_
      refine TO.off (Gd.at 8 true 11 false rfl rfl rfl rfl) rfl rfl ?_
      refine TO.off (Gd.at 8 true 11 false rfl rfl rfl rfl) rfl rfl ?_
      refine TO.off (Gd.at 8 true 11 false rfl rfl rfl rfl) rfl rfl ?_
      refine TO.off (Gd.at 8 true 11 false rfl rfl rfl rfl) rfl rfl ?_
      refine TO.y (Y.pick_f rfl rfl rfl) rfl rfl rfl ?_
      refine TO.y (Y.assign rfl) rfl rfl rfl ?_
      refine TO.nil ?_
      exact TE.jb_go () [] ⟨rfl, trivial⟩ rfl
  · refine TE.next ?_
    refine TW.ret ?_
    exact TE.leaf fun _ _ hf_ hs_ => ret_any (rs := [.tmp 2]) (vs := [.bool T2]) (.inl rfl) rfl ⟨rfl, trivial⟩ hf_ hs_ ⟨(), rfl, hs_.pulls [] rfl⟩

/-- cmp.isNaN[string] -/
noncomputable def cmp_isNaN_83645 (x : List UInt8) : Option Bool :=
  some (!(decide (x = x)))

theorem cmp_isNaN_83645_con (x : List UInt8)  (r : Bool) (hm : cmp_isNaN_83645 x = some r) :
    Con Try.prog 143 [strV x] [] [] (fun _ : Unit => .bool r) (fun _ => []) := by
  refine Con.intro (args := [strV x]) (n := 6) (val := fun r (_ : Unit) => .bool r) (post := fun _ _ => []) (m := cmp_isNaN_83645 x) Try.func143 rfl rfl rfl hm ?_
  intro w S _
  unfold cmp_isNaN_83645
  refine TW.seq ?_
  refine TW.region ?_
  refine TO.y (Y.assign rfl) rfl rfl rfl ?_
  refine TO.nil ?_
  refine TE.next ?_
  refine TW.seq ?_
  refine TW.region ?_
  refine TO.y (Y.move rfl) rfl rfl rfl ?_
  refine TO.y (Y.move rfl) rfl rfl rfl ?_
  refine TO.y (Y.sneq rfl rfl) rfl rfl rfl ?_
  refine TO.y (Y.assign rfl) rfl rfl rfl ?_
  refine TO.nil ?_
  refine TE.next ?_
  refine TW.ret ?_
  exact TE.leaf fun _ _ hf_ hs_ => ret_any (rs := [.tmp 2]) (vs := [.bool (!(decide (x = x)))]) (.inl rfl) rfl ⟨rfl, trivial⟩ hf_ hs_ ⟨(), rfl, hs_.pulls [] rfl⟩

/-- cmp.Compare[string] -/
noncomputable def cmp_Compare_83645 (x : List UInt8) (y : List UInt8) : Option Int :=
  (cmp_isNaN_83645 x).bind fun R1 =>
  (cmp_isNaN_83645 y).bind fun R4 =>
  if R1 = true then (if R4 = true then (some (0 : Int))
  else (some (-1 : Int)))
  else (if R4 = true then (some (1 : Int))
  else (if (sLt x y) = true then (some (-1 : Int))
  else (if (!(sLt x y || decide (x = y))) = true then (some (1 : Int))
  else (some (0 : Int)))))

theorem cmp_Compare_83645_con (x : List UInt8) (y : List UInt8)  (r : Int) (hm : cmp_Compare_83645 x y = some r) :
    Con Try.prog 119 [strV x, strV y] [] [] (fun _ : Unit => .int .i64 r) (fun _ => []) := by
  refine Con.intro (args := [strV x, strV y]) (n := 20) (val := fun r (_ : Unit) => .int .i64 r) (post := fun _ _ => []) (m := cmp_Compare_83645 x y) Try.func119 rfl rfl rfl hm ?_
  intro w S _
  unfold cmp_Compare_83645
  refine TW.seq ?_
  refine TW.region ?_
  refine TO.y (Y.assign rfl) rfl rfl rfl ?_
  refine TO.nil ?_
  refine TE.next ?_
  refine TW.seq ?_
  refine TW.region ?_
  refine TO.y (Y.move rfl) rfl rfl rfl ?_
  refine TO.bind fun R1 H2 => ?_
  refine TO.ef (Ef.call (rest := []) [] (cmp_isNaN_83645_con x  R1 H2) kc143 rfl rfl trivial) rfl rfl rfl (fun _ => ?_)
  refine TO.y (Y.assign rfl) rfl rfl rfl ?_
  refine TO.nil ?_
  refine TE.next ?_
  refine TW.seq ?_
  refine TW.region ?_
  refine TO.y (Y.move rfl) rfl rfl rfl ?_
  refine TO.bind fun R4 H5 => ?_
  refine TO.ef (Ef.call (rest := []) [] (cmp_isNaN_83645_con y  R4 H5) kc143 rfl rfl trivial) rfl rfl rfl (fun _ => ?_)
  refine TO.y (Y.assign rfl) rfl rfl rfl ?_
  refine TO.nil ?_
  refine TE.next ?_
  refine TW.seq ?_
  refine TW.seq ?_
  refine TW.region ?_
  refine TO.y (Y.move rfl) rfl rfl rfl ?_
  refine TO.nil ?_
  refine TE.next ?_
  refine TW.cond rfl (fun H7 => ?_) (fun H7 => ?_)
  · refine TW.seq ?_
    refine TW.seq ?_
    refine TW.region ?_
    refine TO.y (Y.move rfl) rfl rfl rfl ?_
    refine TO.nil ?_
    refine TE.next ?_
    refine TW.cond rfl (fun H8 => ?_) (fun H8 => ?_)
    · refine TW.seq ?_
      refine TW.region ?_
      refine TO.y (Y.assign rfl) rfl rfl rfl ?_
      refine TO.nil ?_
      refine TE.next ?_
      refine TW.ret ?_
      refine TE.then_ret ?_
      refine TE.then_ret ?_
      exact TE.leaf fun _ _ hf_ hs_ => ret_any (rs := [.tmp 4]) (vs := [.int .i64 (0 : Int)]) (.inl rfl) rfl ⟨rfl, trivial⟩ hf_ hs_ ⟨(), rfl, hs_.pulls [] rfl⟩
    · refine TW.skip ?_
      refine TE.next ?_
      refine TW.seq ?_
      refine TW.region ?_
      refine TO.y (Y.assign rfl) rfl rfl rfl ?_
      refine TO.nil ?_
      refine TE.next ?_
      refine TW.ret ?_
      refine TE.then_ret ?_
      exact TE.leaf fun _ _ hf_ hs_ => ret_any (rs := [.tmp 4]) (vs := [.int .i64 (-1 : Int)]) (.inl rfl) rfl ⟨rfl, trivial⟩ hf_ hs_ ⟨(), rfl, hs_.pulls [] rfl⟩
  · refine TW.skip ?_
    refine TE.next ?_
    refine TW.seq ?_
    refine TW.seq ?_
    refine TW.region ?_
    refine TO.y (Y.move rfl) rfl rfl rfl ?_
    refine TO.nil ?_
    refine TE.next ?_
    refine TW.cond rfl (fun H9 => ?_) (fun H9 => ?_)
    · refine TW.seq ?_
      refine TW.region ?_
      refine TO.y (Y.assign rfl) rfl rfl rfl ?_
      refine TO.nil ?_
      refine TE.next ?_
      refine TW.ret ?_
      refine TE.then_ret ?_
      exact TE.leaf fun _ _ hf_ hs_ => ret_any (rs := [.tmp 4]) (vs := [.int .i64 (1 : Int)]) (.inl rfl) rfl ⟨rfl, trivial⟩ hf_ hs_ ⟨(), rfl, hs_.pulls [] rfl⟩
    · refine TW.skip ?_
      refine TE.next ?_
      refine TW.seq ?_
      refine TW.seq ?_
      refine TW.region ?_
      refine TO.y (Y.move rfl) rfl rfl rfl ?_
      refine TO.y (Y.move rfl) rfl rfl rfl ?_
      refine TO.y (Y.slss rfl rfl) rfl rfl rfl ?_
      refine TO.nil ?_
      refine TE.next ?_
      refine TW.cond rfl (fun H10 => ?_) (fun H10 => ?_)
      · refine TW.seq ?_
        refine TW.region ?_
        refine TO.y (Y.assign rfl) rfl rfl rfl ?_
        refine TO.nil ?_
        refine TE.next ?_
        refine TW.ret ?_
        refine TE.then_ret ?_
        exact TE.leaf fun _ _ hf_ hs_ => ret_any (rs := [.tmp 4]) (vs := [.int .i64 (-1 : Int)]) (.inl rfl) rfl ⟨rfl, trivial⟩ hf_ hs_ ⟨(), rfl, hs_.pulls [] rfl⟩
      · refine TW.skip ?_
        refine TE.next ?_
        refine TW.seq ?_
        refine TW.seq ?_
        refine TW.region ?_
        refine TO.y (Y.move rfl) rfl rfl rfl ?_
        refine TO.y (Y.move rfl) rfl rfl rfl ?_
        refine TO.y (Y.sgtr rfl rfl) rfl rfl rfl ?_
        refine TO.nil ?_
        refine TE.next ?_
        refine TW.cond rfl (fun H11 => ?_) (fun H11 => ?_)
        · refine TW.seq ?_
          refine TW.region ?_
          refine TO.y (Y.assign rfl) rfl rfl rfl ?_
          refine TO.nil ?_
          refine TE.next ?_
          refine TW.ret ?_
          refine TE.then_ret ?_
          exact TE.leaf fun _ _ hf_ hs_ => ret_any (rs := [.tmp 4]) (vs := [.int .i64 (1 : Int)]) (.inl rfl) rfl ⟨rfl, trivial⟩ hf_ hs_ ⟨(), rfl, hs_.pulls [] rfl⟩
        · refine TW.skip ?_
          refine TE.next ?_
          refine TW.seq ?_
          refine TW.region ?_
          refine TO.y (Y.assign rfl) rfl rfl rfl ?_
          refine TO.nil ?_
          refine TE.next ?_
          refine TW.ret ?_
          exact TE.leaf fun _ _ hf_ hs_ => ret_any (rs := [.tmp 4]) (vs := [.int .i64 (0 : Int)]) (.inl rfl) rfl ⟨rfl, trivial⟩ hf_ hs_ ⟨(), rfl, hs_.pulls [] rfl⟩

/-- cmp.isNaN[int] -/
noncomputable def cmp_isNaN_26527 (x : Int) : Option Bool :=
  some (!(decide (x = x)))

theorem cmp_isNaN_26527_con (x : Int)  (r : Bool) (hm : cmp_isNaN_26527 x = some r) :
    Con Try.prog 142 [.int .i64 x] [] [] (fun _ : Unit => .bool r) (fun _ => []) := by
  refine Con.intro (args := [.int .i64 x]) (n := 6) (val := fun r (_ : Unit) => .bool r) (post := fun _ _ => []) (m := cmp_isNaN_26527 x) Try.func142 rfl rfl rfl hm ?_
  intro w S _
  unfold cmp_isNaN_26527
  refine TW.seq ?_
  refine TW.region ?_
  refine TO.y (Y.assign rfl) rfl rfl rfl ?_
  refine TO.nil ?_
  refine TE.next ?_
  refine TW.seq ?_
  refine TW.region ?_
  refine TO.y (Y.move rfl) rfl rfl rfl ?_
  refine TO.y (Y.move rfl) rfl rfl rfl ?_
  refine TO.y (Y.neq rfl rfl) rfl rfl rfl ?_
  refine TO.y (Y.assign rfl) rfl rfl rfl ?_
  refine TO.nil ?_
  refine TE.next ?_
  refine TW.ret ?_
  exact TE.leaf fun _ _ hf_ hs_ => ret_any (rs := [.tmp 2]) (vs := [.bool (!(decide (x = x)))]) (.inl rfl) rfl ⟨rfl, trivial⟩ hf_ hs_ ⟨(), rfl, hs_.pulls [] rfl⟩

/-- cmp.Compare[int] -/
noncomputable def cmp_Compare_26527 (x : Int) (y : Int) : Option Int :=
  (cmp_isNaN_26527 x).bind fun R1 =>
  (cmp_isNaN_26527 y).bind fun R4 =>
  if R1 = true then (if R4 = true then (some (0 : Int))
  else (some (-1 : Int)))
  else (if R4 = true then (some (1 : Int))
  else (if (decide (x < y)) = true then (some (-1 : Int))
  else (if (decide (x > y)) = true then (some (1 : Int))
  else (some (0 : Int)))))

theorem cmp_Compare_26527_con (x : Int) (y : Int)  (r : Int) (hm : cmp_Compare_26527 x y = some r) :
    Con Try.prog 118 [.int .i64 x, .int .i64 y] [] [] (fun _ : Unit => .int .i64 r) (fun _ => []) := by
  refine Con.intro (args := [.int .i64 x, .int .i64 y]) (n := 20) (val := fun r (_ : Unit) => .int .i64 r) (post := fun _ _ => []) (m := cmp_Compare_26527 x y) Try.func118 rfl rfl rfl hm ?_
  intro w S _
  unfold cmp_Compare_26527
  refine TW.seq ?_
  refine TW.region ?_
  refine TO.y (Y.assign rfl) rfl rfl rfl ?_
  refine TO.nil ?_
  refine TE.next ?_
  refine TW.seq ?_
  refine TW.region ?_
  refine TO.y (Y.move rfl) rfl rfl rfl ?_
  refine TO.bind fun R1 H2 => ?_
  refine TO.ef (Ef.call (rest := []) [] (cmp_isNaN_26527_con x  R1 H2) kc142 rfl rfl trivial) rfl rfl rfl (fun _ => ?_)
  refine TO.y (Y.assign rfl) rfl rfl rfl ?_
  refine TO.nil ?_
  refine TE.next ?_
  refine TW.seq ?_
  refine TW.region ?_
  refine TO.y (Y.move rfl) rfl rfl rfl ?_
  refine TO.bind fun R4 H5 => ?_
  refine TO.ef (Ef.call (rest := []) [] (cmp_isNaN_26527_con y  R4 H5) kc142 rfl rfl trivial) rfl rfl rfl (fun _ => ?_)
  refine TO.y (Y.assign rfl) rfl rfl rfl ?_
  refine TO.nil ?_
  refine TE.next ?_
  refine TW.seq ?_
  refine TW.seq ?_
  refine TW.region ?_
  refine TO.y (Y.move rfl) rfl rfl rfl ?_
  refine TO.nil ?_
  refine TE.next ?_
  refine TW.cond rfl (fun H7 => ?_) (fun H7 => ?_)
  · refine TW.seq ?_
    refine TW.seq ?_
    refine TW.region ?_
    refine TO.y (Y.move rfl) rfl rfl rfl ?_
    refine TO.nil ?_
    refine TE.next ?_
    refine TW.cond rfl (fun H8 => ?_) (fun H8 => ?_)
    · refine TW.seq ?_
      refine TW.region ?_
      refine TO.y (Y.assign rfl) rfl rfl rfl ?_
      refine TO.nil ?_
      refine TE.next ?_
      refine TW.ret ?_
      refine TE.then_ret ?_
      refine TE.then_ret ?_
      exact TE.leaf fun _ _ hf_ hs_ => ret_any (rs := [.tmp 4]) (vs := [.int .i64 (0 : Int)]) (.inl rfl) rfl ⟨rfl, trivial⟩ hf_ hs_ ⟨(), rfl, hs_.pulls [] rfl⟩
    · refine TW.skip ?_
      refine TE.next ?_
      refine TW.seq ?_
      refine TW.region ?_
      refine TO.y (Y.assign rfl) rfl rfl rfl ?_
      refine TO.nil ?_
      refine TE.next ?_
      refine TW.ret ?_
      refine TE.then_ret ?_
      exact TE.leaf fun _ _ hf_ hs_ => ret_any (rs := [.tmp 4]) (vs := [.int .i64 (-1 : Int)]) (.inl rfl) rfl ⟨rfl, trivial⟩ hf_ hs_ ⟨(), rfl, hs_.pulls [] rfl⟩
  · refine TW.skip ?_
    refine TE.next ?_
    refine TW.seq ?_
    refine TW.seq ?_
    refine TW.region ?_
    refine TO.y (Y.move rfl) rfl rfl rfl ?_
    refine TO.nil ?_
    refine TE.next ?_
    refine TW.cond rfl (fun H9 => ?_) (fun H9 => ?_)
    · refine TW.seq ?_
      refine TW.region ?_
      refine TO.y (Y.assign rfl) rfl rfl rfl ?_
      refine TO.nil ?_
      refine TE.next ?_
      refine TW.ret ?_
      refine TE.then_ret ?_
      exact TE.leaf fun _ _ hf_ hs_ => ret_any (rs := [.tmp 4]) (vs := [.int .i64 (1 : Int)]) (.inl rfl) rfl ⟨rfl, trivial⟩ hf_ hs_ ⟨(), rfl, hs_.pulls [] rfl⟩
    · refine TW.skip ?_
      refine TE.next ?_
      refine TW.seq ?_
      refine TW.seq ?_
      refine TW.region ?_
      refine TO.y (Y.move rfl) rfl rfl rfl ?_
      refine TO.y (Y.move rfl) rfl rfl rfl ?_
      refine TO.y (Y.lss rfl rfl) rfl rfl rfl ?_
      refine TO.nil ?_
      refine TE.next ?_
      refine TW.cond rfl (fun H10 => ?_) (fun H10 => ?_)
      · refine TW.seq ?_
        refine TW.region ?_
        refine TO.y (Y.assign rfl) rfl rfl rfl ?_
        refine TO.nil ?_
        refine TE.next ?_
        refine TW.ret ?_
        refine TE.then_ret ?_
        exact TE.leaf fun _ _ hf_ hs_ => ret_any (rs := [.tmp 4]) (vs := [.int .i64 (-1 : Int)]) (.inl rfl) rfl ⟨rfl, trivial⟩ hf_ hs_ ⟨(), rfl, hs_.pulls [] rfl⟩
      · refine TW.skip ?_
        refine TE.next ?_
        refine TW.seq ?_
        refine TW.seq ?_
        refine TW.region ?_
        refine TO.y (Y.move rfl) rfl rfl rfl ?_
        refine TO.y (Y.move rfl) rfl rfl rfl ?_
        refine TO.y (Y.gtr rfl rfl) rfl rfl rfl ?_
        refine TO.nil ?_
        refine TE.next ?_
        refine TW.cond rfl (fun H11 => ?_) (fun H11 => ?_)
        · refine TW.seq ?_
          refine TW.region ?_
          refine TO.y (Y.assign rfl) rfl rfl rfl ?_
          refine TO.nil ?_
          refine TE.next ?_
          refine TW.ret ?_
          refine TE.then_ret ?_
          exact TE.leaf fun _ _ hf_ hs_ => ret_any (rs := [.tmp 4]) (vs := [.int .i64 (1 : Int)]) (.inl rfl) rfl ⟨rfl, trivial⟩ hf_ hs_ ⟨(), rfl, hs_.pulls [] rfl⟩
        · refine TW.skip ?_
          refine TE.next ?_
          refine TW.seq ?_
          refine TW.region ?_
          refine TO.y (Y.assign rfl) rfl rfl rfl ?_
          refine TO.nil ?_
          refine TE.next ?_
          refine TW.ret ?_
          exact TE.leaf fun _ _ hf_ hs_ => ret_any (rs := [.tmp 4]) (vs := [.int .i64 (0 : Int)]) (.inl rfl) rfl ⟨rfl, trivial⟩ hf_ hs_ ⟨(), rfl, hs_.pulls [] rfl⟩

/-- cmp.Or[int] -/
noncomputable def cmp_Or_26527 (vals : List Int) : Option Int :=
  bindC (loopO (fun (S1 : Int) => if (decide (S1 < ((vals.length : Nat) : Int))) = true then ((idx vals S1).bind fun E6 =>
  if (!(decide (E6 = (0 : Int)))) = true then (some (.done (.done E6)))
  else (some (.go (IntKind.i64.wrap (S1 + (1 : Int))))))
  else (some (.done (.go ()))))
  (0 : Int))
  (fun (T3 : Unit) => some (0 : Int))

theorem cmp_Or_26527_con (vals : List Int) (V_vals0 : Value) (r : Int) (hm : cmp_Or_26527 vals = some r) :
    Con Try.prog 150 [V_vals0] [] [(V_vals0, lc vals)] (fun _ : Unit => .int .i64 r) (fun _ => []) := by
  refine Con.intro (args := [V_vals0]) (n := 18) (val := fun r (_ : Unit) => .int .i64 r) (post := fun _ _ => []) (m := cmp_Or_26527 vals) Try.func150 rfl rfl rfl hm ?_
  intro w S hrd
  have HB_V_vals0 := hrd _ (.head _)
  clear hrd
  unfold cmp_Or_26527
  refine TW.seq ?_
  refine TW.region ?_
  refine TO.y (Y.assign rfl) rfl rfl rfl ?_
  refine TO.nil ?_
  refine TE.next ?_
  refine TW.seq ?_
  refine TW.region ?_
  refine TO.y (Y.assign rfl) rfl rfl rfl ?_
  refine TO.nil ?_
  refine TE.next ?_
  refine TW.seq ?_
  refine TW.seq ?_
  refine TW.region ?_
  refine TO.y (Y.move rfl) rfl rfl rfl ?_
  refine TO.y (Y.len (l := vals) ke78 (Base.can HB_V_vals0) rfl) rfl rfl rfl ?_
  refine TO.y (Y.move rfl) rfl rfl rfl ?_
  refine TO.nil ?_
  refine TE.next ?_
  refine TW.joinX (τ := Unit) (X := Unit) (fun _ _ => [(3, .int .i64 (0 : Int))]) (fun _ _ => []) ?_ (fun T3 X4 => ?_)
  · refine TW.block ?_
    refine TW.loopX (σ := Int) (X := Unit) (fun T _ => [(3, .int .i64 (0 : Int)), (6, V_vals0), (7, .int .i64 ((vals.length : Nat) : Int)), (8, .int .i64 T)]) (fun _ _ => []) () [] ⟨rfl, rfl, rfl, rfl, trivial⟩ rfl (fun S1 X2 => ?_)
    refine TW.seq ?_
    refine TW.region ?_
    refine TO.y (Y.lss rfl rfl) rfl rfl rfl ?_
    refine TO.nil ?_
    refine TE.next ?_
    refine TW.seq ?_
    refine TW.cond rfl (fun H5 => ?_) (fun H5 => ?_)
    · refine TW.skip ?_
      refine TE.next ?_
      refine TW.seq ?_
      refine TW.block ?_
      refine TW.seq ?_
      refine TW.region ?_
      refine TO.bind fun E6 H7 => ?_
      refine TO.y (Y.index ke78 (Base.can HB_V_vals0) H7 rfl rfl) rfl rfl rfl ?_
      refine TO.y (Y.load_el (us := [.int .i64 E6]) (u := .int .i64 E6) kk3 rfl (Base.can HB_V_vals0) (idx_get H7).2.2 rfl rfl rfl rfl rfl) rfl rfl rfl ?_
      refine TO.y (Y.assign rfl) rfl rfl rfl ?_
      refine TO.nil ?_
      refine TE.next ?_
      refine TW.seq ?_
      refine TW.region ?_
      refine TO.y (Y.move rfl) rfl rfl rfl ?_
      refine TO.y (Y.move rfl) rfl rfl rfl ?_
      refine TO.y (Y.neq rfl rfl) rfl rfl rfl ?_
      refine TO.nil ?_
      refine TE.next ?_
      refine TW.cond rfl (fun H8 => ?_) (fun H8 => ?_)
      · refine TW.seq ?_
        refine TW.region ?_
        refine TO.y (Y.move rfl) rfl rfl rfl ?_
        refine TO.y (Y.assign rfl) rfl rfl rfl ?_
        refine TO.nil ?_
        refine TE.next ?_
        refine TW.ret ?_
        refine TE.block_ret ?_
        refine TE.then_ret ?_
        refine TE.lp_ret ?_
        refine TE.block_ret ?_
        refine TE.jn_done ?_
        refine TE.then_ret ?_
        exact TE.leaf fun _ _ hf_ hs_ => ret_any (rs := [.tmp 2]) (vs := [.int .i64 E6]) (.inl rfl) rfl ⟨rfl, trivial⟩ hf_ hs_ ⟨(), rfl, hs_.pulls [] rfl⟩
      · refine TW.skip ?_
        refine TE.block_normal ?_
        refine TE.next ?_
        refine TW.region ?_
        refine TO.y (Y.add rfl rfl) rfl rfl rfl ?_
        refine TO.y (Y.move rfl) rfl rfl rfl ?_
        refine TO.nil ?_
        exact TE.lp_go () [] ⟨rfl, rfl, rfl, rfl, trivial⟩ rfl
    · refine TW.exit ?_
      refine TE.then_exit ?_
      refine TE.lp_exit ?_
      refine TE.block_exit ?_
      exact TE.jn_go () [] ⟨rfl, trivial⟩ rfl
  · refine TE.next ?_
    refine TW.seq ?_
    refine TW.region ?_
    refine TO.y (Y.move rfl) rfl rfl rfl ?_
    refine TO.y (Y.assign rfl) rfl rfl rfl ?_
    refine TO.nil ?_
    refine TE.next ?_
    refine TW.ret ?_
    exact TE.leaf fun _ _ hf_ hs_ => ret_any (rs := [.tmp 2]) (vs := [.int .i64 (0 : Int)]) (.inl rfl) rfl ⟨rfl, trivial⟩ hf_ hs_ ⟨(), rfl, hs_.pulls [] rfl⟩

/-- loop.example/g00950/impl.compareEnts -/
noncomputable def impl_compareEnts (a : Ent) (b : Ent) : Option Int :=
  (cmp_Compare_83645 a.Key b.Key).bind fun R3 =>
  (cmp_Compare_26527 b.Seq a.Seq).bind fun R6 =>
  (cmp_Or_26527 ([R3, R6])).bind fun R10 =>
  some R10

theorem impl_compareEnts_con (a : Ent) (b : Ent)  (r : Int) (hm : impl_compareEnts a b = some r) :
    Con Try.prog 135 [.agg #[strV a.Key, .int .i64 a.Seq, .bool a.Del, strV a.Val], .agg #[strV b.Key, .int .i64 b.Seq, .bool b.Del, strV b.Val]] [] [] (fun _ : Unit => .int .i64 r) (fun _ => []) := by
  refine Con.intro (args := [.agg #[strV a.Key, .int .i64 a.Seq, .bool a.Del, strV a.Val], .agg #[strV b.Key, .int .i64 b.Seq, .bool b.Del, strV b.Val]]) (n := 17) (val := fun r (_ : Unit) => .int .i64 r) (post := fun _ _ => []) (m := impl_compareEnts a b) Try.func135 rfl rfl rfl hm ?_
  intro w S _
  unfold impl_compareEnts
  refine TW.seq ?_
  refine TW.region ?_
  refine TO.ef (Ef.box rfl (Cel.plain rfl rfl)) rfl rfl rfl (fun B1 => ?_)
  refine TO.ef (Ef.box rfl (Cel.plain rfl rfl)) rfl rfl rfl (fun B2 => ?_)
  refine TO.y (Y.assign rfl) rfl rfl rfl ?_
  refine TO.nil ?_
  refine TE.next ?_
  refine TW.seq ?_
  refine TW.draw (isH := [.box B2 130 [strV b.Key, .int .i64 b.Seq, .bool b.Del, strV b.Val], .box B1 130 [strV a.Key, .int .i64 a.Seq, .bool a.Del, strV a.Val]]) hMix ?_
  refine TA.y (listed' := #[true, false, false, false, false, false, false, false, false, false, false, false, false]) 0 [0, 0] rfl (Y.field_box kf130_0 rfl rfl) rfl rfl rfl (by kernel_rfl) (by kernel_rfl) (by kernel_rfl) rfl rfl ?_
  refine TA.y (listed' := #[true, true, false, false, false, false, false, false, false, false, false, false, false]) 1 [0, 0] rfl (Y.load_box (v := strV a.Key) 1 kk9 rfl rfl rfl) rfl rfl rfl (by kernel_rfl) (by kernel_rfl) (by kernel_rfl) rfl rfl ?_
  refine TA.y (listed' := #[true, true, true, false, false, false, false, false, false, false, false, false, false]) 2 [0, 0] rfl (Y.field_box kf130_0 rfl rfl) rfl rfl rfl (by kernel_rfl) (by kernel_rfl) (by kernel_rfl) rfl rfl ?_
  refine TA.y (listed' := #[true, true, true, true, false, false, false, false, false, false, false, false, false]) 3 [0, 0] rfl (Y.load_box (v := strV b.Key) 0 kk9 rfl rfl rfl) rfl rfl rfl (by kernel_rfl) (by kernel_rfl) (by kernel_rfl) rfl rfl ?_
  refine TA.y (listed' := #[true, true, true, true, false, true, false, false, false, false, false, false, false]) 5 [0, 0] rfl (Y.field_box kf130_1 rfl rfl) rfl rfl rfl (by kernel_rfl) (by kernel_rfl) (by kernel_rfl) rfl rfl ?_
  refine TA.y (listed' := #[true, true, true, true, false, true, true, false, false, false, false, false, false]) 6 [0, 0] rfl (Y.load_box (v := .int .i64 b.Seq) 0 kk3 rfl rfl rfl) rfl rfl rfl (by kernel_rfl) (by kernel_rfl) (by kernel_rfl) rfl rfl ?_
  refine TA.y (listed' := #[true, true, true, true, false, true, true, true, false, false, false, false, false]) 7 [0, 0] rfl (Y.field_box kf130_1 rfl rfl) rfl rfl rfl (by kernel_rfl) (by kernel_rfl) (by kernel_rfl) rfl rfl ?_
  refine TA.y (listed' := #[true, true, true, true, false, true, true, true, true, false, false, false, false]) 8 [0, 0] rfl (Y.load_box (v := .int .i64 a.Seq) 1 kk3 rfl rfl rfl) rfl rfl rfl (by kernel_rfl) (by kernel_rfl) (by kernel_rfl) rfl rfl ?_
  refine TA.bind fun R3 H4 => ?_
  refine TA.one 4 (by kernel_rfl) ?_
  refine TX.ef (listed' := #[true, true, true, true, true, true, true, true, true, false, false, false, false]) [0, 0] rfl (Ef.call (rest := [.box B2 130 [strV b.Key, .int .i64 b.Seq, .bool b.Del, strV b.Val], .box B1 130 [strV a.Key, .int .i64 a.Seq, .bool a.Del, strV a.Val]]) [0, 0] (cmp_Compare_83645_con a.Key b.Key  R3 H4) kc119 rfl rfl trivial) rfl rfl rfl rfl (fun _ => rfl) (fun _ => ?_)
  refine TA.bind fun R6 H7 => ?_
  refine TA.one 9 (by kernel_rfl) ?_
  refine TX.ef (listed' := #[true, true, true, true, true, true, true, true, true, true, false, false, false]) [0, 0] rfl (Ef.call (rest := [.box B2 130 [strV b.Key, .int .i64 b.Seq, .bool b.Del, strV b.Val], .box B1 130 [strV a.Key, .int .i64 a.Seq, .bool a.Del, strV a.Val]]) [0, 0] (cmp_Compare_26527_con b.Seq a.Seq  R6 H7) kc118 rfl rfl trivial) rfl rfl rfl rfl (fun _ => rfl) (fun _ => ?_)
  refine TA.one 10 (by kernel_rfl) ?_
  refine TX.ef (listed' := #[true, true, true, true, true, true, true, true, true, true, true, false, false]) [1, 1] rfl (Ef.buildSlice (α := Int) (Vs := [.int .i64 R3, .int .i64 R6]) [R3, R6] ke78 kz3 rfl rfl rfl rfl rfl) rfl rfl rfl rfl (fun _ => rfl) (fun B9 => ?_)
  refine TA.bind fun R10 H11 => ?_
  refine TA.one 11 (by kernel_rfl) ?_
  refine TX.ef (listed' := #[true, true, true, true, true, true, true, true, true, true, true, true, false]) [1, 1] rfl (Ef.call (rest := [.own (.slice (some ⟨B9, 0, none⟩) 2 2) (lc ([R3, R6])), .box B2 130 [strV b.Key, .int .i64 b.Seq, .bool b.Del, strV b.Val], .box B1 130 [strV a.Key, .int .i64 a.Seq, .bool a.Del, strV a.Val]]) [0, 0, 0] (cmp_Or_26527_con ([R3, R6]) (.slice (some ⟨B9, 0, none⟩) 2 2) R10 H11) kc150 rfl rfl ⟨(Can.own 0 rfl), trivial⟩) rfl rfl rfl rfl (fun _ => rfl) (fun _ => ?_)
  refine TA.y (listed' := #[true, true, true, true, true, true, true, true, true, true, true, true, true]) 12 [1, 1] rfl (Y.assign rfl) rfl rfl rfl (by kernel_rfl) (by kernel_rfl) (by kernel_rfl) rfl rfl ?_
  refine TA.nil (by kernel_rfl) ?_
  refine TE.next ?_
  refine TW.ret ?_
  exact TE.leaf fun _ _ hf_ hs_ => ret_any (rs := [.tmp 4]) (vs := [.int .i64 R10]) (.inl rfl) rfl ⟨rfl, trivial⟩ hf_ hs_ ⟨(), rfl, hs_.pulls [] rfl⟩

/-- loop.example/g00950/impl.inOrder -/
noncomputable def impl_inOrder (l : List Ent) : Option Bool :=
  bindC (loopO (fun (S1 : Int) => if (decide (S1 < ((l.length : Nat) : Int))) = true then ((idx l S1).bind fun E6 =>
  ((impl_entOk E6).bind fun R11 =>
  if (!R11) = true then (some true)
  else (if (decide (S1 > (0 : Int))) = true then ((idx l (IntKind.i64.wrap (S1 - (1 : Int)))).bind fun E16 =>
  (impl_compareEnts E16 E6).bind fun R18 =>
  some (decide (R18 ≥ (0 : Int))))
  else (some false))).bind (fun (T9 : Bool) =>
  if T9 = true then (some (.done (.done false)))
  else (some (.go (IntKind.i64.wrap (S1 + (1 : Int)))))))
  else (some (.done (.go ()))))
  (0 : Int))
  (fun (T3 : Unit) => some true)

theorem impl_inOrder_con (l : List Ent) (V_l0 : Value) (r : Bool) (hm : impl_inOrder l = some r) :
    Con Try.prog 101 [V_l0] [] [(V_l0, lc l)] (fun _ : Unit => .bool r) (fun _ => []) := by
  refine Con.intro (args := [V_l0]) (n := 30) (val := fun r (_ : Unit) => .bool r) (post := fun _ _ => []) (m := impl_inOrder l) Try.func101 rfl rfl rfl hm ?_
  intro w S hrd
  have HB_V_l0 := hrd _ (.head _)
  clear hrd
  unfold impl_inOrder
  refine TW.seq ?_
  refine TW.region ?_
  refine TO.y (Y.assign rfl) rfl rfl rfl ?_
  refine TO.nil ?_
  refine TE.next ?_
  refine TW.seq ?_
  refine TW.seq ?_
  refine TW.region ?_
  refine TO.y (Y.move rfl) rfl rfl rfl ?_
  refine TO.y (Y.len (l := l) ke80 (Base.can HB_V_l0) rfl) rfl rfl rfl ?_
  refine TO.y (Y.move rfl) rfl rfl rfl ?_
  refine TO.nil ?_
  refine TE.next ?_
  refine TW.joinX (τ := Unit) (X := Unit) (fun _ _ => []) (fun _ _ => []) ?_ (fun T3 X4 => ?_)
  · refine TW.block ?_
    refine TW.loopX (σ := Int) (X := Unit) (fun T _ => [(0, V_l0), (5, V_l0), (6, .int .i64 ((l.length : Nat) : Int)), (7, .int .i64 T)]) (fun _ _ => []) () [] ⟨rfl, rfl, rfl, rfl, trivial⟩ rfl (fun S1 X2 => ?_)
    refine TW.seq ?_
    refine TW.region ?_
    refine TO.y (Y.lss rfl rfl) rfl rfl rfl ?_
    refine TO.nil ?_
    refine TE.next ?_
    refine TW.seq ?_
    refine TW.cond rfl (fun H5 => ?_) (fun H5 => ?_)
    · refine TW.skip ?_
      refine TE.next ?_
      refine TW.seq ?_
      refine TW.block ?_
      refine TW.seq ?_
      refine TW.region ?_
      refine TO.y (Y.move rfl) rfl rfl rfl ?_
      refine TO.bind fun E6 H7 => ?_
      refine TO.y (Y.index ke80 (Base.can HB_V_l0) H7 rfl rfl) rfl rfl rfl ?_
      refine TO.y (Y.load_el (us := [strV E6.Key, .int .i64 E6.Seq, .bool E6.Del, strV E6.Val]) (u := .agg #[strV E6.Key, .int .i64 E6.Seq, .bool E6.Del, strV E6.Val]) kk130 rfl (Base.can HB_V_l0) (idx_get H7).2.2 rfl rfl rfl rfl rfl) rfl rfl rfl ?_
      refine TO.ef (Ef.alloc kz130 rfl) rfl rfl rfl (fun B8 => ?_)
      refine TO.y (Y.assign rfl) rfl rfl rfl ?_
      refine TO.ef0 (Ef.store_box (us := [strV E6.Key, .int .i64 E6.Seq, .bool E6.Del, strV E6.Val]) (vs' := [strV E6.Key, .int .i64 E6.Seq, .bool E6.Del, strV E6.Val]) (is' := [.box B8 130 [strV E6.Key, .int .i64 E6.Seq, .bool E6.Del, strV E6.Val]]) 0 kk130 rfl rfl rfl (Cel.plain rfl rfl) rfl rfl rfl rfl) rfl rfl (fun _ => ?_)
      refine TO.nil ?_
      refine TE.next ?_
      refine TW.seq ?_
      refine TW.joinBX (τ := Bool) (X := Unit) (fun T _ => [(0, V_l0), (5, V_l0), (6, .int .i64 ((l.length : Nat) : Int)), (7, .int .i64 S1), (28, .bool T)]) (fun _ _ => []) ?_ (fun T9 X10 => ?_)
      · refine TW.draw (isH := [.box B8 130 [strV E6.Key, .int .i64 E6.Seq, .bool E6.Del, strV E6.Val]]) hMix ?_
        refine TA.y (listed' := #[true, false, false, false, false, false, false, false, false, false, false, false, false, false, false, false, false]) 0 [0] rfl (Y.load_box (v := .agg #[strV E6.Key, .int .i64 E6.Seq, .bool E6.Del, strV E6.Val]) 0 kk130 rfl rfl rfl) rfl rfl rfl (by kernel_rfl) (by kernel_rfl) (by kernel_rfl) rfl rfl ?_
        refine TA.bind fun R11 H12 => ?_
        refine TA.one 1 (by kernel_rfl) ?_
        refine TX.ef (listed' := #[true, true, false, false, false, false, false, false, false, false, false, false, false, false, false, false, false]) [0] rfl (Ef.call (rest := [.box B8 130 [strV E6.Key, .int .i64 E6.Seq, .bool E6.Del, strV E6.Val]]) [0] (impl_entOk_con E6  R11 H12) kc134 rfl rfl trivial) rfl rfl rfl rfl (fun _ => rfl) (fun _ => ?_)
        refine TA.y (listed' := #[true, true, true, false, false, false, false, false, false, false, false, false, false, false, false, false, false]) 2 [0] rfl (Y.not rfl) rfl rfl rfl (by kernel_rfl) (by kernel_rfl) (by kernel_rfl) rfl rfl ?_
        refine TA.y (listed' := #[true, true, true, true, false, false, false, false, false, false, false, false, false, false, false, false, false]) 3 [0] rfl (Y.move rfl) rfl rfl rfl (by kernel_rfl) (by kernel_rfl) (by kernel_rfl) rfl rfl ?_
        refine TA.ite (b := !R11) (fun H14 => ?_) (fun H14 => ?_)
        · refine TA.off (listed' := #[true, true, true, true, true, false, false, false, false, false, false, false, false, false, false, false, false]) 4 [0] rfl (Gd.at 3 false 15 (!R11) rfl rfl rfl (beq_tf H14)) rfl rfl (by kernel_rfl) (by kernel_rfl) (by kernel_rfl) rfl rfl ?_
          refine TA.off (listed' := #[true, true, true, true, true, true, false, false, false, false, false, false, false, false, false, false, false]) 5 [0] rfl (Gd.at 3 false 15 (!R11) rfl rfl rfl (beq_tf H14)) rfl rfl (by kernel_rfl) (by kernel_rfl) (by kernel_rfl) rfl rfl ?_
          refine TA.off (listed' := #[true, true, true, true, true, true, true, false, false, false, false, false, false, false, false, false, false]) 6 [0] rfl (Gd.at 3 false 15 (!R11) rfl rfl rfl (beq_tf H14)) rfl rfl (by kernel_rfl) (by kernel_rfl) (by kernel_rfl) rfl rfl ?_
          refine TA.off (listed' := #[true, true, true, true, true, true, true, true, false, false, false, false, false, false, false, false, false]) 7 [0] rfl (Gd.un 6 true 18 rfl rfl rfl) rfl rfl (by kernel_rfl) (by kernel_rfl) (by kernel_rfl) rfl rfl ?_
          refine TA.off (listed' := #[true, true, true, true, true, true, true, true, true, false, false, false, false, false, false, false, false]) 8 [0] rfl (Gd.un 6 true 18 rfl rfl rfl) rfl rfl (by kernel_rfl) (by kernel_rfl) (by kernel_rfl) rfl rfl ?_
          refine TA.off (listed' := #[true, true, true, true, true, true, true, true, true, true, false, false, false, false, false, false, false]) 9 [0] rfl (Gd.un 6 true 18 rfl rfl rfl) rfl rfl (by kernel_rfl) (by kernel_rfl) (by kernel_rfl) rfl rfl ?_
          refine TA.off (listed' := #[true, true, true, true, true, true, true, true, true, true, true, false, false, false, false, false, false]) 10 [0] rfl (Gd.un 6 true 18 rfl rfl rfl) rfl rfl (by kernel_rfl) (by kernel_rfl) (by kernel_rfl) rfl rfl ?_
          refine TA.off (listed' := #[true, true, true, true, true, true, true, true, true, true, true, true, false, false, false, false, false]) 11 [0] rfl (Gd.un 6 true 18 rfl rfl rfl) rfl rfl (by kernel_rfl) (by kernel_rfl) (by kernel_rfl) rfl rfl ?_
          refine TA.off (listed' := #[true, true, true, true, true, true, true, true, true, true, true, true, true, false, false, false, false]) 12 [0] rfl (Gd.un 6 true 18 rfl rfl rfl) rfl rfl (by kernel_rfl) (by kernel_rfl) (by kernel_rfl) rfl rfl ?_
          refine TA.off (listed' := #[true, true, true, true, true, true, true, true, true, true, true, true, true, true, false, false, false]) 13 [0] rfl (Gd.un 6 true 18 rfl rfl rfl) rfl rfl (by kernel_rfl) (by kernel_rfl) (by kernel_rfl) rfl rfl ?_
          refine TA.off (listed' := #[true, true, true, true, true, true, true, true, true, true, true, true, true, true, true, false, false]) 14 [0] rfl (Gd.un 6 true 18 rfl rfl rfl) rfl rfl (by kernel_rfl) (by kernel_rfl) (by kernel_rfl) rfl rfl ?_
          refine TA.off (listed' := #[true, true, true, true, true, true, true, true, true, true, true, true, true, true, true, true, false]) 15 [0] rfl (Gd.at 3 false 15 (!R11) rfl rfl rfl (beq_tf H14)) rfl rfl (by kernel_rfl) (by kernel_rfl) (by kernel_rfl) rfl rfl ?_
          refine TA.y (listed' := #[true, true, true, true, true, true, true, true, true, true, true, true, true, true, true, true, true]) 16 [0] rfl (Y.pick_t H14 rfl rfl) rfl rfl rfl (by kernel_rfl) (by kernel_rfl) (by kernel_rfl) rfl rfl ?_
          refine TA.nil (by kernel_rfl) ?_
          exact TE.jb_go () [] ⟨rfl, rfl, rfl, rfl, rfl, trivial⟩ rfl
        · refine TA.y (listed' := #[true, true, true, true, true, false, false, false, false, false, false, false, false, false, false, false, false]) 4 [0] rfl (Y.move rfl) (Gd.at 3 false 15 (!R11) rfl rfl rfl (beq_ff H14)) rfl rfl (by kernel_rfl) (by kernel_rfl) (by kernel_rfl) rfl rfl ?_
          refine TA.y (listed' := #[true, true, true, true, true, true, false, false, false, false, false, false, false, false, false, false, false]) 5 [0] rfl (Y.gtr rfl rfl) (Gd.at 3 false 15 (!R11) rfl rfl rfl (beq_ff H14)) rfl rfl (by kernel_rfl) (by kernel_rfl) (by kernel_rfl) rfl rfl ?_
          refine TA.y (listed' := #[true, true, true, true, true, true, true, false, false, false, false, false, false, false, false, false, false]) 6 [0] rfl (Y.move rfl) (Gd.at 3 false 15 (!R11) rfl rfl rfl (beq_ff H14)) rfl rfl (by kernel_rfl) (by kernel_rfl) (by kernel_rfl) rfl rfl ?_
          refine TA.ite (b := decide (S1 > (0 : Int))) (fun H15 => ?_) (fun H15 => ?_)
          · refine TA.y (listed' := #[true, true, true, true, true, true, true, true, false, false, false, false, false, false, false, false, false]) 7 [0] rfl (Y.move rfl) (Gd.at 6 true 18 (decide (S1 > (0 : Int))) rfl rfl rfl (beq_tt H15)) rfl rfl (by kernel_rfl) (by kernel_rfl) (by kernel_rfl) rfl rfl ?_
            refine TA.y (listed' := #[true, true, true, true, true, true, true, true, true, false, false, false, false, false, false, false, false]) 8 [0] rfl (Y.move rfl) (Gd.at 6 true 18 (decide (S1 > (0 : Int))) rfl rfl rfl (beq_tt H15)) rfl rfl (by kernel_rfl) (by kernel_rfl) (by kernel_rfl) rfl rfl ?_
            refine TA.y (listed' := #[true, true, true, true, true, true, true, true, true, true, false, false, false, false, false, false, false]) 9 [0] rfl (Y.sub rfl rfl) (Gd.at 6 true 18 (decide (S1 > (0 : Int))) rfl rfl rfl (beq_tt H15)) rfl rfl (by kernel_rfl) (by kernel_rfl) (by kernel_rfl) rfl rfl ?_
            refine TA.bind fun E16 H17 => ?_
            refine TA.y (listed' := #[true, true, true, true, true, true, true, true, true, true, true, false, false, false, false, false, false]) 10 [0] rfl (Y.index ke80 (Base.can HB_V_l0) H17 rfl rfl) (Gd.at 6 true 18 (decide (S1 > (0 : Int))) rfl rfl rfl (beq_tt H15)) rfl rfl (by kernel_rfl) (by kernel_rfl) (by kernel_rfl) rfl rfl ?_
            refine TA.y (listed' := #[true, true, true, true, true, true, true, true, true, true, true, true, false, false, false, false, false]) 11 [0] rfl (Y.load_el (us := [strV E16.Key, .int .i64 E16.Seq, .bool E16.Del, strV E16.Val]) (u := .agg #[strV E16.Key, .int .i64 E16.Seq, .bool E16.Del, strV E16.Val]) kk130 rfl (Base.can HB_V_l0) (idx_get H17).2.2 rfl rfl rfl rfl rfl) (Gd.at 6 true 18 (decide (S1 > (0 : Int))) rfl rfl rfl (beq_tt H15)) rfl rfl (by kernel_rfl) (by kernel_rfl) (by kernel_rfl) rfl rfl ?_
            refine TA.y (listed' := #[true, true, true, true, true, true, true, true, true, true, true, true, true, false, false, false, false]) 12 [0] rfl (Y.load_box (v := .agg #[strV E6.Key, .int .i64 E6.Seq, .bool E6.Del, strV E6.Val]) 0 kk130 rfl rfl rfl) (Gd.at 6 true 18 (decide (S1 > (0 : Int))) rfl rfl rfl (beq_tt H15)) rfl rfl (by kernel_rfl) (by kernel_rfl) (by kernel_rfl) rfl rfl ?_
            refine TA.bind fun R18 H19 => ?_
            refine TA.one 13 (by kernel_rfl) ?_
            refine TX.ef (listed' := #[true, true, true, true, true, true, true, true, true, true, true, true, true, true, false, false, false]) [0] rfl (Ef.call (rest := [.box B8 130 [strV E6.Key, .int .i64 E6.Seq, .bool E6.Del, strV E6.Val]]) [0] (impl_compareEnts_con E16 E6  R18 H19) kc135 rfl rfl trivial) (Gd.at 6 true 18 (decide (S1 > (0 : Int))) rfl rfl rfl (beq_tt H15)) rfl rfl rfl (fun _ => rfl) (fun _ => ?_)
            refine TA.y (listed' := #[true, true, true, true, true, true, true, true, true, true, true, true, true, true, true, false, false]) 14 [0] rfl (Y.geq rfl rfl) (Gd.at 6 true 18 (decide (S1 > (0 : Int))) rfl rfl rfl (beq_tt H15)) rfl rfl (by kernel_rfl) (by kernel_rfl) (by kernel_rfl) rfl rfl ?_
            refine TA.y (listed' := #[true, true, true, true, true, true, true, true, true, true, true, true, true, true, true, true, false]) 15 [0] rfl (Y.pick_t H15 rfl rfl) (Gd.at 3 false 15 (!R11) rfl rfl rfl (beq_ff H14)) rfl rfl (by kernel_rfl) (by kernel_rfl) (by kernel_rfl) rfl rfl ?_
            refine TA.y (listed' := #[true, true, true, true, true, true, true, true, true, true, true, true, true, true, true, true, true]) 16 [0] rfl (Y.pick_f H14 rfl rfl) rfl rfl rfl (by kernel_rfl) (by kernel_rfl) (by kernel_rfl) rfl rfl ?_
            refine TA.nil (by kernel_rfl) ?_
            exact TE.jb_go () [] ⟨rfl, rfl, rfl, rfl, rfl, trivial⟩ rfl
          · refine TA.off (listed' := #[true, true, true, true, true, true, true, true, false, false, false, false, false, false, false, false, false]) 7 [0] rfl (Gd.at 6 true 18 (decide (S1 > (0 : Int))) rfl rfl rfl (beq_ft H15)) rfl rfl (by kernel_rfl) (by kernel_rfl) (by kernel_rfl) rfl rfl ?_
            refine TA.off (listed' := #[true, true, true, true, true, true, true, true, true, false, false, false, false, false, false, false, false]) 8 [0] rfl (Gd.at 6 true 18 (decide (S1 > (0 : Int))) rfl rfl rfl (beq_ft H15)) rfl rfl (by kernel_rfl) (by kernel_rfl) (by kernel_rfl) rfl rfl ?_
            refine TA.off (listed' := #[true, true, true, true, true, true, true, true, true, true, false, false, false, false, false, false, false]) 9 [0] rfl (Gd.at 6 true 18 (decide (S1 > (0 : Int))) rfl rfl rfl (beq_ft H15)) rfl rfl (by kernel_rfl) (by kernel_rfl) (by kernel_rfl) rfl rfl ?_
            refine TA.off (listed' := #[true, true, true, true, true, true, true, true, true, true, true, false, false, false, false, false, false]) 10 [0] rfl (Gd.at 6 true 18 (decide (S1 > (0 : Int))) rfl rfl rfl (beq_ft H15)) rfl rfl (by kernel_rfl) (by kernel_rfl) (by kernel_rfl) rfl rfl ?_
            refine TA.off (listed' := #[true, true, true, true, true, true, true, true, true, true, true, true, false, false, false, false, false]) 11 [0] rfl (Gd.at 6 true 18 (decide (S1 > (0 : Int))) rfl rfl rfl (beq_ft H15)) rfl rfl (by kernel_rfl) (by kernel_rfl) (by kernel_rfl) rfl rfl ?_
            refine TA.off (listed' := #[true, true, true, true, true, true, true, true, true, true, true, true, true, false, false, false, false]) 12 [0] rfl (Gd.at 6 true 18 (decide (S1 > (0 : Int))) rfl rfl rfl (beq_ft H15)) rfl rfl (by kernel_rfl) (by kernel_rfl) (by kernel_rfl) rfl rfl ?_
            refine TA.off (listed' := #[true, true, true, true, true, true, true, true, true, true, true, true, true, true, false, false, false]) 13 [0] rfl (Gd.at 6 true 18 (decide (S1 > (0 : Int))) rfl rfl rfl (beq_ft H15)) rfl rfl (by kernel_rfl) (by kernel_rfl) (by kernel_rfl) rfl rfl ?_
            refine TA.off (listed' := #[true, true, true, true, true, true, true, true, true, true, true, true, true, true, true, false, false]) 14 [0] rfl (Gd.at 6 true 18 (decide (S1 > (0 : Int))) rfl rfl rfl (beq_ft H15)) rfl rfl (by kernel_rfl) (by kernel_rfl) (by kernel_rfl) rfl rfl ?_
            refine TA.y (listed' := #[true, true, true, true, true, true, true, true, true, true, true, true, true, true, true, true, false]) 15 [0] rfl (Y.pick_f H15 rfl rfl) (Gd.at 3 false 15 (!R11) rfl rfl rfl (beq_ff H14)) rfl rfl (by kernel_rfl) (by kernel_rfl) (by kernel_rfl) rfl rfl ?_
            refine TA.y (listed' := #[true, true, true, true, true, true, true, true, true, true, true, true, true, true, true, true, true]) 16 [0] rfl (Y.pick_f H14 rfl rfl) rfl rfl rfl (by kernel_rfl) (by kernel_rfl) (by kernel_rfl) rfl rfl ?_
            refine TA.nil (by kernel_rfl) ?_
            exact TE.jb_go () [] ⟨rfl, rfl, rfl, rfl, rfl, trivial⟩ rfl
      · refine TE.next ?_
        refine TW.cond rfl (fun H21 => ?_) (fun H21 => ?_)
        · refine TW.seq ?_
          refine TW.region ?_
          refine TO.y (Y.assign rfl) rfl rfl rfl ?_
          refine TO.nil ?_
          refine TE.next ?_
          refine TW.ret ?_
          refine TE.block_ret ?_
          refine TE.then_ret ?_
          refine TE.lp_ret ?_
          refine TE.block_ret ?_
          refine TE.jn_done ?_
          refine TE.then_ret ?_
          exact TE.leaf fun _ _ hf_ hs_ => ret_any (rs := [.tmp 2]) (vs := [.bool false]) (.inl rfl) rfl ⟨rfl, trivial⟩ hf_ hs_ ⟨(), rfl, hs_.pulls [] rfl⟩
        · refine TW.skip ?_
          refine TE.block_normal ?_
          refine TE.next ?_
          refine TW.region ?_
          refine TO.y (Y.add rfl rfl) rfl rfl rfl ?_
          refine TO.y (Y.move rfl) rfl rfl rfl ?_
          refine TO.nil ?_
          exact TE.lp_go () [] ⟨rfl, rfl, rfl, rfl, trivial⟩ rfl
    · refine TW.exit ?_
      refine TE.then_exit ?_
      refine TE.lp_exit ?_
      refine TE.block_exit ?_
      exact TE.jn_go () [] trivial rfl
  · refine TE.next ?_
    refine TW.seq ?_
    refine TW.region ?_
    refine TO.y (Y.assign rfl) rfl rfl rfl ?_
    refine TO.nil ?_
    refine TE.next ?_
    refine TW.ret ?_
    exact TE.leaf fun _ _ hf_ hs_ => ret_any (rs := [.tmp 2]) (vs := [.bool true]) (.inl rfl) rfl ⟨rfl, trivial⟩ hf_ hs_ ⟨(), rfl, hs_.pulls [] rfl⟩

end Go.Proofs.Ytpnnbeiojpphhab
