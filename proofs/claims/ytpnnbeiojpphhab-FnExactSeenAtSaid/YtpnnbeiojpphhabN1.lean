/-
  The functions that a law reaches, each as a pure function, with the proof that the program computes it, and the step from a pure law to the given statement. Conditions: none.
-/
import Derived.Test.YtpnnbeiojpphhabSw
import Derived.Test.YtpnnbeiojpphhabRows
set_option linter.unusedVariables false
set_option maxRecDepth 100000
namespace Go.Proofs.Ytpnnbeiojpphhab
open Go Sl

structure Ent where
  Key : List UInt8
  Seq : Int
  Del : Bool
  Val : List UInt8
  deriving DecidableEq
instance : Enc Ent := ⟨4, fun x => [.str x.Key, .int .i64 x.Seq, .bool x.Del, .str x.Val], fun _ => rfl, by decide⟩
instance : Dec Ent where
  sh := [.str, .int .i64, .bool, .str]
  ok x := x.Key.length ≤ 9223372036854775807 ∧ okI x.Seq ∧ True ∧ x.Val.length ≤ 9223372036854775807
  dec cs h := by
    obtain ⟨c0, r0, rfl, h0, h⟩ := h.cons_inv
    obtain ⟨c1, r1, rfl, h1, h⟩ := h.cons_inv
    obtain ⟨c2, r2, rfl, h2, h⟩ := h.cons_inv
    obtain ⟨c3, r3, rfl, h3, h⟩ := h.cons_inv
    obtain rfl := h.nil_inv
    obtain ⟨y0, rfl, w0⟩ := h0.str_inv
    obtain ⟨y1, rfl, w1_⟩ := h1.int_inv
    have w1 := okI_of w1_
    obtain ⟨y2, rfl⟩ := h2.bool_inv
    have w2 := True.intro
    obtain ⟨y3, rfl, w3⟩ := h3.str_inv
    exact ⟨{ Key := y0, Seq := y1, Del := y2, Val := y3 : Ent }, rfl, w0, w1, w2, w3⟩
instance : Flat Ent := { vals := fun x => [strV x.Key, .int .i64 x.Seq, .bool x.Del, strV x.Val], flat := fun _ => rfl }
structure Op where
  Key : List UInt8
  Del : Bool
  Val : List UInt8
  deriving DecidableEq
instance : Enc Op := ⟨3, fun x => [.str x.Key, .bool x.Del, .str x.Val], fun _ => rfl, by decide⟩
instance : Dec Op where
  sh := [.str, .bool, .str]
  ok x := x.Key.length ≤ 9223372036854775807 ∧ True ∧ x.Val.length ≤ 9223372036854775807
  dec cs h := by
    obtain ⟨c0, r0, rfl, h0, h⟩ := h.cons_inv
    obtain ⟨c1, r1, rfl, h1, h⟩ := h.cons_inv
    obtain ⟨c2, r2, rfl, h2, h⟩ := h.cons_inv
    obtain rfl := h.nil_inv
    obtain ⟨y0, rfl, w0⟩ := h0.str_inv
    obtain ⟨y1, rfl⟩ := h1.bool_inv
    have w1 := True.intro
    obtain ⟨y2, rfl, w2⟩ := h2.str_inv
    exact ⟨{ Key := y0, Del := y1, Val := y2 : Op }, rfl, w0, w1, w2⟩
instance : Flat Op := { vals := fun x => [strV x.Key, .bool x.Del, strV x.Val], flat := fun _ => rfl }
structure KV where
  Key : List UInt8
  Val : List UInt8
  deriving DecidableEq
instance : Enc KV := ⟨2, fun x => [.str x.Key, .str x.Val], fun _ => rfl, by decide⟩
instance : Dec KV where
  sh := [.str, .str]
  ok x := x.Key.length ≤ 9223372036854775807 ∧ x.Val.length ≤ 9223372036854775807
  dec cs h := by
    obtain ⟨c0, r0, rfl, h0, h⟩ := h.cons_inv
    obtain ⟨c1, r1, rfl, h1, h⟩ := h.cons_inv
    obtain rfl := h.nil_inv
    obtain ⟨y0, rfl, w0⟩ := h0.str_inv
    obtain ⟨y1, rfl, w1⟩ := h1.str_inv
    exact ⟨{ Key := y0, Val := y1 : KV }, rfl, w0, w1⟩
instance : Flat KV := { vals := fun x => [strV x.Key, strV x.Val], flat := fun _ => rfl }
instance : Enc (List KV) := ⟨1, fun l => [lc l], fun _ => rfl, Nat.one_pos⟩
instance : Dec (List KV) where
  sh := [.sl 2 (Dec.sh KV)]
  ok l := okl l
  dec cs h := by
    obtain ⟨c0, r0, rfl, h0, h⟩ := h.cons_inv
    obtain rfl := h.nil_inv
    obtain ⟨y0, rfl, w0⟩ := h0.sl_inv (α := KV) rfl
    exact ⟨y0, rfl, w0⟩

theorem hMix : Try.prog.follows .mixedOrders = true := by kernel_rfl
theorem kf128_0 : fieldB Try.prog 128 0 = some 0 := by kernel_rfl
theorem kk9 : kindB Try.prog 9 = some (false, 1) := by kernel_rfl
theorem ks9 : isStrB Try.prog 9 = true := by kernel_rfl
theorem kf128_3 : fieldB Try.prog 128 3 = some 3 := by kernel_rfl
theorem ke77 : elemB Try.prog 77 = some (128, 4, 48) := by kernel_rfl
theorem kk128 : kindB Try.prog 128 = some (true, 4) := by kernel_rfl
theorem kc96 : callB Try.prog 96 = true := by kernel_rfl
theorem kz130 : zeroB Try.prog 130 = some (.agg #[strV ([]), .int .i64 (0 : Int), .bool false, strV ([])]) := by kernel_rfl
theorem kf130_0 : fieldB Try.prog 130 0 = some 0 := by kernel_rfl
theorem kf128_1 : fieldB Try.prog 128 1 = some 1 := by kernel_rfl
theorem kk3 : kindB Try.prog 3 = some (false, 1) := by kernel_rfl
theorem kf130_1 : fieldB Try.prog 130 1 = some 1 := by kernel_rfl
theorem kf128_2 : fieldB Try.prog 128 2 = some 2 := by kernel_rfl
theorem kk4 : kindB Try.prog 4 = some (false, 1) := by kernel_rfl
theorem kf130_2 : fieldB Try.prog 130 2 = some 2 := by kernel_rfl
theorem kf130_3 : fieldB Try.prog 130 3 = some 3 := by kernel_rfl
theorem kk130 : kindB Try.prog 130 = some (true, 4) := by kernel_rfl
theorem ke80 : elemB Try.prog 80 = some (130, 4, 48) := by kernel_rfl
theorem kc100 : callB Try.prog 100 = true := by kernel_rfl
theorem ke78 : elemB Try.prog 78 = some (3, 1, 8) := by kernel_rfl
theorem kz3 : zeroB Try.prog 3 = some (.int .i64 (0 : Int)) := by kernel_rfl
theorem kf120_0 : fieldB Try.prog 120 0 = some 0 := by kernel_rfl
theorem kc79 : callB Try.prog 79 = true := by kernel_rfl
theorem kf120_2 : fieldB Try.prog 120 2 = some 2 := by kernel_rfl
theorem kf120_1 : fieldB Try.prog 120 1 = some 1 := by kernel_rfl
theorem kz120 : zeroB Try.prog 120 = some (.agg #[strV ([]), .bool false, strV ([])]) := by kernel_rfl
theorem kp120 : placesB Try.prog 120 = some [(0, 1), (1, 1), (2, 1)] := by kernel_rfl
theorem kc89 : callB Try.prog 89 = true := by kernel_rfl
theorem kc131 : callB Try.prog 131 = true := by kernel_rfl
theorem kc132 : callB Try.prog 132 = true := by kernel_rfl
theorem kp130 : placesB Try.prog 130 = some [(0, 1), (1, 1), (2, 1), (3, 1)] := by kernel_rfl
theorem kz70 : zeroB Try.prog 70 = some (.agg #[strV ([]), strV ([])]) := by kernel_rfl
theorem ke61 : elemB Try.prog 61 = some (70, 2, 32) := by kernel_rfl
theorem kc133 : callB Try.prog 133 = true := by kernel_rfl
theorem kp70 : placesB Try.prog 70 = some [(0, 1), (1, 1)] := by kernel_rfl
theorem kz61 : zeroB Try.prog 61 = some (.slice none 0 0) := by kernel_rfl
theorem ke89 : elemB Try.prog 89 = some (61, 1, 24) := by kernel_rfl
theorem kc97 : callB Try.prog 97 = true := by kernel_rfl
theorem kc104 : callB Try.prog 104 = true := by kernel_rfl
theorem kc82 : callB Try.prog 82 = true := by kernel_rfl
theorem kc127 : callB Try.prog 127 = true := by kernel_rfl
theorem kc148 : callB Try.prog 148 = true := by kernel_rfl
theorem kc149 : callB Try.prog 149 = true := by kernel_rfl
theorem kc143 : callB Try.prog 143 = true := by kernel_rfl
theorem kc142 : callB Try.prog 142 = true := by kernel_rfl
theorem kc119 : callB Try.prog 119 = true := by kernel_rfl
theorem kc118 : callB Try.prog 118 = true := by kernel_rfl
theorem kc150 : callB Try.prog 150 = true := by kernel_rfl
theorem kc134 : callB Try.prog 134 = true := by kernel_rfl
theorem kc135 : callB Try.prog 135 = true := by kernel_rfl
theorem kc101 : callB Try.prog 101 = true := by kernel_rfl
theorem kc105 : callB Try.prog 105 = true := by kernel_rfl
theorem kf70_0 : fieldB Try.prog 70 0 = some 0 := by kernel_rfl
theorem kf70_1 : fieldB Try.prog 70 1 = some 1 := by kernel_rfl
theorem kk70 : kindB Try.prog 70 = some (true, 2) := by kernel_rfl
theorem kc138 : callB Try.prog 138 = true := by kernel_rfl
theorem kk61 : kindB Try.prog 61 = some (false, 1) := by kernel_rfl
theorem kc106 : callB Try.prog 106 = true := by kernel_rfl
theorem kb4 : Try.prog.underlying 4 = some .bool := by kernel_rfl
theorem kc103 : callB Try.prog 103 = true := by kernel_rfl
theorem ki3 : intB Try.prog 3 = some .i64 := by kernel_rfl
theorem ki5 : intB Try.prog 5 = some .u8 := by kernel_rfl
theorem kz5 : zeroB Try.prog 5 = some (.int .u8 (0 : Int)) := by kernel_rfl
theorem ke49 : elemB Try.prog 49 = some (5, 1, 1) := by kernel_rfl
theorem kc75 : callB Try.prog 75 = true := by kernel_rfl
theorem kc107 : callB Try.prog 107 = true := by kernel_rfl
theorem kc108 : callB Try.prog 108 = true := by kernel_rfl
theorem kc43 : callB Try.prog 43 = true := by kernel_rfl
theorem kc45 : callB Try.prog 45 = true := by kernel_rfl
theorem kc46 : callB Try.prog 46 = true := by kernel_rfl
theorem kc53 : callB Try.prog 53 = true := by kernel_rfl
theorem kc54 : callB Try.prog 54 = true := by kernel_rfl
theorem kc55 : callB Try.prog 55 = true := by kernel_rfl
theorem kc48 : callB Try.prog 48 = true := by kernel_rfl
theorem kc49 : callB Try.prog 49 = true := by kernel_rfl
theorem kc50 : callB Try.prog 50 = true := by kernel_rfl
theorem kc51 : callB Try.prog 51 = true := by kernel_rfl
theorem kc56 : callB Try.prog 56 = true := by kernel_rfl
theorem kc57 : callB Try.prog 57 = true := by kernel_rfl
theorem hu77 : Try.prog.underlying 77 = some (.slice 128) := by kernel_rfl
theorem hs77 : shB Try.prog 20 77 = some ([.sl 4 (Dec.sh Ent)]) := by kernel_rfl
theorem hu78 : Try.prog.underlying 78 = some (.slice 3) := by kernel_rfl
theorem hs78 : shB Try.prog 20 78 = some ([.sl 1 (Dec.sh Int)]) := by kernel_rfl

/-- loop.example/g00950/laws.szEnt -/
noncomputable def laws_szEnt (a : Ent) (left : Int) : Option Int :=
  if (decide (IntKind.i64.wrap (left - ((a.Key.length : Nat) : Int)) < (0 : Int))) = true then (some (-1 : Int))
  else (if (decide (IntKind.i64.wrap (IntKind.i64.wrap (left - ((a.Key.length : Nat) : Int)) - ((a.Val.length : Nat) : Int)) < (0 : Int))) = true then (some (-1 : Int))
  else (some (IntKind.i64.wrap (IntKind.i64.wrap (left - ((a.Key.length : Nat) : Int)) - ((a.Val.length : Nat) : Int)))))

theorem laws_szEnt_con (a : Ent) (left : Int)  (r : Int) (hm : laws_szEnt a left = some r) :
    Con Try.prog 96 [.agg #[strV a.Key, .int .i64 a.Seq, .bool a.Del, strV a.Val], .int .i64 left] [] [] (fun _ : Unit => .int .i64 r) (fun _ => []) := by
  refine Con.intro (args := [.agg #[strV a.Key, .int .i64 a.Seq, .bool a.Del, strV a.Val], .int .i64 left]) (n := 20) (val := fun r (_ : Unit) => .int .i64 r) (post := fun _ _ => []) (m := laws_szEnt a left) Try.func96 rfl rfl rfl hm ?_
  intro w S _
  unfold laws_szEnt
  refine TW.seq ?_
  refine TW.region ?_
  refine TO.ef (Ef.box rfl (Cel.plain rfl rfl)) rfl rfl rfl (fun B1 => ?_)
  refine TO.y (Y.assign rfl) rfl rfl rfl ?_
  refine TO.nil ?_
  refine TE.next ?_
  refine TW.seq ?_
  refine TW.region ?_
  refine TO.y (Y.move rfl) rfl rfl rfl ?_
  refine TO.y (Y.field_box kf128_0 rfl rfl) rfl rfl rfl ?_
  refine TO.y (Y.load_box (v := strV a.Key) 0 kk9 rfl rfl rfl) rfl rfl rfl ?_
  refine TO.y (Y.slen ks9 rfl) rfl rfl rfl ?_
  refine TO.y (Y.sub rfl rfl) rfl rfl rfl ?_
  refine TO.y (Y.assign rfl) rfl rfl rfl ?_
  refine TO.nil ?_
  refine TE.next ?_
  refine TW.seq ?_
  refine TW.seq ?_
  refine TW.region ?_
  refine TO.y (Y.move rfl) rfl rfl rfl ?_
  refine TO.y (Y.lss rfl rfl) rfl rfl rfl ?_
  refine TO.nil ?_
  refine TE.next ?_
  refine TW.cond rfl (fun H2 => ?_) (fun H2 => ?_)
  · refine TW.seq ?_
    refine TW.region ?_
    refine TO.y (Y.assign rfl) rfl rfl rfl ?_
    refine TO.nil ?_
    refine TE.next ?_
    refine TW.ret ?_
    refine TE.then_ret ?_
    exact TE.leaf fun _ _ hf_ hs_ => ret_any (rs := [.tmp 4]) (vs := [.int .i64 (-1 : Int)]) (.inl rfl) rfl ⟨rfl, trivial⟩ hf_ hs_ ⟨(), rfl, hs_.pulls [] rfl⟩
  · refine TW.skip ?_
    refine TE.next ?_
    refine TW.seq ?_
    refine TW.region ?_
    refine TO.y (Y.move rfl) rfl rfl rfl ?_
    refine TO.y (Y.field_box kf128_3 rfl rfl) rfl rfl rfl ?_
    refine TO.y (Y.load_box (v := strV a.Val) 0 kk9 rfl rfl rfl) rfl rfl rfl ?_
    refine TO.y (Y.slen ks9 rfl) rfl rfl rfl ?_
    refine TO.y (Y.sub rfl rfl) rfl rfl rfl ?_
    refine TO.y (Y.assign rfl) rfl rfl rfl ?_
    refine TO.nil ?_
    refine TE.next ?_
    refine TW.seq ?_
    refine TW.seq ?_
    refine TW.region ?_
    refine TO.y (Y.move rfl) rfl rfl rfl ?_
    refine TO.y (Y.lss rfl rfl) rfl rfl rfl ?_
    refine TO.nil ?_
    refine TE.next ?_
    refine TW.cond rfl (fun H3 => ?_) (fun H3 => ?_)
    · refine TW.seq ?_
      refine TW.region ?_
      refine TO.y (Y.assign rfl) rfl rfl rfl ?_
      refine TO.nil ?_
      refine TE.next ?_
      refine TW.ret ?_
      refine TE.then_ret ?_
      exact TE.leaf fun _ _ hf_ hs_ => ret_any (rs := [.tmp 4]) (vs := [.int .i64 (-1 : Int)]) (.inl rfl) rfl ⟨rfl, trivial⟩ hf_ hs_ ⟨(), rfl, hs_.pulls [] rfl⟩
    · refine TW.skip ?_
      refine TE.next ?_
      refine TW.seq ?_
      refine TW.region ?_
      refine TO.y (Y.move rfl) rfl rfl rfl ?_
      refine TO.y (Y.assign rfl) rfl rfl rfl ?_
      refine TO.nil ?_
      refine TE.next ?_
      refine TW.ret ?_
      exact TE.leaf fun _ _ hf_ hs_ => ret_any (rs := [.tmp 4]) (vs := [.int .i64 (IntKind.i64.wrap (IntKind.i64.wrap (left - ((a.Key.length : Nat) : Int)) - ((a.Val.length : Nat) : Int)))]) (.inl rfl) rfl ⟨rfl, trivial⟩ hf_ hs_ ⟨(), rfl, hs_.pulls [] rfl⟩

/-- loop.example/g00950/laws.szEntS -/
noncomputable def laws_szEntS (a : List Ent) (left : Int) : Option Int :=
  if (decide (IntKind.i64.wrap (left - ((a.length : Nat) : Int)) < (0 : Int))) = true then (some (-1 : Int))
  else (bindC (loopO (fun (S2 : Int × Int) => if (decide (S2.2 < ((a.length : Nat) : Int))) = true then ((idx a S2.2).bind fun E7 =>
  (laws_szEnt E7 S2.1).bind fun R9 =>
  if (decide (R9 < (0 : Int))) = true then (some (.done (.done (-1 : Int))))
  else (some (.go (R9, IntKind.i64.wrap (S2.2 + (1 : Int))))))
  else (some (.done (.go S2.1))))
  (IntKind.i64.wrap (left - ((a.length : Nat) : Int)), (0 : Int)))
  (fun (T4 : Int) => some T4))

theorem laws_szEntS_con (a : List Ent) (left : Int) (V_a0 : Value) (r : Int) (hm : laws_szEntS a left = some r) :
    Con Try.prog 43 [V_a0, .int .i64 left] [] [(V_a0, lc a)] (fun _ : Unit => .int .i64 r) (fun _ => []) := by
  refine Con.intro (args := [V_a0, .int .i64 left]) (n := 27) (val := fun r (_ : Unit) => .int .i64 r) (post := fun _ _ => []) (m := laws_szEntS a left) Try.func43 rfl rfl rfl hm ?_
  intro w S hrd
  have HB_V_a0 := hrd _ (.head _)
  clear hrd
  unfold laws_szEntS
  refine TW.seq ?_
  refine TW.region ?_
  refine TO.y (Y.assign rfl) rfl rfl rfl ?_
  refine TO.nil ?_
  refine TE.next ?_
  refine TW.seq ?_
  refine TW.region ?_
  refine TO.y (Y.move rfl) rfl rfl rfl ?_
  refine TO.y (Y.move rfl) rfl rfl rfl ?_
  refine TO.y (Y.len (l := a) ke77 (Base.can HB_V_a0) rfl) rfl rfl rfl ?_
  refine TO.y (Y.sub rfl rfl) rfl rfl rfl ?_
  refine TO.y (Y.assign rfl) rfl rfl rfl ?_
  refine TO.nil ?_
  refine TE.next ?_
  refine TW.seq ?_
  refine TW.seq ?_
  refine TW.region ?_
  refine TO.y (Y.move rfl) rfl rfl rfl ?_
  refine TO.y (Y.lss rfl rfl) rfl rfl rfl ?_
  refine TO.nil ?_
  refine TE.next ?_
  refine TW.cond rfl (fun H1 => ?_) (fun H1 => ?_)
  · refine TW.seq ?_
    refine TW.region ?_
    refine TO.y (Y.assign rfl) rfl rfl rfl ?_
    refine TO.nil ?_
    refine TE.next ?_
    refine TW.ret ?_
    refine TE.then_ret ?_
    exact TE.leaf fun _ _ hf_ hs_ => ret_any (rs := [.tmp 4]) (vs := [.int .i64 (-1 : Int)]) (.inl rfl) rfl ⟨rfl, trivial⟩ hf_ hs_ ⟨(), rfl, hs_.pulls [] rfl⟩
  · refine TW.skip ?_
    refine TE.next ?_
    refine TW.seq ?_
    refine TW.seq ?_
    refine TW.region ?_
    refine TO.y (Y.assign rfl) rfl rfl rfl ?_
    refine TO.nil ?_
    refine TE.next ?_
    refine TW.joinX (τ := Int) (X := Unit) (fun T _ => [(1, .int .i64 T)]) (fun _ _ => []) ?_ (fun T4 X5 => ?_)
    · refine TW.block ?_
      refine TW.loopX (σ := Int × Int) (X := Unit) (fun T _ => [(0, V_a0), (1, .int .i64 T.1), (5, .int .i64 T.2)]) (fun _ _ => []) () [] ⟨rfl, rfl, rfl, trivial⟩ rfl (fun S2 X3 => ?_)
      refine TW.seq ?_
      refine TW.seq ?_
      refine TW.region ?_
      refine TO.y (Y.move rfl) rfl rfl rfl ?_
      refine TO.y (Y.move rfl) rfl rfl rfl ?_
      refine TO.y (Y.len (l := a) ke77 (Base.can HB_V_a0) rfl) rfl rfl rfl ?_
      refine TO.y (Y.lss rfl rfl) rfl rfl rfl ?_
      refine TO.nil ?_
      refine TE.next ?_
      refine TW.cond rfl (fun H6 => ?_) (fun H6 => ?_)
      · refine TW.skip ?_
        refine TE.next ?_
        refine TW.seq ?_
        refine TW.block ?_
        refine TW.seq ?_
        refine TW.region ?_
        refine TO.y (Y.move rfl) rfl rfl rfl ?_
        refine TO.y (Y.move rfl) rfl rfl rfl ?_
        refine TO.bind fun E7 H8 => ?_
        refine TO.y (Y.index ke77 (Base.can HB_V_a0) H8 rfl rfl) rfl rfl rfl ?_
        refine TO.y (Y.load_el (us := [strV E7.Key, .int .i64 E7.Seq, .bool E7.Del, strV E7.Val]) (u := .agg #[strV E7.Key, .int .i64 E7.Seq, .bool E7.Del, strV E7.Val]) kk128 rfl (Base.can HB_V_a0) (idx_get H8).2.2 rfl rfl rfl rfl rfl) rfl rfl rfl ?_
        refine TO.y (Y.move rfl) rfl rfl rfl ?_
        refine TO.bind fun R9 H10 => ?_
        refine TO.ef (Ef.call (rest := []) [] (laws_szEnt_con E7 S2.1  R9 H10) kc96 rfl rfl trivial) rfl rfl rfl (fun _ => ?_)
        refine TO.y (Y.assign rfl) rfl rfl rfl ?_
        refine TO.nil ?_
        refine TE.next ?_
        refine TW.seq ?_
        refine TW.region ?_
        refine TO.y (Y.move rfl) rfl rfl rfl ?_
        refine TO.y (Y.lss rfl rfl) rfl rfl rfl ?_
        refine TO.nil ?_
        refine TE.next ?_
        refine TW.cond rfl (fun H12 => ?_) (fun H12 => ?_)
        · refine TW.seq ?_
          refine TW.region ?_
          refine TO.y (Y.assign rfl) rfl rfl rfl ?_
          refine TO.nil ?_
          refine TE.next ?_
          refine TW.ret ?_
          refine TE.block_ret ?_
          refine TE.then_ret ?_
          refine TE.lp_ret ?_
          refine TE.block_ret ?_
          refine TE.jn_done ?_
          refine TE.then_ret ?_
          exact TE.leaf fun _ _ hf_ hs_ => ret_any (rs := [.tmp 4]) (vs := [.int .i64 (-1 : Int)]) (.inl rfl) rfl ⟨rfl, trivial⟩ hf_ hs_ ⟨(), rfl, hs_.pulls [] rfl⟩
        · refine TW.skip ?_
          refine TE.block_normal ?_
          refine TE.next ?_
          refine TW.region ?_
          refine TO.y (Y.move rfl) rfl rfl rfl ?_
          refine TO.y (Y.add rfl rfl) rfl rfl rfl ?_
          refine TO.y (Y.assign rfl) rfl rfl rfl ?_
          refine TO.nil ?_
          exact TE.lp_go () [] ⟨rfl, rfl, rfl, trivial⟩ rfl
      · refine TW.exit ?_
        refine TE.then_exit ?_
        refine TE.lp_exit ?_
        refine TE.block_exit ?_
        exact TE.jn_go () [] ⟨rfl, trivial⟩ rfl
    · refine TE.next ?_
      refine TW.seq ?_
      refine TW.region ?_
      refine TO.y (Y.move rfl) rfl rfl rfl ?_
      refine TO.y (Y.assign rfl) rfl rfl rfl ?_
      refine TO.nil ?_
      refine TE.next ?_
      refine TW.ret ?_
      exact TE.leaf fun _ _ hf_ hs_ => ret_any (rs := [.tmp 4]) (vs := [.int .i64 T4]) (.inl rfl) rfl ⟨rfl, trivial⟩ hf_ hs_ ⟨(), rfl, hs_.pulls [] rfl⟩

/-- loop.example/g00950/laws.toEnt -/
noncomputable def laws_toEnt (a : Ent) : Option Ent :=
  some a

theorem laws_toEnt_con (a : Ent)  (r : Ent) (hm : laws_toEnt a = some r) :
    Con Try.prog 100 [.agg #[strV a.Key, .int .i64 a.Seq, .bool a.Del, strV a.Val]] [] [] (fun _ : Unit => .agg #[strV r.Key, .int .i64 r.Seq, .bool r.Del, strV r.Val]) (fun _ => []) := by
  refine Con.intro (args := [.agg #[strV a.Key, .int .i64 a.Seq, .bool a.Del, strV a.Val]]) (n := 17) (val := fun r (_ : Unit) => .agg #[strV r.Key, .int .i64 r.Seq, .bool r.Del, strV r.Val]) (post := fun _ _ => []) (m := laws_toEnt a) Try.func100 rfl rfl rfl hm ?_
  intro w S _
  unfold laws_toEnt
  refine TW.seq ?_
  refine TW.region ?_
  refine TO.ef (Ef.box rfl (Cel.plain rfl rfl)) rfl rfl rfl (fun B1 => ?_)
  refine TO.ef (Ef.alloc kz130 rfl) rfl rfl rfl (fun B2 => ?_)
  refine TO.nil ?_
  refine TE.next ?_
  refine TW.seq ?_
  refine TW.region ?_
  refine TO.ef (Ef.alloc kz130 rfl) rfl rfl rfl (fun B3 => ?_)
  refine TO.nil ?_
  refine TE.next ?_
  refine TW.seq ?_
  refine TW.region ?_
  refine TO.y (Y.field_box kf128_0 rfl rfl) rfl rfl rfl ?_
  refine TO.y (Y.load_box (v := strV a.Key) 2 kk9 rfl rfl rfl) rfl rfl rfl ?_
  refine TO.y (Y.field_box kf130_0 rfl rfl) rfl rfl rfl ?_
  refine TO.ef0 (Ef.store_box (us := [strV a.Key]) (vs' := [strV a.Key, .int .i64 (0 : Int), .bool false, strV ([])]) (is' := [.box B3 130 [strV a.Key, .int .i64 (0 : Int), .bool false, strV ([])], .box B2 130 [strV ([]), .int .i64 (0 : Int), .bool false, strV ([])], .box B1 128 [strV a.Key, .int .i64 a.Seq, .bool a.Del, strV a.Val]]) 0 kk9 rfl rfl rfl (Cel.plain rfl rfl) rfl rfl rfl rfl) rfl rfl (fun _ => ?_)
  refine TO.nil ?_
  refine TE.next ?_
  refine TW.seq ?_
  refine TW.region ?_
  refine TO.y (Y.field_box kf128_1 rfl rfl) rfl rfl rfl ?_
  refine TO.y (Y.load_box (v := .int .i64 a.Seq) 2 kk3 rfl rfl rfl) rfl rfl rfl ?_
  refine TO.y (Y.field_box kf130_1 rfl rfl) rfl rfl rfl ?_
  refine TO.ef0 (Ef.store_box (us := [.int .i64 a.Seq]) (vs' := [strV a.Key, .int .i64 a.Seq, .bool false, strV ([])]) (is' := [.box B3 130 [strV a.Key, .int .i64 a.Seq, .bool false, strV ([])], .box B2 130 [strV ([]), .int .i64 (0 : Int), .bool false, strV ([])], .box B1 128 [strV a.Key, .int .i64 a.Seq, .bool a.Del, strV a.Val]]) 0 kk3 rfl rfl rfl (Cel.plain rfl rfl) rfl rfl rfl rfl) rfl rfl (fun _ => ?_)
  refine TO.nil ?_
  refine TE.next ?_
  refine TW.seq ?_
  refine TW.region ?_
  refine TO.y (Y.field_box kf128_2 rfl rfl) rfl rfl rfl ?_
  refine TO.y (Y.load_box (v := .bool a.Del) 2 kk4 rfl rfl rfl) rfl rfl rfl ?_
  refine TO.y (Y.field_box kf130_2 rfl rfl) rfl rfl rfl ?_
  refine TO.ef0 (Ef.store_box (us := [.bool a.Del]) (vs' := [strV a.Key, .int .i64 a.Seq, .bool a.Del, strV ([])]) (is' := [.box B3 130 [strV a.Key, .int .i64 a.Seq, .bool a.Del, strV ([])], .box B2 130 [strV ([]), .int .i64 (0 : Int), .bool false, strV ([])], .box B1 128 [strV a.Key, .int .i64 a.Seq, .bool a.Del, strV a.Val]]) 0 kk4 rfl rfl rfl (Cel.plain rfl rfl) rfl rfl rfl rfl) rfl rfl (fun _ => ?_)
  refine TO.nil ?_
  refine TE.next ?_
  refine TW.seq ?_
  refine TW.region ?_
  refine TO.y (Y.field_box kf128_3 rfl rfl) rfl rfl rfl ?_
  refine TO.y (Y.load_box (v := strV a.Val) 2 kk9 rfl rfl rfl) rfl rfl rfl ?_
  refine TO.y (Y.field_box kf130_3 rfl rfl) rfl rfl rfl ?_
  refine TO.ef0 (Ef.store_box (us := [strV a.Val]) (vs' := [strV a.Key, .int .i64 a.Seq, .bool a.Del, strV a.Val]) (is' := [.box B3 130 [strV a.Key, .int .i64 a.Seq, .bool a.Del, strV a.Val], .box B2 130 [strV ([]), .int .i64 (0 : Int), .bool false, strV ([])], .box B1 128 [strV a.Key, .int .i64 a.Seq, .bool a.Del, strV a.Val]]) 0 kk9 rfl rfl rfl (Cel.plain rfl rfl) rfl rfl rfl rfl) rfl rfl (fun _ => ?_)
  refine TO.nil ?_
  refine TE.next ?_
  refine TW.seq ?_
  refine TW.region ?_
  refine TO.y (Y.load_box (v := .agg #[strV a.Key, .int .i64 a.Seq, .bool a.Del, strV a.Val]) 0 kk130 rfl rfl rfl) rfl rfl rfl ?_
  refine TO.ef0 (Ef.store_box (us := [strV a.Key, .int .i64 a.Seq, .bool a.Del, strV a.Val]) (vs' := [strV a.Key, .int .i64 a.Seq, .bool a.Del, strV a.Val]) (is' := [.box B3 130 [strV a.Key, .int .i64 a.Seq, .bool a.Del, strV a.Val], .box B2 130 [strV a.Key, .int .i64 a.Seq, .bool a.Del, strV a.Val], .box B1 128 [strV a.Key, .int .i64 a.Seq, .bool a.Del, strV a.Val]]) 1 kk130 rfl rfl rfl (Cel.plain rfl rfl) rfl rfl rfl rfl) rfl rfl (fun _ => ?_)
  refine TO.nil ?_
  refine TE.next ?_
  refine TW.ret ?_
  exact TE.leaf fun _ _ hf_ hs_ => ret_any (rs := [.cell 2 130]) (vs := [.agg #[strV a.Key, .int .i64 a.Seq, .bool a.Del, strV a.Val]]) (.inl rfl) rfl (RV.cell 1 rfl rfl kk130 rfl trivial) hf_ hs_ ⟨(), rfl, hs_.pulls [] rfl⟩

/-- loop.example/g00950/laws.toEntS -/
noncomputable def laws_toEntS (a : List Ent) : Option (List Ent) :=
  (mkLen 48 ((a.length : Nat) : Int)).bind fun E2 =>
  bindC (loopO (fun (S4 : Int × List Ent) => if (decide (S4.1 < ((a.length : Nat) : Int))) = true then ((idx a S4.1).bind fun E9 =>
  (laws_toEnt E9).bind fun R11 =>
  (idx S4.2 S4.1).bind fun E14 =>
  some (.go (IntKind.i64.wrap (S4.1 + (1 : Int)), (S4.2.set S4.1.toNat R11))))
  else (some (.done (.go S4.2))))
  ((0 : Int), (List.replicate E2 ({ Key := [], Seq := (0 : Int), Del := false, Val := [] : Ent } : Ent))))
  (fun (T6 : List Ent) => some T6)

theorem laws_toEntS_con (a : List Ent) (V_a0 : Value) (r : List Ent) (hm : laws_toEntS a = some r) :
    Con Try.prog 45 [V_a0] [] [(V_a0, lc a)] (fun X : Value => X) (fun X => [.own X (lc r)]) := by
  refine Con.intro (args := [V_a0]) (n := 23) (val := fun _ (X : Value) => X) (post := fun r X => [.own X (lc r)]) (m := laws_toEntS a) Try.func45 rfl rfl rfl hm ?_
  intro w S hrd
  have HB_V_a0 := hrd _ (.head _)
  clear hrd
  unfold laws_toEntS
  refine TW.seq ?_
  refine TW.region ?_
  refine TO.y (Y.assign rfl) rfl rfl rfl ?_
  refine TO.nil ?_
  refine TE.next ?_
  refine TW.seq ?_
  refine TW.region ?_
  refine TO.y (Y.move rfl) rfl rfl rfl ?_
  refine TO.y (Y.len (l := a) ke77 (Base.can HB_V_a0) rfl) rfl rfl rfl ?_
  refine TO.bind fun E2 H3 => ?_
  refine TO.ef (Ef.make (α := Ent) (z := ({ Key := [], Seq := (0 : Int), Del := false, Val := [] : Ent } : Ent)) H3 ke80 kz130 rfl rfl rfl rfl) rfl rfl rfl (fun V1 => ?_)
  refine TO.y (Y.assign rfl) rfl rfl rfl ?_
  refine TO.nil ?_
  refine TE.next ?_
  refine TW.seq ?_
  refine TW.seq ?_
  refine TW.region ?_
  refine TO.y (Y.assign rfl) rfl rfl rfl ?_
  refine TO.nil ?_
  refine TE.next ?_
  refine TW.joinX (τ := List Ent) (X := Unit) (fun _ _ => [(3, V1)]) (fun T _ => [.own V1 (lc T)]) ?_ (fun T6 X7 => ?_)
  · refine TW.block ?_
    refine TW.loopX (σ := Int × List Ent) (X := Unit) (fun T _ => [(0, V_a0), (3, V1), (4, .int .i64 T.1)]) (fun T _ => [.own V1 (lc T.2)]) () [0] ⟨rfl, rfl, rfl, trivial⟩ rfl (fun S4 X5 => ?_)
    refine TW.seq ?_
    refine TW.seq ?_
    refine TW.region ?_
    refine TO.y (Y.move rfl) rfl rfl rfl ?_
    refine TO.y (Y.move rfl) rfl rfl rfl ?_
    refine TO.y (Y.len (l := a) ke77 (Base.can HB_V_a0) rfl) rfl rfl rfl ?_
    refine TO.y (Y.lss rfl rfl) rfl rfl rfl ?_
    refine TO.nil ?_
    refine TE.next ?_
    refine TW.cond rfl (fun H8 => ?_) (fun H8 => ?_)
    · refine TW.skip ?_
      refine TE.next ?_
      refine TW.seq ?_
      refine TW.block ?_
      refine TW.region ?_
      refine TO.y (Y.move rfl) rfl rfl rfl ?_
      refine TO.y (Y.move rfl) rfl rfl rfl ?_
      refine TO.y (Y.move rfl) rfl rfl rfl ?_
      refine TO.y (Y.move rfl) rfl rfl rfl ?_
      refine TO.bind fun E9 H10 => ?_
      refine TO.y (Y.index ke77 (Base.can HB_V_a0) H10 rfl rfl) rfl rfl rfl ?_
      refine TO.y (Y.load_el (us := [strV E9.Key, .int .i64 E9.Seq, .bool E9.Del, strV E9.Val]) (u := .agg #[strV E9.Key, .int .i64 E9.Seq, .bool E9.Del, strV E9.Val]) kk128 rfl (Base.can HB_V_a0) (idx_get H10).2.2 rfl rfl rfl rfl rfl) rfl rfl rfl ?_
      refine TO.bind fun R11 H12 => ?_
      refine TO.ef (Ef.call (rest := [.own V1 (lc S4.2)]) [0] (laws_toEnt_con E9  R11 H12) kc100 rfl rfl trivial) rfl rfl rfl (fun _ => ?_)
      refine TO.bind fun E14 H15 => ?_
      refine TO.y (Y.index ke80 (Can.own 0 rfl) H15 rfl rfl) rfl rfl rfl ?_
      refine TO.ef0 (Ef.store_el (us := [strV R11.Key, .int .i64 R11.Seq, .bool R11.Del, strV R11.Val]) (is' := [.own V1 (lc (S4.2.set S4.1.toNat R11))]) R11 0 kk130 rfl rfl (idx_get H15).2.2 rfl rfl (Cel.plain rfl rfl) rfl rfl rfl rfl) rfl rfl (fun _ => ?_)
      refine TO.nil ?_
      refine TE.block_normal ?_
      refine TE.next ?_
      refine TW.region ?_
      refine TO.y (Y.move rfl) rfl rfl rfl ?_
      refine TO.y (Y.add rfl rfl) rfl rfl rfl ?_
      refine TO.y (Y.assign rfl) rfl rfl rfl ?_
      refine TO.nil ?_
      exact TE.lp_go () [0] ⟨rfl, rfl, rfl, trivial⟩ rfl
    · refine TW.exit ?_
      refine TE.then_exit ?_
      refine TE.lp_exit ?_
      refine TE.block_exit ?_
      exact TE.jn_go () [0] ⟨rfl, trivial⟩ rfl
  · refine TE.next ?_
    refine TW.seq ?_
    refine TW.region ?_
    refine TO.y (Y.move rfl) rfl rfl rfl ?_
    refine TO.y (Y.assign rfl) rfl rfl rfl ?_
    refine TO.nil ?_
    refine TE.next ?_
    refine TW.ret ?_
    exact TE.leaf fun _ _ hf_ hs_ => ret_any (rs := [.tmp 2]) (vs := [V1]) (.inl rfl) rfl ⟨rfl, trivial⟩ hf_ hs_ ⟨V1, rfl, hs_.pulls [0] rfl⟩

/-- loop.example/g00950/laws.toIntS -/
noncomputable def laws_toIntS (a : List Int) : Option (List Int) :=
  (mkLen 8 ((a.length : Nat) : Int)).bind fun E2 =>
  bindC (loopO (fun (S4 : Int × List Int) => if (decide (S4.1 < ((a.length : Nat) : Int))) = true then ((idx a S4.1).bind fun E9 =>
  (idx S4.2 S4.1).bind fun E11 =>
  some (.go (IntKind.i64.wrap (S4.1 + (1 : Int)), (S4.2.set S4.1.toNat E9))))
  else (some (.done (.go S4.2))))
  ((0 : Int), (List.replicate E2 (0 : Int))))
  (fun (T6 : List Int) => some T6)

theorem laws_toIntS_con (a : List Int) (V_a0 : Value) (r : List Int) (hm : laws_toIntS a = some r) :
    Con Try.prog 46 [V_a0] [] [(V_a0, lc a)] (fun X : Value => X) (fun X => [.own X (lc r)]) := by
  refine Con.intro (args := [V_a0]) (n := 22) (val := fun _ (X : Value) => X) (post := fun r X => [.own X (lc r)]) (m := laws_toIntS a) Try.func46 rfl rfl rfl hm ?_
  intro w S hrd
  have HB_V_a0 := hrd _ (.head _)
  clear hrd
  unfold laws_toIntS
  refine TW.seq ?_
  refine TW.region ?_
  refine TO.y (Y.assign rfl) rfl rfl rfl ?_
  refine TO.nil ?_
  refine TE.next ?_
  refine TW.seq ?_
  refine TW.region ?_
  refine TO.y (Y.move rfl) rfl rfl rfl ?_
  refine TO.y (Y.len (l := a) ke78 (Base.can HB_V_a0) rfl) rfl rfl rfl ?_
  refine TO.bind fun E2 H3 => ?_
  refine TO.ef (Ef.make (α := Int) (z := (0 : Int)) H3 ke78 kz3 rfl rfl rfl rfl) rfl rfl rfl (fun V1 => ?_)
  refine TO.y (Y.assign rfl) rfl rfl rfl ?_
  refine TO.nil ?_
  refine TE.next ?_
  refine TW.seq ?_
  refine TW.seq ?_
  refine TW.region ?_
  refine TO.y (Y.assign rfl) rfl rfl rfl ?_
  refine TO.nil ?_
  refine TE.next ?_
  refine TW.joinX (τ := List Int) (X := Unit) (fun _ _ => [(3, V1)]) (fun T _ => [.own V1 (lc T)]) ?_ (fun T6 X7 => ?_)
  · refine TW.block ?_
    refine TW.loopX (σ := Int × List Int) (X := Unit) (fun T _ => [(0, V_a0), (3, V1), (4, .int .i64 T.1)]) (fun T _ => [.own V1 (lc T.2)]) () [0] ⟨rfl, rfl, rfl, trivial⟩ rfl (fun S4 X5 => ?_)
    refine TW.seq ?_
    refine TW.seq ?_
    refine TW.region ?_
    refine TO.y (Y.move rfl) rfl rfl rfl ?_
    refine TO.y (Y.move rfl) rfl rfl rfl ?_
    refine TO.y (Y.len (l := a) ke78 (Base.can HB_V_a0) rfl) rfl rfl rfl ?_
    refine TO.y (Y.lss rfl rfl) rfl rfl rfl ?_
    refine TO.nil ?_
    refine TE.next ?_
    refine TW.cond rfl (fun H8 => ?_) (fun H8 => ?_)
    · refine TW.skip ?_
      refine TE.next ?_
      refine TW.seq ?_
      refine TW.block ?_
      refine TW.region ?_
      refine TO.y (Y.move rfl) rfl rfl rfl ?_
      refine TO.y (Y.move rfl) rfl rfl rfl ?_
      refine TO.y (Y.move rfl) rfl rfl rfl ?_
      refine TO.y (Y.move rfl) rfl rfl rfl ?_
      refine TO.bind fun E9 H10 => ?_
      refine TO.y (Y.index ke78 (Base.can HB_V_a0) H10 rfl rfl) rfl rfl rfl ?_
      refine TO.y (Y.load_el (us := [.int .i64 E9]) (u := .int .i64 E9) kk3 rfl (Base.can HB_V_a0) (idx_get H10).2.2 rfl rfl rfl rfl rfl) rfl rfl rfl ?_
      refine TO.bind fun E11 H12 => ?_
      refine TO.y (Y.index ke78 (Can.own 0 rfl) H12 rfl rfl) rfl rfl rfl ?_
      refine TO.ef0 (Ef.store_el (us := [.int .i64 E9]) (is' := [.own V1 (lc (S4.2.set S4.1.toNat E9))]) E9 0 kk3 rfl rfl (idx_get H12).2.2 rfl rfl (Cel.plain rfl rfl) rfl rfl rfl rfl) rfl rfl (fun _ => ?_)
      refine TO.nil ?_
      refine TE.block_normal ?_
      refine TE.next ?_
      refine TW.region ?_
      refine TO.y (Y.move rfl) rfl rfl rfl ?_
      refine TO.y (Y.add rfl rfl) rfl rfl rfl ?_
      refine TO.y (Y.assign rfl) rfl rfl rfl ?_
      refine TO.nil ?_
      exact TE.lp_go () [0] ⟨rfl, rfl, rfl, trivial⟩ rfl
    · refine TW.exit ?_
      refine TE.then_exit ?_
      refine TE.lp_exit ?_
      refine TE.block_exit ?_
      exact TE.jn_go () [0] ⟨rfl, trivial⟩ rfl
  · refine TE.next ?_
    refine TW.seq ?_
    refine TW.region ?_
    refine TO.y (Y.move rfl) rfl rfl rfl ?_
    refine TO.y (Y.assign rfl) rfl rfl rfl ?_
    refine TO.nil ?_
    refine TE.next ?_
    refine TW.ret ?_
    exact TE.leaf fun _ _ hf_ hs_ => ret_any (rs := [.tmp 2]) (vs := [V1]) (.inl rfl) rfl ⟨rfl, trivial⟩ hf_ hs_ ⟨V1, rfl, hs_.pulls [0] rfl⟩

/-- loop.example/g00950/spec.l1In -/
noncomputable def spec_l1In (x : Int) (low : Int) (high : Int) : Option Bool :=
  (if (decide (x ≥ low)) = true then (some (decide (x ≤ high)))
  else (some false)).bind (fun (T1 : Bool) =>
  some T1)

theorem spec_l1In_con (x : Int) (low : Int) (high : Int)  (r : Bool) (hm : spec_l1In x low high = some r) :
    Con Try.prog 79 [.int .i64 x, .int .i64 low, .int .i64 high] [] [] (fun _ : Unit => .bool r) (fun _ => []) := by
  refine Con.intro (args := [.int .i64 x, .int .i64 low, .int .i64 high]) (n := 15) (val := fun r (_ : Unit) => .bool r) (post := fun _ _ => []) (m := spec_l1In x low high) Try.func79 rfl rfl rfl hm ?_
  intro w S _
  unfold spec_l1In
  refine TW.seq ?_
  refine TW.region ?_
  refine TO.y (Y.assign rfl) rfl rfl rfl ?_
  refine TO.nil ?_
  refine TE.next ?_
  refine TW.seq ?_
  refine TW.joinBX (τ := Bool) (X := Unit) (fun T _ => [(6, .bool T)]) (fun _ _ => []) ?_ (fun T1 X2 => ?_)
  · refine TW.region ?_
    refine TO.y (Y.move rfl) rfl rfl rfl ?_
    refine TO.y (Y.move rfl) rfl rfl rfl ?_
    refine TO.y (Y.geq rfl rfl) rfl rfl rfl ?_
    refine TO.y (Y.move rfl) rfl rfl rfl ?_
    refine TO.ite (b := decide (x ≥ low)) (fun H3 => ?_) (fun H3 => ?_)
    · refine TO.y (Y.move rfl) (Gd.at 3 true 10 (decide (x ≥ low)) rfl rfl rfl (beq_tt H3)) rfl rfl ?_
      refine TO.y (Y.move rfl) (Gd.at 3 true 10 (decide (x ≥ low)) rfl rfl rfl (beq_tt H3)) rfl rfl ?_
      refine TO.y (Y.leq rfl rfl) (Gd.at 3 true 10 (decide (x ≥ low)) rfl rfl rfl (beq_tt H3)) rfl rfl ?_
      refine TO.y (Y.pick_t H3 rfl rfl) rfl rfl rfl ?_
      refine TO.y (Y.assign rfl) rfl rfl rfl ?_
      refine TO.nil ?_
      exact TE.jb_go () [] ⟨rfl, trivial⟩ rfl
    · refine TO.off (Gd.at 3 true 10 (decide (x ≥ low)) rfl rfl rfl (beq_ft H3)) rfl rfl ?_
      refine TO.off (Gd.at 3 true 10 (decide (x ≥ low)) rfl rfl rfl (beq_ft H3)) rfl rfl ?_
      refine TO.off (Gd.at 3 true 10 (decide (x ≥ low)) rfl rfl rfl (beq_ft H3)) rfl rfl ?_
      refine TO.y (Y.pick_f H3 rfl rfl) rfl rfl rfl ?_
      refine TO.y (Y.assign rfl) rfl rfl rfl ?_
      refine TO.nil ?_
      exact TE.jb_go () [] ⟨rfl, trivial⟩ rfl
  · refine TE.next ?_
    refine TW.ret ?_
    exact TE.leaf fun _ _ hf_ hs_ => ret_any (rs := [.tmp 6]) (vs := [.bool T1]) (.inl rfl) rfl ⟨rfl, trivial⟩ hf_ hs_ ⟨(), rfl, hs_.pulls [] rfl⟩

/-- loop.example/g00950/spec.l7Op -/
noncomputable def spec_l7Op (o : Op) : Option Bool :=
  ((spec_l1In ((o.Key.length : Nat) : Int) (1 : Int) (10 : Int)).bind fun R4 =>
  if R4 = true then (if (decide (((o.Val.length : Nat) : Int) ≤ (16 : Int))) = true then (if (!o.Del) = true then (some true)
  else (some (decide (o.Val = ([])))))
  else (some false))
  else (some false)).bind (fun (T2 : Bool) =>
  some T2)

theorem spec_l7Op_con (o : Op)  (r : Bool) (hm : spec_l7Op o = some r) :
    Con Try.prog 89 [.agg #[strV o.Key, .bool o.Del, strV o.Val]] [] [] (fun _ : Unit => .bool r) (fun _ => []) := by
  refine Con.intro (args := [.agg #[strV o.Key, .bool o.Del, strV o.Val]]) (n := 23) (val := fun r (_ : Unit) => .bool r) (post := fun _ _ => []) (m := spec_l7Op o) Try.func89 rfl rfl rfl hm ?_
  intro w S _
  unfold spec_l7Op
  refine TW.seq ?_
  refine TW.region ?_
  refine TO.ef (Ef.box rfl (Cel.plain rfl rfl)) rfl rfl rfl (fun B1 => ?_)
  refine TO.y (Y.assign rfl) rfl rfl rfl ?_
  refine TO.nil ?_
  refine TE.next ?_
  refine TW.seq ?_
  refine TW.joinBX (τ := Bool) (X := Unit) (fun T _ => [(2, .bool T)]) (fun _ _ => []) ?_ (fun T2 X3 => ?_)
  · refine TW.region ?_
    refine TO.y (Y.field_box kf120_0 rfl rfl) rfl rfl rfl ?_
    refine TO.y (Y.load_box (v := strV o.Key) 0 kk9 rfl rfl rfl) rfl rfl rfl ?_
    refine TO.y (Y.slen ks9 rfl) rfl rfl rfl ?_
    refine TO.bind fun R4 H5 => ?_
    refine TO.ef (Ef.call (rest := [.box B1 120 [strV o.Key, .bool o.Del, strV o.Val]]) [0] (spec_l1In_con ((o.Key.length : Nat) : Int) (1 : Int) (10 : Int)  R4 H5) kc79 rfl rfl trivial) rfl rfl rfl (fun _ => ?_)
    refine TO.y (Y.move rfl) rfl rfl rfl ?_
    refine TO.ite (b := R4) (fun H7 => ?_) (fun H7 => ?_)
    · refine TO.y (Y.field_box kf120_2 rfl rfl) (Gd.at 4 true 7 R4 rfl rfl rfl (beq_tt H7)) rfl rfl ?_
      refine TO.y (Y.load_box (v := strV o.Val) 0 kk9 rfl rfl rfl) (Gd.at 4 true 7 R4 rfl rfl rfl (beq_tt H7)) rfl rfl ?_
      refine TO.y (Y.slen ks9 rfl) (Gd.at 4 true 7 R4 rfl rfl rfl (beq_tt H7)) rfl rfl ?_
      refine TO.y (Y.leq rfl rfl) (Gd.at 4 true 7 R4 rfl rfl rfl (beq_tt H7)) rfl rfl ?_
      refine TO.y (Y.pick_t H7 rfl rfl) rfl rfl rfl ?_
      refine TO.y (Y.move rfl) rfl rfl rfl ?_
      refine TO.ite (b := decide (((o.Val.length : Nat) : Int) ≤ (16 : Int))) (fun H8 => ?_) (fun H8 => ?_)
      · refine TO.y (Y.field_box kf120_1 rfl rfl) (Gd.at 10 true 13 (decide (((o.Val.length : Nat) : Int) ≤ (16 : Int))) rfl rfl rfl (beq_tt H8)) rfl rfl ?_
        refine TO.y (Y.load_box (v := .bool o.Del) 0 kk4 rfl rfl rfl) (Gd.at 10 true 13 (decide (((o.Val.length : Nat) : Int) ≤ (16 : Int))) rfl rfl rfl (beq_tt H8)) rfl rfl ?_
        refine TO.y (Y.not rfl) (Gd.at 10 true 13 (decide (((o.Val.length : Nat) : Int) ≤ (16 : Int))) rfl rfl rfl (beq_tt H8)) rfl rfl ?_
        refine TO.y (Y.move rfl) (Gd.at 10 true 13 (decide (((o.Val.length : Nat) : Int) ≤ (16 : Int))) rfl rfl rfl (beq_tt H8)) rfl rfl ?_
        refine TO.ite (b := !o.Del) (fun H9 => ?_) (fun H9 => ?_)
        · refine TO.off (Gd.at 14 false 17 (!o.Del) rfl rfl rfl (beq_tf H9)) rfl rfl ?_
          refine TO.off (Gd.at 14 false 17 (!o.Del) rfl rfl rfl (beq_tf H9)) rfl rfl ?_
          refine TO.off (Gd.at 14 false 17 (!o.Del) rfl rfl rfl (beq_tf H9)) rfl rfl ?_
          refine TO.y (Y.pick_t H9 rfl rfl) (Gd.at 10 true 13 (decide (((o.Val.length : Nat) : Int) ≤ (16 : Int))) rfl rfl rfl (beq_tt H8)) rfl rfl ?_
          refine TO.y (Y.pick_t H8 rfl rfl) rfl rfl rfl ?_
          refine TO.y (Y.assign rfl) rfl rfl rfl ?_
          refine TO.nil ?_
          exact TE.jb_go () [] ⟨rfl, trivial⟩ rfl
        · refine TO.y (Y.field_box kf120_2 rfl rfl) (Gd.at 14 false 17 (!o.Del) rfl rfl rfl (beq_ff H9)) rfl rfl ?_
          refine TO.y (Y.load_box (v := strV o.Val) 0 kk9 rfl rfl rfl) (Gd.at 14 false 17 (!o.Del) rfl rfl rfl (beq_ff H9)) rfl rfl ?_
          refine TO.y (Y.seql rfl rfl) (Gd.at 14 false 17 (!o.Del) rfl rfl rfl (beq_ff H9)) rfl rfl ?_
          refine TO.y (Y.pick_f H9 rfl rfl) (Gd.at 10 true 13 (decide (((o.Val.length : Nat) : Int) ≤ (16 : Int))) rfl rfl rfl (beq_tt H8)) rfl rfl ?_
          refine TO.y (Y.pick_t H8 rfl rfl) rfl rfl rfl ?_
          refine TO.y (Y.assign rfl) rfl rfl rfl ?_
          refine TO.nil ?_
          exact TE.jb_go () [] ⟨rfl, trivial⟩ rfl
      · refine TO.off (Gd.at 10 true 13 (decide (((o.Val.length : Nat) : Int) ≤ (16 : Int))) rfl rfl rfl (beq_ft H8)) rfl rfl ?_
        refine TO.off (Gd.at 10 true 13 (decide (((o.Val.length : Nat) : Int) ≤ (16 : Int))) rfl rfl rfl (beq_ft H8)) rfl rfl ?_
        refine TO.off (Gd.at 10 true 13 (decide (((o.Val.length : Nat) : Int) ≤ (16 : Int))) rfl rfl rfl (beq_ft H8)) rfl rfl ?_
        refine TO.off (Gd.at 10 true 13 (decide (((o.Val.length : Nat) : Int) ≤ (16 : Int))) rfl rfl rfl (beq_ft H8)) rfl rfl ?_
        refine TO.off (Gd.un 14 false 17 rfl rfl rfl) rfl rfl ?_
        refine TO.off (Gd.un 14 false 17 rfl rfl rfl) rfl rfl ?_
        refine TO.off (Gd.un 14 false 17 rfl rfl rfl) rfl rfl ?_
        refine TO.off (Gd.at 10 true 13 (decide (((o.Val.length : Nat) : Int) ≤ (16 : Int))) rfl rfl rfl (beq_ft H8)) rfl rfl ?_
        refine TO.y (Y.pick_f H8 rfl rfl) rfl rfl rfl ?_
        refine TO.y (Y.assign rfl) rfl rfl rfl ?_
        refine TO.nil ?_
        exact TE.jb_go () [] ⟨rfl, trivial⟩ rfl
    · refine TO.off (Gd.at 4 true 7 R4 rfl rfl rfl (beq_ft H7)) rfl rfl ?_
      refine TO.off (Gd.at 4 true 7 R4 rfl rfl rfl (beq_ft H7)) rfl rfl ?_
      refine TO.off (Gd.at 4 true 7 R4 rfl rfl rfl (beq_ft H7)) rfl rfl ?_
      refine TO.off (Gd.at 4 true 7 R4 rfl rfl rfl (beq_ft H7)) rfl rfl ?_
      refine TO.y (Y.pick_f H7 rfl rfl) rfl rfl rfl ?_
      refine TO.y (Y.move rfl) rfl rfl rfl ?_
      refine TO.off (Gd.at 10 true 13 false rfl rfl rfl rfl) rfl rfl ?_
      refine TO.off (Gd.at 10 true 13 false rfl rfl rfl rfl) rfl rfl ?_
      refine TO.off (Gd.at 10 true 13 false rfl rfl rfl rfl) rfl rfl ?_
      refine TO.off (Gd.at 10 true 13 false rfl rfl rfl rfl) rfl rfl ?_
      refine TO.off (Gd.un 14 false 17 rfl rfl rfl) rfl rfl ?_
      refine TO.off (Gd.un 14 false 17 rfl rfl rfl) rfl rfl ?_
      refine TO.off (Gd.un 14 false 17 rfl rfl rfl) rfl rfl ?_
      refine TO.off (Gd.at 10 true 13 false rfl rfl rfl rfl) rfl rfl ?_
      refine TO.y (Y.pick_f rfl rfl rfl) rfl rfl rfl ?_
      refine TO.y (Y.assign rfl) rfl rfl rfl ?_
      refine TO.nil ?_
      exact TE.jb_go () [] ⟨rfl, trivial⟩ rfl
  · refine TE.next ?_
    refine TW.ret ?_
    exact TE.leaf fun _ _ hf_ hs_ => ret_any (rs := [.tmp 2]) (vs := [.bool T2]) (.inl rfl) rfl ⟨rfl, trivial⟩ hf_ hs_ ⟨(), rfl, hs_.pulls [] rfl⟩

/-- loop.example/g00950/spec.l9Ent -/
noncomputable def spec_l9Ent (e : Ent) : Option Bool :=
  ((spec_l7Op ({ Key := e.Key, Del := e.Del, Val := e.Val : Op })).bind fun R4 =>
  if R4 = true then ((spec_l1In e.Seq (0 : Int) (1000000 : Int)).bind fun R8 =>
  some R8)
  else (some false)).bind (fun (T2 : Bool) =>
  some T2)

theorem spec_l9Ent_con (e : Ent)  (r : Bool) (hm : spec_l9Ent e = some r) :
    Con Try.prog 131 [.agg #[strV e.Key, .int .i64 e.Seq, .bool e.Del, strV e.Val]] [] [] (fun _ : Unit => .bool r) (fun _ => []) := by
  refine Con.intro (args := [.agg #[strV e.Key, .int .i64 e.Seq, .bool e.Del, strV e.Val]]) (n := 16) (val := fun r (_ : Unit) => .bool r) (post := fun _ _ => []) (m := spec_l9Ent e) Try.func131 rfl rfl rfl hm ?_
  intro w S _
  unfold spec_l9Ent
  refine TW.seq ?_
  refine TW.region ?_
  refine TO.ef (Ef.box rfl (Cel.plain rfl rfl)) rfl rfl rfl (fun B1 => ?_)
  refine TO.y (Y.assign rfl) rfl rfl rfl ?_
  refine TO.nil ?_
  refine TE.next ?_
  refine TW.seq ?_
  refine TW.joinBX (τ := Bool) (X := Unit) (fun T _ => [(2, .bool T)]) (fun _ _ => []) ?_ (fun T2 X3 => ?_)
  · refine TW.region ?_
    refine TO.y (Y.field_box kf130_0 rfl rfl) rfl rfl rfl ?_
    refine TO.y (Y.load_box (v := strV e.Key) 0 kk9 rfl rfl rfl) rfl rfl rfl ?_
    refine TO.y (Y.field_box kf130_2 rfl rfl) rfl rfl rfl ?_
    refine TO.y (Y.load_box (v := .bool e.Del) 0 kk4 rfl rfl rfl) rfl rfl rfl ?_
    refine TO.y (Y.field_box kf130_3 rfl rfl) rfl rfl rfl ?_
    refine TO.y (Y.load_box (v := strV e.Val) 0 kk9 rfl rfl rfl) rfl rfl rfl ?_
    refine TO.y (Y.build (cells := [strV e.Key, .bool e.Del, strV e.Val]) [(0, [strV e.Key]), (1, [.bool e.Del]), (2, [strV e.Val])] kp120 kz120 ⟨rfl, ⟨_, rfl, (Cel.plain rfl rfl)⟩, ⟨rfl, ⟨_, rfl, (Cel.plain rfl rfl)⟩, ⟨rfl, ⟨_, rfl, (Cel.plain rfl rfl)⟩, trivial⟩⟩⟩ rfl) rfl rfl rfl ?_
    refine TO.bind fun R4 H5 => ?_
    refine TO.ef (Ef.call (rest := [.box B1 130 [strV e.Key, .int .i64 e.Seq, .bool e.Del, strV e.Val]]) [0] (spec_l7Op_con ({ Key := e.Key, Del := e.Del, Val := e.Val : Op })  R4 H5) kc89 rfl rfl trivial) rfl rfl rfl (fun _ => ?_)
    refine TO.y (Y.move rfl) rfl rfl rfl ?_
    refine TO.ite (b := R4) (fun H7 => ?_) (fun H7 => ?_)
    · refine TO.y (Y.field_box kf130_1 rfl rfl) (Gd.at 8 true 11 R4 rfl rfl rfl (beq_tt H7)) rfl rfl ?_
      refine TO.y (Y.load_box (v := .int .i64 e.Seq) 0 kk3 rfl rfl rfl) (Gd.at 8 true 11 R4 rfl rfl rfl (beq_tt H7)) rfl rfl ?_
      refine TO.bind fun R8 H9 => ?_
      refine TO.ef (Ef.call (rest := [.box B1 130 [strV e.Key, .int .i64 e.Seq, .bool e.Del, strV e.Val]]) [0] (spec_l1In_con e.Seq (0 : Int) (1000000 : Int)  R8 H9) kc79 rfl rfl trivial) (Gd.at 8 true 11 R4 rfl rfl rfl (beq_tt H7)) rfl rfl (fun _ => ?_)
      refine TO.y (Y.pick_t H7 rfl rfl) rfl rfl rfl ?_
      refine TO.y (Y.assign rfl) rfl rfl rfl ?_
      refine TO.nil ?_
      exact TE.jb_go () [] ⟨rfl, trivial⟩ rfl
    · refine TO.off (Gd.at 8 true 11 R4 rfl rfl rfl (beq_ft H7)) rfl rfl ?_
      refine TO.off (Gd.at 8 true 11 R4 rfl rfl rfl (beq_ft H7)) rfl rfl ?_
      refine TO.off (Gd.at 8 true 11 R4 rfl rfl rfl (beq_ft H7)) rfl rfl ?_
      refine TO.y (Y.pick_f H7 rfl rfl) rfl rfl rfl ?_
      refine TO.y (Y.assign rfl) rfl rfl rfl ?_
      refine TO.nil ?_
      exact TE.jb_go () [] ⟨rfl, trivial⟩ rfl
  · refine TE.next ?_
    refine TW.ret ?_
    exact TE.leaf fun _ _ hf_ hs_ => ret_any (rs := [.tmp 2]) (vs := [.bool T2]) (.inl rfl) rfl ⟨rfl, trivial⟩ hf_ hs_ ⟨(), rfl, hs_.pulls [] rfl⟩

/-- loop.example/g00950/spec.l9Ahead -/
noncomputable def spec_l9Ahead (a : Ent) (b : Ent) : Option Bool :=
  (if (sLt a.Key b.Key) = true then (some true)
  else (if (decide (a.Key = b.Key)) = true then (some (decide (a.Seq > b.Seq)))
  else (some false))).bind (fun (T3 : Bool) =>
  some T3)

theorem spec_l9Ahead_con (a : Ent) (b : Ent)  (r : Bool) (hm : spec_l9Ahead a b = some r) :
    Con Try.prog 132 [.agg #[strV a.Key, .int .i64 a.Seq, .bool a.Del, strV a.Val], .agg #[strV b.Key, .int .i64 b.Seq, .bool b.Del, strV b.Val]] [] [] (fun _ : Unit => .bool r) (fun _ => []) := by
  refine Con.intro (args := [.agg #[strV a.Key, .int .i64 a.Seq, .bool a.Del, strV a.Val], .agg #[strV b.Key, .int .i64 b.Seq, .bool b.Del, strV b.Val]]) (n := 24) (val := fun r (_ : Unit) => .bool r) (post := fun _ _ => []) (m := spec_l9Ahead a b) Try.func132 rfl rfl rfl hm ?_
  intro w S _
  unfold spec_l9Ahead
  refine TW.seq ?_
  refine TW.region ?_
  refine TO.ef (Ef.box rfl (Cel.plain rfl rfl)) rfl rfl rfl (fun B1 => ?_)
  refine TO.ef (Ef.box rfl (Cel.plain rfl rfl)) rfl rfl rfl (fun B2 => ?_)
  refine TO.y (Y.assign rfl) rfl rfl rfl ?_
  refine TO.nil ?_
  refine TE.next ?_
  refine TW.seq ?_
  refine TW.joinBX (τ := Bool) (X := Unit) (fun T _ => [(4, .bool T)]) (fun _ _ => []) ?_ (fun T3 X4 => ?_)
  · refine TW.region ?_
    refine TO.y (Y.field_box kf130_0 rfl rfl) rfl rfl rfl ?_
    refine TO.y (Y.load_box (v := strV a.Key) 1 kk9 rfl rfl rfl) rfl rfl rfl ?_
    refine TO.y (Y.field_box kf130_0 rfl rfl) rfl rfl rfl ?_
    refine TO.y (Y.load_box (v := strV b.Key) 0 kk9 rfl rfl rfl) rfl rfl rfl ?_
    refine TO.y (Y.slss rfl rfl) rfl rfl rfl ?_
    refine TO.y (Y.move rfl) rfl rfl rfl ?_
    refine TO.ite (b := sLt a.Key b.Key) (fun H5 => ?_) (fun H5 => ?_)
    · refine TO.off (Gd.at 5 false 10 (sLt a.Key b.Key) rfl rfl rfl (beq_tf H5)) rfl rfl ?_
      refine TO.off (Gd.at 5 false 10 (sLt a.Key b.Key) rfl rfl rfl (beq_tf H5)) rfl rfl ?_
      refine TO.off (Gd.at 5 false 10 (sLt a.Key b.Key) rfl rfl rfl (beq_tf H5)) rfl rfl ?_
      refine TO.off (Gd.at 5 false 10 (sLt a.Key b.Key) rfl rfl rfl (beq_tf H5)) rfl rfl ?_
      refine TO.off (Gd.at 5 false 10 (sLt a.Key b.Key) rfl rfl rfl (beq_tf H5)) rfl rfl ?_
      refine TO.off (Gd.at 5 false 10 (sLt a.Key b.Key) rfl rfl rfl (beq_tf H5)) rfl rfl ?_
      refine TO.off (Gd.un 11 true 16 rfl rfl rfl) rfl rfl ?_
      refine TO.off (Gd.un 11 true 16 rfl rfl rfl) rfl rfl ?_
      refine TO.off (Gd.un 11 true 16 rfl rfl rfl) rfl rfl ?_
      refine TO.off (Gd.un 11 true 16 rfl rfl rfl) rfl rfl ?_
      refine TO.off (Gd.un 11 true 16 rfl rfl rfl) rfl rfl ?_
      refine TO.off (Gd.at 5 false 10 (sLt a.Key b.Key) rfl rfl rfl (beq_tf H5)) rfl rfl ?_
      refine TO.y (Y.pick_t H5 rfl rfl) rfl rfl rfl ?_
      refine TO.y (Y.assign rfl) rfl rfl rfl ?_
      refine TO.nil ?_
      exact TE.jb_go () [] ⟨rfl, trivial⟩ rfl
    · refine TO.y (Y.field_box kf130_0 rfl rfl) (Gd.at 5 false 10 (sLt a.Key b.Key) rfl rfl rfl (beq_ff H5)) rfl rfl ?_
      refine TO.y (Y.load_box (v := strV a.Key) 1 kk9 rfl rfl rfl) (Gd.at 5 false 10 (sLt a.Key b.Key) rfl rfl rfl (beq_ff H5)) rfl rfl ?_
      refine TO.y (Y.field_box kf130_0 rfl rfl) (Gd.at 5 false 10 (sLt a.Key b.Key) rfl rfl rfl (beq_ff H5)) rfl rfl ?_
      refine TO.y (Y.load_box (v := strV b.Key) 0 kk9 rfl rfl rfl) (Gd.at 5 false 10 (sLt a.Key b.Key) rfl rfl rfl (beq_ff H5)) rfl rfl ?_
      refine TO.y (Y.seql rfl rfl) (Gd.at 5 false 10 (sLt a.Key b.Key) rfl rfl rfl (beq_ff H5)) rfl rfl ?_
      refine TO.y (Y.move rfl) (Gd.at 5 false 10 (sLt a.Key b.Key) rfl rfl rfl (beq_ff H5)) rfl rfl ?_
      refine TO.ite (b := decide (a.Key = b.Key)) (fun H6 => ?_) (fun H6 => ?_)
      · refine TO.y (Y.field_box kf130_1 rfl rfl) (Gd.at 11 true 16 (decide (a.Key = b.Key)) rfl rfl rfl (beq_tt H6)) rfl rfl ?_
        refine TO.y (Y.load_box (v := .int .i64 a.Seq) 1 kk3 rfl rfl rfl) (Gd.at 11 true 16 (decide (a.Key = b.Key)) rfl rfl rfl (beq_tt H6)) rfl rfl ?_
        refine TO.y (Y.field_box kf130_1 rfl rfl) (Gd.at 11 true 16 (decide (a.Key = b.Key)) rfl rfl rfl (beq_tt H6)) rfl rfl ?_
        refine TO.y (Y.load_box (v := .int .i64 b.Seq) 0 kk3 rfl rfl rfl) (Gd.at 11 true 16 (decide (a.Key = b.Key)) rfl rfl rfl (beq_tt H6)) rfl rfl ?_
        refine TO.y (Y.gtr rfl rfl) (Gd.at 11 true 16 (decide (a.Key = b.Key)) rfl rfl rfl (beq_tt H6)) rfl rfl ?_
        refine TO.y (Y.pick_t H6 rfl rfl) (Gd.at 5 false 10 (sLt a.Key b.Key) rfl rfl rfl (beq_ff H5)) rfl rfl ?_
        refine TO.y (Y.pick_f H5 rfl rfl) rfl rfl rfl ?_
        refine TO.y (Y.assign rfl) rfl rfl rfl ?_
        refine TO.nil ?_
        exact TE.jb_go () [] ⟨rfl, trivial⟩ rfl
      · refine TO.off (Gd.at 11 true 16 (decide (a.Key = b.Key)) rfl rfl rfl (beq_ft H6)) rfl rfl ?_
        refine TO.off (Gd.at 11 true 16 (decide (a.Key = b.Key)) rfl rfl rfl (beq_ft H6)) rfl rfl ?_
        refine TO.off (Gd.at 11 true 16 (decide (a.Key = b.Key)) rfl rfl rfl (beq_ft H6)) rfl rfl ?_
        refine TO.off (Gd.at 11 true 16 (decide (a.Key = b.Key)) rfl rfl rfl (beq_ft H6)) rfl rfl ?_
        refine TO.off (Gd.at 11 true 16 (decide (a.Key = b.Key)) rfl rfl rfl (beq_ft H6)) rfl rfl ?_
        refine TO.y (Y.pick_f H6 rfl rfl) (Gd.at 5 false 10 (sLt a.Key b.Key) rfl rfl rfl (beq_ff H5)) rfl rfl ?_
        refine TO.y (Y.pick_f H5 rfl rfl) rfl rfl rfl ?_
        refine TO.y (Y.assign rfl) rfl rfl rfl ?_
        refine TO.nil ?_
        exact TE.jb_go () [] ⟨rfl, trivial⟩ rfl
  · refine TE.next ?_
    refine TW.ret ?_
    exact TE.leaf fun _ _ hf_ hs_ => ret_any (rs := [.tmp 4]) (vs := [.bool T3]) (.inl rfl) rfl ⟨rfl, trivial⟩ hf_ hs_ ⟨(), rfl, hs_.pulls [] rfl⟩

/-- loop.example/g00950/spec.l9Ents -/
noncomputable def spec_l9Ents (l : List Ent) : Option Bool :=
  bindC (loopO (fun (S1 : Int) => if (decide (S1 < ((l.length : Nat) : Int))) = true then (((idx l S1).bind fun E8 =>
  (spec_l9Ent E8).bind fun R10 =>
  if (!R10) = true then (some true)
  else (if (decide (S1 > (0 : Int))) = true then ((idx l (IntKind.i64.wrap (S1 - (1 : Int)))).bind fun E15 =>
  (spec_l9Ahead E15 E8).bind fun R17 =>
  some (!R17))
  else (some false))).bind (fun (T6 : Bool) =>
  if T6 = true then (some (.done (.done false)))
  else (some (.go (IntKind.i64.wrap (S1 + (1 : Int)))))))
  else (some (.done (.go ()))))
  (0 : Int))
  (fun (T3 : Unit) => some true)

theorem spec_l9Ents_con (l : List Ent) (V_l0 : Value) (r : Bool) (hm : spec_l9Ents l = some r) :
    Con Try.prog 97 [V_l0] [] [(V_l0, lc l)] (fun _ : Unit => .bool r) (fun _ => []) := by
  refine Con.intro (args := [V_l0]) (n := 33) (val := fun r (_ : Unit) => .bool r) (post := fun _ _ => []) (m := spec_l9Ents l) Try.func97 rfl rfl rfl hm ?_
  intro w S hrd
  have HB_V_l0 := hrd _ (.head _)
  clear hrd
  unfold spec_l9Ents
  refine TW.seq ?_
  refine TW.region ?_
  refine TO.y (Y.assign rfl) rfl rfl rfl ?_
  refine TO.nil ?_
  refine TE.next ?_
  refine TW.seq ?_
  refine TW.seq ?_
  refine TW.region ?_
  refine TO.y (Y.assign rfl) rfl rfl rfl ?_
  refine TO.nil ?_
  refine TE.next ?_
  refine TW.joinX (τ := Unit) (X := Unit) (fun _ _ => []) (fun _ _ => []) ?_ (fun T3 X4 => ?_)
  · refine TW.block ?_
    refine TW.loopX (σ := Int) (X := Unit) (fun T _ => [(0, V_l0), (3, .int .i64 T)]) (fun _ _ => []) () [] ⟨rfl, rfl, trivial⟩ rfl (fun S1 X2 => ?_)
    refine TW.seq ?_
    refine TW.seq ?_
    refine TW.region ?_
    refine TO.y (Y.move rfl) rfl rfl rfl ?_
    refine TO.y (Y.move rfl) rfl rfl rfl ?_
    refine TO.y (Y.len (l := l) ke80 (Base.can HB_V_l0) rfl) rfl rfl rfl ?_
    refine TO.y (Y.lss rfl rfl) rfl rfl rfl ?_
    refine TO.nil ?_
    refine TE.next ?_
    refine TW.cond rfl (fun H5 => ?_) (fun H5 => ?_)
    · refine TW.skip ?_
      refine TE.next ?_
      refine TW.seq ?_
      refine TW.block ?_
      refine TW.seq ?_
      refine TW.joinBX (τ := Bool) (X := Unit) (fun T _ => [(0, V_l0), (3, .int .i64 S1), (32, .bool T)]) (fun _ _ => []) ?_ (fun T6 X7 => ?_)
      · refine TW.draw (isH := []) hMix ?_
        refine TA.y (listed' := #[true, false, false, false, false, false, false, false, false, false, false, false, false, false, false, false, false, false, false, false, false, false, false]) 0 [] rfl (Y.move rfl) rfl rfl rfl (by kernel_rfl) (by kernel_rfl) (by kernel_rfl) rfl rfl ?_
        refine TA.y (listed' := #[true, true, false, false, false, false, false, false, false, false, false, false, false, false, false, false, false, false, false, false, false, false, false]) 1 [] rfl (Y.move rfl) rfl rfl rfl (by kernel_rfl) (by kernel_rfl) (by kernel_rfl) rfl rfl ?_
        refine TA.bind fun E8 H9 => ?_
        refine TA.y (listed' := #[true, true, true, false, false, false, false, false, false, false, false, false, false, false, false, false, false, false, false, false, false, false, false]) 2 [] rfl (Y.index ke80 (Base.can HB_V_l0) H9 rfl rfl) rfl rfl rfl (by kernel_rfl) (by kernel_rfl) (by kernel_rfl) rfl rfl ?_
        refine TA.y (listed' := #[true, true, true, true, false, false, false, false, false, false, false, false, false, false, false, false, false, false, false, false, false, false, false]) 3 [] rfl (Y.load_el (us := [strV E8.Key, .int .i64 E8.Seq, .bool E8.Del, strV E8.Val]) (u := .agg #[strV E8.Key, .int .i64 E8.Seq, .bool E8.Del, strV E8.Val]) kk130 rfl (Base.can HB_V_l0) (idx_get H9).2.2 rfl rfl rfl rfl rfl) rfl rfl rfl (by kernel_rfl) (by kernel_rfl) (by kernel_rfl) rfl rfl ?_
        refine TA.bind fun R10 H11 => ?_
        refine TA.one 4 (by kernel_rfl) ?_
        refine TX.ef (listed' := #[true, true, true, true, true, false, false, false, false, false, false, false, false, false, false, false, false, false, false, false, false, false, false]) [] rfl (Ef.call (rest := []) [] (spec_l9Ent_con E8  R10 H11) kc131 rfl rfl trivial) rfl rfl rfl rfl (fun _ => rfl) (fun _ => ?_)
        refine TA.y (listed' := #[true, true, true, true, true, true, false, false, false, false, false, false, false, false, false, false, false, false, false, false, false, false, false]) 5 [] rfl (Y.not rfl) rfl rfl rfl (by kernel_rfl) (by kernel_rfl) (by kernel_rfl) rfl rfl ?_
        refine TA.y (listed' := #[true, true, true, true, true, true, true, false, false, false, false, false, false, false, false, false, false, false, false, false, false, false, false]) 6 [] rfl (Y.move rfl) rfl rfl rfl (by kernel_rfl) (by kernel_rfl) (by kernel_rfl) rfl rfl ?_
        refine TA.ite (b := !R10) (fun H13 => ?_) (fun H13 => ?_)
        · refine TA.off (listed' := #[true, true, true, true, true, true, true, true, false, false, false, false, false, false, false, false, false, false, false, false, false, false, false]) 7 [] rfl (Gd.at 6 false 16 (!R10) rfl rfl rfl (beq_tf H13)) rfl rfl (by kernel_rfl) (by kernel_rfl) (by kernel_rfl) rfl rfl ?_
          refine TA.off (listed' := #[true, true, true, true, true, true, true, true, true, false, false, false, false, false, false, false, false, false, false, false, false, false, false]) 8 [] rfl (Gd.at 6 false 16 (!R10) rfl rfl rfl (beq_tf H13)) rfl rfl (by kernel_rfl) (by kernel_rfl) (by kernel_rfl) rfl rfl ?_
          refine TA.off (listed' := #[true, true, true, true, true, true, true, true, true, true, false, false, false, false, false, false, false, false, false, false, false, false, false]) 9 [] rfl (Gd.at 6 false 16 (!R10) rfl rfl rfl (beq_tf H13)) rfl rfl (by kernel_rfl) (by kernel_rfl) (by kernel_rfl) rfl rfl ?_
          refine TA.off (listed' := #[true, true, true, true, true, true, true, true, true, true, true, false, false, false, false, false, false, false, false, false, false, false, false]) 10 [] rfl (Gd.un 9 true 19 rfl rfl rfl) rfl rfl (by kernel_rfl) (by kernel_rfl) (by kernel_rfl) rfl rfl ?_
          refine TA.off (listed' := #[true, true, true, true, true, true, true, true, true, true, true, true, false, false, false, false, false, false, false, false, false, false, false]) 11 [] rfl (Gd.un 9 true 19 rfl rfl rfl) rfl rfl (by kernel_rfl) (by kernel_rfl) (by kernel_rfl) rfl rfl ?_
          refine TA.off (listed' := #[true, true, true, true, true, true, true, true, true, true, true, true, true, false, false, false, false, false, false, false, false, false, false]) 12 [] rfl (Gd.un 9 true 19 rfl rfl rfl) rfl rfl (by kernel_rfl) (by kernel_rfl) (by kernel_rfl) rfl rfl ?_
          refine TA.off (listed' := #[true, true, true, true, true, true, true, true, true, true, true, true, true, true, false, false, false, false, false, false, false, false, false]) 13 [] rfl (Gd.un 9 true 19 rfl rfl rfl) rfl rfl (by kernel_rfl) (by kernel_rfl) (by kernel_rfl) rfl rfl ?_
          refine TA.off (listed' := #[true, true, true, true, true, true, true, true, true, true, true, true, true, true, true, false, false, false, false, false, false, false, false]) 14 [] rfl (Gd.un 9 true 19 rfl rfl rfl) rfl rfl (by kernel_rfl) (by kernel_rfl) (by kernel_rfl) rfl rfl ?_
          refine TA.off (listed' := #[true, true, true, true, true, true, true, true, true, true, true, true, true, true, true, true, false, false, false, false, false, false, false]) 15 [] rfl (Gd.un 9 true 19 rfl rfl rfl) rfl rfl (by kernel_rfl) (by kernel_rfl) (by kernel_rfl) rfl rfl ?_
          refine TA.off (listed' := #[true, true, true, true, true, true, true, true, true, true, true, true, true, true, true, true, true, false, false, false, false, false, false]) 16 [] rfl (Gd.un 9 true 19 rfl rfl rfl) rfl rfl (by kernel_rfl) (by kernel_rfl) (by kernel_rfl) rfl rfl ?_
          refine TA.off (listed' := #[true, true, true, true, true, true, true, true, true, true, true, true, true, true, true, true, true, true, false, false, false, false, false]) 17 [] rfl (Gd.un 9 true 19 rfl rfl rfl) rfl rfl (by kernel_rfl) (by kernel_rfl) (by kernel_rfl) rfl rfl ?_
          refine TA.off (listed' := #[true, true, true, true, true, true, true, true, true, true, true, true, true, true, true, true, true, true, true, false, false, false, false]) 18 [] rfl (Gd.un 9 true 19 rfl rfl rfl) rfl rfl (by kernel_rfl) (by kernel_rfl) (by kernel_rfl) rfl rfl ?_
          refine TA.off (listed' := #[true, true, true, true, true, true, true, true, true, true, true, true, true, true, true, true, true, true, true, true, false, false, false]) 19 [] rfl (Gd.un 9 true 19 rfl rfl rfl) rfl rfl (by kernel_rfl) (by kernel_rfl) (by kernel_rfl) rfl rfl ?_
          refine TA.off (listed' := #[true, true, true, true, true, true, true, true, true, true, true, true, true, true, true, true, true, true, true, true, true, false, false]) 20 [] rfl (Gd.un 9 true 19 rfl rfl rfl) rfl rfl (by kernel_rfl) (by kernel_rfl) (by kernel_rfl) rfl rfl ?_
          refine TA.off (listed' := #[true, true, true, true, true, true, true, true, true, true, true, true, true, true, true, true, true, true, true, true, true, true, false]) 21 [] rfl (Gd.at 6 false 16 (!R10) rfl rfl rfl (beq_tf H13)) rfl rfl (by kernel_rfl) (by kernel_rfl) (by kernel_rfl) rfl rfl ?_
          refine TA.y (listed' := #[true, true, true, true, true, true, true, true, true, true, true, true, true, true, true, true, true, true, true, true, true, true, true]) 22 [] rfl (Y.pick_t H13 rfl rfl) rfl rfl rfl (by kernel_rfl) (by kernel_rfl) (by kernel_rfl) rfl rfl ?_
          refine TA.nil (by kernel_rfl) ?_
          exact TE.jb_go () [] ⟨rfl, rfl, rfl, trivial⟩ rfl
        · refine TA.y (listed' := #[true, true, true, true, true, true, true, true, false, false, false, false, false, false, false, false, false, false, false, false, false, false, false]) 7 [] rfl (Y.move rfl) (Gd.at 6 false 16 (!R10) rfl rfl rfl (beq_ff H13)) rfl rfl (by kernel_rfl) (by kernel_rfl) (by kernel_rfl) rfl rfl ?_
          refine TA.y (listed' := #[true, true, true, true, true, true, true, true, true, false, false, false, false, false, false, false, false, false, false, false, false, false, false]) 8 [] rfl (Y.gtr rfl rfl) (Gd.at 6 false 16 (!R10) rfl rfl rfl (beq_ff H13)) rfl rfl (by kernel_rfl) (by kernel_rfl) (by kernel_rfl) rfl rfl ?_
          refine TA.y (listed' := #[true, true, true, true, true, true, true, true, true, true, false, false, false, false, false, false, false, false, false, false, false, false, false]) 9 [] rfl (Y.move rfl) (Gd.at 6 false 16 (!R10) rfl rfl rfl (beq_ff H13)) rfl rfl (by kernel_rfl) (by kernel_rfl) (by kernel_rfl) rfl rfl ?_
          refine TA.ite (b := decide (S1 > (0 : Int))) (fun H14 => ?_) (fun H14 => ?_)
          · refine TA.y (listed' := #[true, true, true, true, true, true, true, true, true, true, true, false, false, false, false, false, false, false, false, false, false, false, false]) 10 [] rfl (Y.move rfl) (Gd.at 9 true 19 (decide (S1 > (0 : Int))) rfl rfl rfl (beq_tt H14)) rfl rfl (by kernel_rfl) (by kernel_rfl) (by kernel_rfl) rfl rfl ?_
            refine TA.y (listed' := #[true, true, true, true, true, true, true, true, true, true, true, true, false, false, false, false, false, false, false, false, false, false, false]) 11 [] rfl (Y.move rfl) (Gd.at 9 true 19 (decide (S1 > (0 : Int))) rfl rfl rfl (beq_tt H14)) rfl rfl (by kernel_rfl) (by kernel_rfl) (by kernel_rfl) rfl rfl ?_
            refine TA.y (listed' := #[true, true, true, true, true, true, true, true, true, true, true, true, true, false, false, false, false, false, false, false, false, false, false]) 12 [] rfl (Y.sub rfl rfl) (Gd.at 9 true 19 (decide (S1 > (0 : Int))) rfl rfl rfl (beq_tt H14)) rfl rfl (by kernel_rfl) (by kernel_rfl) (by kernel_rfl) rfl rfl ?_
            refine TA.bind fun E15 H16 => ?_
            refine TA.y (listed' := #[true, true, true, true, true, true, true, true, true, true, true, true, true, true, false, false, false, false, false, false, false, false, false]) 13 [] rfl (Y.index ke80 (Base.can HB_V_l0) H16 rfl rfl) (Gd.at 9 true 19 (decide (S1 > (0 : Int))) rfl rfl rfl (beq_tt H14)) rfl rfl (by kernel_rfl) (by kernel_rfl) (by kernel_rfl) rfl rfl ?_
            refine TA.y (listed' := #[true, true, true, true, true, true, true, true, true, true, true, true, true, true, true, false, false, false, false, false, false, false, false]) 14 [] rfl (Y.load_el (us := [strV E15.Key, .int .i64 E15.Seq, .bool E15.Del, strV E15.Val]) (u := .agg #[strV E15.Key, .int .i64 E15.Seq, .bool E15.Del, strV E15.Val]) kk130 rfl (Base.can HB_V_l0) (idx_get H16).2.2 rfl rfl rfl rfl rfl) (Gd.at 9 true 19 (decide (S1 > (0 : Int))) rfl rfl rfl (beq_tt H14)) rfl rfl (by kernel_rfl) (by kernel_rfl) (by kernel_rfl) rfl rfl ?_
            refine TA.y (listed' := #[true, true, true, true, true, true, true, true, true, true, true, true, true, true, true, true, false, false, false, false, false, false, false]) 15 [] rfl (Y.move rfl) (Gd.at 9 true 19 (decide (S1 > (0 : Int))) rfl rfl rfl (beq_tt H14)) rfl rfl (by kernel_rfl) (by kernel_rfl) (by kernel_rfl) rfl rfl ?_
            refine TA.y (listed' := #[true, true, true, true, true, true, true, true, true, true, true, true, true, true, true, true, true, false, false, false, false, false, false]) 16 [] rfl (Y.move rfl) (Gd.at 9 true 19 (decide (S1 > (0 : Int))) rfl rfl rfl (beq_tt H14)) rfl rfl (by kernel_rfl) (by kernel_rfl) (by kernel_rfl) rfl rfl ?_
            refine TA.y (listed' := #[true, true, true, true, true, true, true, true, true, true, true, true, true, true, true, true, true, true, false, false, false, false, false]) 17 [] rfl (Y.index ke80 (Base.can HB_V_l0) H9 rfl rfl) (Gd.at 9 true 19 (decide (S1 > (0 : Int))) rfl rfl rfl (beq_tt H14)) rfl rfl (by kernel_rfl) (by kernel_rfl) (by kernel_rfl) rfl rfl ?_
            refine TA.y (listed' := #[true, true, true, true, true, true, true, true, true, true, true, true, true, true, true, true, true, true, true, false, false, false, false]) 18 [] rfl (Y.load_el (us := [strV E8.Key, .int .i64 E8.Seq, .bool E8.Del, strV E8.Val]) (u := .agg #[strV E8.Key, .int .i64 E8.Seq, .bool E8.Del, strV E8.Val]) kk130 rfl (Base.can HB_V_l0) (idx_get H9).2.2 rfl rfl rfl rfl rfl) (Gd.at 9 true 19 (decide (S1 > (0 : Int))) rfl rfl rfl (beq_tt H14)) rfl rfl (by kernel_rfl) (by kernel_rfl) (by kernel_rfl) rfl rfl ?_
            refine TA.bind fun R17 H18 => ?_
            refine TA.one 19 (by kernel_rfl) ?_
            refine TX.ef (listed' := #[true, true, true, true, true, true, true, true, true, true, true, true, true, true, true, true, true, true, true, true, false, false, false]) [] rfl (Ef.call (rest := []) [] (spec_l9Ahead_con E15 E8  R17 H18) kc132 rfl rfl trivial) (Gd.at 9 true 19 (decide (S1 > (0 : Int))) rfl rfl rfl (beq_tt H14)) rfl rfl rfl (fun _ => rfl) (fun _ => ?_)
            refine TA.y (listed' := #[true, true, true, true, true, true, true, true, true, true, true, true, true, true, true, true, true, true, true, true, true, false, false]) 20 [] rfl (Y.not rfl) (Gd.at 9 true 19 (decide (S1 > (0 : Int))) rfl rfl rfl (beq_tt H14)) rfl rfl (by kernel_rfl) (by kernel_rfl) (by kernel_rfl) rfl rfl ?_
            refine TA.y (listed' := #[true, true, true, true, true, true, true, true, true, true, true, true, true, true, true, true, true, true, true, true, true, true, false]) 21 [] rfl (Y.pick_t H14 rfl rfl) (Gd.at 6 false 16 (!R10) rfl rfl rfl (beq_ff H13)) rfl rfl (by kernel_rfl) (by kernel_rfl) (by kernel_rfl) rfl rfl ?_
            refine TA.y (listed' := #[true, true, true, true, true, true, true, true, true, true, true, true, true, true, true, true, true, true, true, true, true, true, true]) 22 [] rfl (Y.pick_f H13 rfl rfl) rfl rfl rfl (by kernel_rfl) (by kernel_rfl) (by kernel_rfl) rfl rfl ?_
            refine TA.nil (by kernel_rfl) ?_
            exact TE.jb_go () [] ⟨rfl, rfl, rfl, trivial⟩ rfl
          · refine TA.off (listed' := #[true, true, true, true, true, true, true, true, true, true, true, false, false, false, false, false, false, false, false, false, false, false, false]) 10 [] rfl (Gd.at 9 true 19 (decide (S1 > (0 : Int))) rfl rfl rfl (beq_ft H14)) rfl rfl (by kernel_rfl) (by kernel_rfl) (by kernel_rfl) rfl rfl ?_
            refine TA.off (listed' := #[true, true, true, true, true, true, true, true, true, true, true, true, false, false, false, false, false, false, false, false, false, false, false]) 11 [] rfl (Gd.at 9 true 19 (decide (S1 > (0 : Int))) rfl rfl rfl (beq_ft H14)) rfl rfl (by kernel_rfl) (by kernel_rfl) (by kernel_rfl) rfl rfl ?_
            refine TA.off (listed' := #[true, true, true, true, true, true, true, true, true, true, true, true, true, false, false, false, false, false, false, false, false, false, false]) 12 [] rfl (Gd.at 9 true 19 (decide (S1 > (0 : Int))) rfl rfl rfl (beq_ft H14)) rfl rfl (by kernel_rfl) (by kernel_rfl) (by kernel_rfl) rfl rfl ?_
            refine TA.off (listed' := #[true, true, true, true, true, true, true, true, true, true, true, true, true, true, false, false, false, false, false, false, false, false, false]) 13 [] rfl (Gd.at 9 true 19 (decide (S1 > (0 : Int))) rfl rfl rfl (beq_ft H14)) rfl rfl (by kernel_rfl) (by kernel_rfl) (by kernel_rfl) rfl rfl ?_
            refine TA.off (listed' := #[true, true, true, true, true, true, true, true, true, true, true, true, true, true, true, false, false, false, false, false, false, false, false]) 14 [] rfl (Gd.at 9 true 19 (decide (S1 > (0 : Int))) rfl rfl rfl (beq_ft H14)) rfl rfl (by kernel_rfl) (by kernel_rfl) (by kernel_rfl) rfl rfl ?_
            refine TA.off (listed' := #[true, true, true, true, true, true, true, true, true, true, true, true, true, true, true, true, false, false, false, false, false, false, false]) 15 [] rfl (Gd.at 9 true 19 (decide (S1 > (0 : Int))) rfl rfl rfl (beq_ft H14)) rfl rfl (by kernel_rfl) (by kernel_rfl) (by kernel_rfl) rfl rfl ?_
            refine TA.off (listed' := #[true, true, true, true, true, true, true, true, true, true, true, true, true, true, true, true, true, false, false, false, false, false, false]) 16 [] rfl (Gd.at 9 true 19 (decide (S1 > (0 : Int))) rfl rfl rfl (beq_ft H14)) rfl rfl (by kernel_rfl) (by kernel_rfl) (by kernel_rfl) rfl rfl ?_
            refine TA.off (listed' := #[true, true, true, true, true, true, true, true, true, true, true, true, true, true, true, true, true, true, false, false, false, false, false]) 17 [] rfl (Gd.at 9 true 19 (decide (S1 > (0 : Int))) rfl rfl rfl (beq_ft H14)) rfl rfl (by kernel_rfl) (by kernel_rfl) (by kernel_rfl) rfl rfl ?_
            refine TA.off (listed' := #[true, true, true, true, true, true, true, true, true, true, true, true, true, true, true, true, true, true, true, false, false, false, false]) 18 [] rfl (Gd.at 9 true 19 (decide (S1 > (0 : Int))) rfl rfl rfl (beq_ft H14)) rfl rfl (by kernel_rfl) (by kernel_rfl) (by kernel_rfl) rfl rfl ?_
            refine TA.off (listed' := #[true, true, true, true, true, true, true, true, true, true, true, true, true, true, true, true, true, true, true, true, false, false, false]) 19 [] rfl (Gd.at 9 true 19 (decide (S1 > (0 : Int))) rfl rfl rfl (beq_ft H14)) rfl rfl (by kernel_rfl) (by kernel_rfl) (by kernel_rfl) rfl rfl ?_
            refine TA.off (listed' := #[true, true, true, true, true, true, true, true, true, true, true, true, true, true, true, true, true, true, true, true, true, false, false]) 20 [] rfl (Gd.at 9 true 19 (decide (S1 > (0 : Int))) rfl rfl rfl (beq_ft H14)) rfl rfl (by kernel_rfl) (by kernel_rfl) (by kernel_rfl) rfl rfl ?_
            refine TA.y (listed' := #[true, true, true, true, true, true, true, true, true, true, true, true, true, true, true, true, true, true, true, true, true, true, false]) 21 [] rfl (Y.pick_f H14 rfl rfl) (Gd.at 6 false 16 (!R10) rfl rfl rfl (beq_ff H13)) rfl rfl (by kernel_rfl) (by kernel_rfl) (by kernel_rfl) rfl rfl ?_
            refine TA.y (listed' := #[true, true, true, true, true, true, true, true, true, true, true, true, true, true, true, true, true, true, true, true, true, true, true]) 22 [] rfl (Y.pick_f H13 rfl rfl) rfl rfl rfl (by kernel_rfl) (by kernel_rfl) (by kernel_rfl) rfl rfl ?_
            refine TA.nil (by kernel_rfl) ?_
            exact TE.jb_go () [] ⟨rfl, rfl, rfl, trivial⟩ rfl
      · refine TE.next ?_
        refine TW.cond rfl (fun H20 => ?_) (fun H20 => ?_)
        · refine TW.seq ?_
          refine TW.region ?_
          refine TO.y (Y.assign rfl) rfl rfl rfl ?_
          refine TO.nil ?_
          refine TE.next ?_
          refine TW.ret ?_
          refine TE.block_ret ?_
          refine TE.then_ret ?_
          refine TE.lp_ret ?_
          refine TE.block_ret ?_
          refine TE.jn_done ?_
          refine TE.then_ret ?_
          exact TE.leaf fun _ _ hf_ hs_ => ret_any (rs := [.tmp 2]) (vs := [.bool false]) (.inl rfl) rfl ⟨rfl, trivial⟩ hf_ hs_ ⟨(), rfl, hs_.pulls [] rfl⟩
        · refine TW.skip ?_
          refine TE.block_normal ?_
          refine TE.next ?_
          refine TW.region ?_
          refine TO.y (Y.move rfl) rfl rfl rfl ?_
          refine TO.y (Y.add rfl rfl) rfl rfl rfl ?_
          refine TO.y (Y.assign rfl) rfl rfl rfl ?_
          refine TO.nil ?_
          exact TE.lp_go () [] ⟨rfl, rfl, trivial⟩ rfl
    · refine TW.exit ?_
      refine TE.then_exit ?_
      refine TE.lp_exit ?_
      refine TE.block_exit ?_
      exact TE.jn_go () [] trivial rfl
  · refine TE.next ?_
    refine TW.seq ?_
    refine TW.region ?_
    refine TO.y (Y.assign rfl) rfl rfl rfl ?_
    refine TO.nil ?_
    refine TE.next ?_
    refine TW.ret ?_
    exact TE.leaf fun _ _ hf_ hs_ => ret_any (rs := [.tmp 2]) (vs := [.bool true]) (.inl rfl) rfl ⟨rfl, trivial⟩ hf_ hs_ ⟨(), rfl, hs_.pulls [] rfl⟩

/-- loop.example/g00950/spec.l9Get -/
noncomputable def spec_l9Get (l : List Ent) (key : List UInt8) (seq : Int) : Option (Ent × Bool) :=
  bindC (loopO (fun (S2 : Int) => if (decide (S2 < ((l.length : Nat) : Int))) = true then (((idx l S2).bind fun E9 =>
  if (decide (E9.Key = key)) = true then (some (decide (E9.Seq ≤ seq)))
  else (some false)).bind (fun (T7 : Bool) =>
  if T7 = true then ((idx l S2).bind fun E13 =>
  some (.done (.done (E13, true))))
  else (some (.go (IntKind.i64.wrap (S2 + (1 : Int)))))))
  else (some (.done (.go ()))))
  (0 : Int))
  (fun (T4 : Unit) => some ({ Key := [], Seq := (0 : Int), Del := false, Val := [] : Ent }, false))

theorem spec_l9Get_con (l : List Ent) (key : List UInt8) (seq : Int) (V_l0 : Value) (r : Ent × Bool) (hm : spec_l9Get l key seq = some r) :
    Con Try.prog 133 [V_l0, strV key, .int .i64 seq] [] [(V_l0, lc l)] (fun _ : Unit => .tuple #[.agg #[strV r.1.Key, .int .i64 r.1.Seq, .bool r.1.Del, strV r.1.Val], .bool r.2]) (fun _ => []) := by
  refine Con.intro (args := [V_l0, strV key, .int .i64 seq]) (n := 36) (val := fun r (_ : Unit) => .tuple #[.agg #[strV r.1.Key, .int .i64 r.1.Seq, .bool r.1.Del, strV r.1.Val], .bool r.2]) (post := fun _ _ => []) (m := spec_l9Get l key seq) Try.func133 rfl rfl rfl hm ?_
  intro w S hrd
  have HB_V_l0 := hrd _ (.head _)
  clear hrd
  unfold spec_l9Get
  refine TW.seq ?_
  refine TW.region ?_
  refine TO.ef (Ef.alloc kz130 rfl) rfl rfl rfl (fun B1 => ?_)
  refine TO.y (Y.assign rfl) rfl rfl rfl ?_
  refine TO.nil ?_
  refine TE.next ?_
  refine TW.seq ?_
  refine TW.seq ?_
  refine TW.region ?_
  refine TO.y (Y.assign rfl) rfl rfl rfl ?_
  refine TO.nil ?_
  refine TE.next ?_
  refine TW.joinX (τ := Unit) (X := Unit) (fun _ _ => [(6, .pointer (some ⟨B1, 0, none⟩))]) (fun _ _ => [.box B1 130 [strV ([]), .int .i64 (0 : Int), .bool false, strV ([])]]) ?_ (fun T4 X5 => ?_)
  · refine TW.block ?_
    refine TW.loopX (σ := Int) (X := Unit) (fun T _ => [(0, V_l0), (1, strV key), (2, .int .i64 seq), (6, .pointer (some ⟨B1, 0, none⟩)), (8, .int .i64 T)]) (fun _ _ => [.box B1 130 [strV ([]), .int .i64 (0 : Int), .bool false, strV ([])]]) () [0] ⟨rfl, rfl, rfl, rfl, rfl, trivial⟩ rfl (fun S2 X3 => ?_)
    refine TW.seq ?_
    refine TW.seq ?_
    refine TW.region ?_
    refine TO.y (Y.move rfl) rfl rfl rfl ?_
    refine TO.y (Y.move rfl) rfl rfl rfl ?_
    refine TO.y (Y.len (l := l) ke80 (Base.can HB_V_l0) rfl) rfl rfl rfl ?_
    refine TO.y (Y.lss rfl rfl) rfl rfl rfl ?_
    refine TO.nil ?_
    refine TE.next ?_
    refine TW.cond rfl (fun H6 => ?_) (fun H6 => ?_)
    · refine TW.skip ?_
      refine TE.next ?_
      refine TW.seq ?_
      refine TW.block ?_
      refine TW.seq ?_
      refine TW.joinBX (τ := Bool) (X := Unit) (fun T _ => [(0, V_l0), (1, strV key), (2, .int .i64 seq), (6, .pointer (some ⟨B1, 0, none⟩)), (8, .int .i64 S2), (30, .bool T)]) (fun _ _ => [.box B1 130 [strV ([]), .int .i64 (0 : Int), .bool false, strV ([])]]) ?_ (fun T7 X8 => ?_)
      · refine TW.region ?_
        refine TO.y (Y.move rfl) rfl rfl rfl ?_
        refine TO.y (Y.move rfl) rfl rfl rfl ?_
        refine TO.bind fun E9 H10 => ?_
        refine TO.y (Y.index ke80 (Base.can HB_V_l0) H10 rfl rfl) rfl rfl rfl ?_
        refine TO.y (Y.field_el kf130_0 (Base.can HB_V_l0) (idx_get H10).2.2 rfl rfl) rfl rfl rfl ?_
        refine TO.y (Y.load_el (us := [strV E9.Key]) (u := strV E9.Key) kk9 rfl (Base.can HB_V_l0) (idx_get H10).2.2 rfl rfl rfl rfl rfl) rfl rfl rfl ?_
        refine TO.y (Y.move rfl) rfl rfl rfl ?_
        refine TO.y (Y.seql rfl rfl) rfl rfl rfl ?_
        refine TO.y (Y.move rfl) rfl rfl rfl ?_
        refine TO.ite (b := decide (E9.Key = key)) (fun H11 => ?_) (fun H11 => ?_)
        · refine TO.y (Y.move rfl) (Gd.at 7 true 22 (decide (E9.Key = key)) rfl rfl rfl (beq_tt H11)) rfl rfl ?_
          refine TO.y (Y.move rfl) (Gd.at 7 true 22 (decide (E9.Key = key)) rfl rfl rfl (beq_tt H11)) rfl rfl ?_
          refine TO.y (Y.index ke80 (Base.can HB_V_l0) H10 rfl rfl) (Gd.at 7 true 22 (decide (E9.Key = key)) rfl rfl rfl (beq_tt H11)) rfl rfl ?_
          refine TO.y (Y.field_el kf130_1 (Base.can HB_V_l0) (idx_get H10).2.2 rfl rfl) (Gd.at 7 true 22 (decide (E9.Key = key)) rfl rfl rfl (beq_tt H11)) rfl rfl ?_
          refine TO.y (Y.load_el (us := [.int .i64 E9.Seq]) (u := .int .i64 E9.Seq) kk3 rfl (Base.can HB_V_l0) (idx_get H10).2.2 rfl rfl rfl rfl rfl) (Gd.at 7 true 22 (decide (E9.Key = key)) rfl rfl rfl (beq_tt H11)) rfl rfl ?_
          refine TO.y (Y.move rfl) (Gd.at 7 true 22 (decide (E9.Key = key)) rfl rfl rfl (beq_tt H11)) rfl rfl ?_
          refine TO.y (Y.leq rfl rfl) (Gd.at 7 true 22 (decide (E9.Key = key)) rfl rfl rfl (beq_tt H11)) rfl rfl ?_
          refine TO.y (Y.pick_t H11 rfl rfl) rfl rfl rfl ?_
          refine TO.nil ?_
          exact TE.jb_go () [0] ⟨rfl, rfl, rfl, rfl, rfl, rfl, trivial⟩ rfl
        · refine TO.off (Gd.at 7 true 22 (decide (E9.Key = key)) rfl rfl rfl (beq_ft H11)) rfl rfl ?_
          refine TO.off (Gd.at 7 true 22 (decide (E9.Key = key)) rfl rfl rfl (beq_ft H11)) rfl rfl ?_
          refine TO.off (Gd.at 7 true 22 (decide (E9.Key = key)) rfl rfl rfl (beq_ft H11)) rfl rfl ?_
          refine TO.off (Gd.at 7 true 22 (decide (E9.Key = key)) rfl rfl rfl (beq_ft H11)) rfl rfl ?_
          refine TO.off (Gd.at 7 true 22 (decide (E9.Key = key)) rfl rfl rfl (beq_ft H11)) rfl rfl ?_
          refine TO.off (Gd.at 7 true 22 (decide (E9.Key = key)) rfl rfl rfl (beq_ft H11)) rfl rfl ?_
          refine TO.off (Gd.at 7 true 22 (decide (E9.Key = key)) rfl rfl rfl (beq_ft H11)) rfl rfl ?_
          refine TO.y (Y.pick_f H11 rfl rfl) rfl rfl rfl ?_
          refine TO.nil ?_
          exact TE.jb_go () [0] ⟨rfl, rfl, rfl, rfl, rfl, rfl, trivial⟩ rfl
      · refine TE.next ?_
        refine TW.cond rfl (fun H12 => ?_) (fun H12 => ?_)
        · refine TW.seq ?_
          refine TW.region ?_
          refine TO.y (Y.move rfl) rfl rfl rfl ?_
          refine TO.y (Y.move rfl) rfl rfl rfl ?_
          refine TO.bind fun E13 H14 => ?_
          refine TO.y (Y.index ke80 (Base.can HB_V_l0) H14 rfl rfl) rfl rfl rfl ?_
          refine TO.y (Y.load_el (us := [strV E13.Key, .int .i64 E13.Seq, .bool E13.Del, strV E13.Val]) (u := .agg #[strV E13.Key, .int .i64 E13.Seq, .bool E13.Del, strV E13.Val]) kk130 rfl (Base.can HB_V_l0) (idx_get H14).2.2 rfl rfl rfl rfl rfl) rfl rfl rfl ?_
          refine TO.ef0 (Ef.store_box (us := [strV E13.Key, .int .i64 E13.Seq, .bool E13.Del, strV E13.Val]) (vs' := [strV E13.Key, .int .i64 E13.Seq, .bool E13.Del, strV E13.Val]) (is' := [.box B1 130 [strV E13.Key, .int .i64 E13.Seq, .bool E13.Del, strV E13.Val]]) 0 kk130 rfl rfl rfl (Cel.plain rfl rfl) rfl rfl rfl rfl) rfl rfl (fun _ => ?_)
          refine TO.y (Y.assign rfl) rfl rfl rfl ?_
          refine TO.nil ?_
          refine TE.next ?_
          refine TW.ret ?_
          refine TE.block_ret ?_
          refine TE.then_ret ?_
          refine TE.lp_ret ?_
          refine TE.block_ret ?_
          refine TE.jn_done ?_
          refine TE.then_ret ?_
          exact TE.leaf fun _ _ hf_ hs_ => ret_any (rs := [.cell 6 130, .tmp 7]) (vs := [.agg #[strV E13.Key, .int .i64 E13.Seq, .bool E13.Del, strV E13.Val], .bool true]) (.inl rfl) rfl (RV.cell 0 rfl rfl kk130 rfl ⟨rfl, trivial⟩) hf_ hs_ ⟨(), rfl, hs_.pulls [] rfl⟩
        · refine TW.skip ?_
          refine TE.block_normal ?_
          refine TE.next ?_
          refine TW.region ?_
          refine TO.y (Y.move rfl) rfl rfl rfl ?_
          refine TO.y (Y.add rfl rfl) rfl rfl rfl ?_
          refine TO.y (Y.assign rfl) rfl rfl rfl ?_
          refine TO.nil ?_
          exact TE.lp_go () [0] ⟨rfl, rfl, rfl, rfl, rfl, trivial⟩ rfl
    · refine TW.exit ?_
      refine TE.then_exit ?_
      refine TE.lp_exit ?_
      refine TE.block_exit ?_
      exact TE.jn_go () [0] ⟨rfl, trivial⟩ rfl
  · refine TE.next ?_
    refine TW.seq ?_
    refine TW.region ?_
    refine TO.y (Y.build (cells := [strV ([]), .int .i64 (0 : Int), .bool false, strV ([])]) [] kp130 kz130 trivial rfl) rfl rfl rfl ?_
    refine TO.ef0 (Ef.store_box (us := [strV ([]), .int .i64 (0 : Int), .bool false, strV ([])]) (vs' := [strV ([]), .int .i64 (0 : Int), .bool false, strV ([])]) (is' := [.box B1 130 [strV ([]), .int .i64 (0 : Int), .bool false, strV ([])]]) 0 kk130 rfl rfl rfl (Cel.plain rfl rfl) rfl rfl rfl rfl) rfl rfl (fun _ => ?_)
    refine TO.y (Y.assign rfl) rfl rfl rfl ?_
    refine TO.nil ?_
    refine TE.next ?_
    refine TW.ret ?_
    exact TE.leaf fun _ _ hf_ hs_ => ret_any (rs := [.cell 6 130, .tmp 7]) (vs := [.agg #[strV ([]), .int .i64 (0 : Int), .bool false, strV ([])], .bool false]) (.inl rfl) rfl (RV.cell 0 rfl rfl kk130 rfl ⟨rfl, trivial⟩) hf_ hs_ ⟨(), rfl, hs_.pulls [] rfl⟩

/-- loop.example/g00950/spec.l9Map -/
noncomputable def spec_l9Map (l : List Ent) (seq : Int) : Option (List KV) :=
  bindC (loopO (fun (S2 : Int × List KV) => if (decide (S2.1 < ((l.length : Nat) : Int))) = true then ((idx l S2.1).bind fun E7 =>
  (spec_l9Get l E7.Key seq).bind fun R9 =>
  (if R9.2 = true then (if (!R9.1.Del) = true then (some (decide (R9.1.Seq = E7.Seq)))
  else (some false))
  else (some false)).bind (fun (T13 : Bool) =>
  bindC (if T13 = true then ((app 32 S2.2 ([{ Key := R9.1.Key, Val := R9.1.Val : KV }])).bind fun E22 =>
  some (.go E22))
  else (some (.go S2.2)))
  (fun (T17 : List KV) => some (.go (IntKind.i64.wrap (S2.1 + (1 : Int)), T17)))))
  else (some (.done (.go S2.2))))
  ((0 : Int), ([] : List KV)))
  (fun (T4 : List KV) => some T4)

theorem spec_l9Map_con (l : List Ent) (seq : Int) (V_l0 : Value) (r : List KV) (hm : spec_l9Map l seq = some r) :
    Con Try.prog 104 [V_l0, .int .i64 seq] [] [(V_l0, lc l)] (fun X : Value => X) (fun X => [.own X (lc r)]) := by
  refine Con.intro (args := [V_l0, .int .i64 seq]) (n := 52) (val := fun _ (X : Value) => X) (post := fun r X => [.own X (lc r)]) (m := spec_l9Map l seq) Try.func104 rfl rfl rfl hm ?_
  intro w S hrd
  have HB_V_l0 := hrd _ (.head _)
  clear hrd
  unfold spec_l9Map
  refine TW.seq ?_
  refine TW.region ?_
  refine TO.y (Y.assign rfl) rfl rfl rfl ?_
  refine TO.nil ?_
  refine TE.next ?_
  refine TW.seq ?_
  refine TW.region ?_
  refine TO.ef (Ef.buildSlice (α := KV) (Vs := []) ([] : List KV) ke61 kz70 rfl rfl rfl rfl rfl) rfl rfl rfl (fun B1 => ?_)
  refine TO.y (Y.assign rfl) rfl rfl rfl ?_
  refine TO.nil ?_
  refine TE.next ?_
  refine TW.seq ?_
  refine TW.seq ?_
  refine TW.region ?_
  refine TO.y (Y.assign rfl) rfl rfl rfl ?_
  refine TO.nil ?_
  refine TE.next ?_
  refine TW.joinX (τ := List KV) (X := Value) (fun _ X => [(5, X)]) (fun T X => [.own X (lc T)]) ?_ (fun T4 X5 => ?_)
  · refine TW.block ?_
    refine TW.loopX (σ := Int × List KV) (X := Value) (fun T X => [(0, V_l0), (1, .int .i64 seq), (5, X), (6, .int .i64 T.1)]) (fun T X => [.own X (lc T.2)]) (.slice (some ⟨B1, 0, none⟩) 0 0) [0] ⟨rfl, rfl, rfl, rfl, trivial⟩ rfl (fun S2 X3 => ?_)
    refine TW.seq ?_
    refine TW.seq ?_
    refine TW.region ?_
    refine TO.y (Y.move rfl) rfl rfl rfl ?_
    refine TO.y (Y.move rfl) rfl rfl rfl ?_
    refine TO.y (Y.len (l := l) ke80 (Base.can HB_V_l0) rfl) rfl rfl rfl ?_
    refine TO.y (Y.lss rfl rfl) rfl rfl rfl ?_
    refine TO.nil ?_
    refine TE.next ?_
    refine TW.cond rfl (fun H6 => ?_) (fun H6 => ?_)
    · refine TW.skip ?_
      refine TE.next ?_
      refine TW.seq ?_
      refine TW.block ?_
      refine TW.seq ?_
      refine TW.region ?_
      refine TO.y (Y.move rfl) rfl rfl rfl ?_
      refine TO.y (Y.move rfl) rfl rfl rfl ?_
      refine TO.y (Y.move rfl) rfl rfl rfl ?_
      refine TO.bind fun E7 H8 => ?_
      refine TO.y (Y.index ke80 (Base.can HB_V_l0) H8 rfl rfl) rfl rfl rfl ?_
      refine TO.y (Y.field_el kf130_0 (Base.can HB_V_l0) (idx_get H8).2.2 rfl rfl) rfl rfl rfl ?_
      refine TO.y (Y.load_el (us := [strV E7.Key]) (u := strV E7.Key) kk9 rfl (Base.can HB_V_l0) (idx_get H8).2.2 rfl rfl rfl rfl rfl) rfl rfl rfl ?_
      refine TO.y (Y.move rfl) rfl rfl rfl ?_
      refine TO.bind fun R9 H10 => ?_
      refine TO.ef (Ef.call (rest := [.own X3 (lc S2.2)]) [0] (spec_l9Get_con l E7.Key seq V_l0 R9 H10) kc133 rfl rfl ⟨(Base.can HB_V_l0), trivial⟩) rfl rfl rfl (fun _ => ?_)
      refine TO.y (Y.move rfl) rfl rfl rfl ?_
      refine TO.y (Y.extract rfl rfl) rfl rfl rfl ?_
      refine TO.y (Y.extract rfl rfl) rfl rfl rfl ?_
      refine TO.ef (Ef.alloc kz130 rfl) rfl rfl rfl (fun B12 => ?_)
      refine TO.ef0 (Ef.store_box (us := [strV R9.1.Key, .int .i64 R9.1.Seq, .bool R9.1.Del, strV R9.1.Val]) (vs' := [strV R9.1.Key, .int .i64 R9.1.Seq, .bool R9.1.Del, strV R9.1.Val]) (is' := [.box B12 130 [strV R9.1.Key, .int .i64 R9.1.Seq, .bool R9.1.Del, strV R9.1.Val], .own X3 (lc S2.2)]) 0 kk130 rfl rfl rfl (Cel.plain rfl rfl) rfl rfl rfl rfl) rfl rfl (fun _ => ?_)
      refine TO.y (Y.assign rfl) rfl rfl rfl ?_
      refine TO.nil ?_
      refine TE.next ?_
      refine TW.seq ?_
      refine TW.joinBX (τ := Bool) (X := Unit) (fun T _ => [(0, V_l0), (1, .int .i64 seq), (5, X3), (6, .int .i64 S2.1), (7, .pointer (some ⟨B12, 0, none⟩)), (42, .bool T)]) (fun _ _ => [.box B12 130 [strV R9.1.Key, .int .i64 R9.1.Seq, .bool R9.1.Del, strV R9.1.Val], .own X3 (lc S2.2)]) ?_ (fun T13 X14 => ?_)
      · refine TW.draw (isH := [.box B12 130 [strV R9.1.Key, .int .i64 R9.1.Seq, .bool R9.1.Del, strV R9.1.Val], .own X3 (lc S2.2)]) hMix ?_
        refine TA.y (listed' := #[true, false, false, false, false, false, false, false, false, false, false, false, false, false, false, false]) 0 [0, 0] rfl (Y.move rfl) rfl rfl rfl (by kernel_rfl) (by kernel_rfl) (by kernel_rfl) rfl rfl ?_
        refine TA.y (listed' := #[true, true, false, false, false, false, false, false, false, false, false, false, false, false, false, false]) 1 [0, 0] rfl (Y.move rfl) rfl rfl rfl (by kernel_rfl) (by kernel_rfl) (by kernel_rfl) rfl rfl ?_
        refine TA.ite (b := R9.2) (fun H15 => ?_) (fun H15 => ?_)
        · refine TA.y (listed' := #[true, true, true, false, false, false, false, false, false, false, false, false, false, false, false, false]) 2 [0, 0] rfl (Y.field_box kf130_2 rfl rfl) (Gd.at 1 true 28 R9.2 rfl rfl rfl (beq_tt H15)) rfl rfl (by kernel_rfl) (by kernel_rfl) (by kernel_rfl) rfl rfl ?_
          refine TA.y (listed' := #[true, true, true, true, false, false, false, false, false, false, false, false, false, false, false, false]) 3 [0, 0] rfl (Y.load_box (v := .bool R9.1.Del) 0 kk4 rfl rfl rfl) (Gd.at 1 true 28 R9.2 rfl rfl rfl (beq_tt H15)) rfl rfl (by kernel_rfl) (by kernel_rfl) (by kernel_rfl) rfl rfl ?_
          refine TA.y (listed' := #[true, true, true, true, true, false, false, false, false, false, false, false, false, false, false, false]) 4 [0, 0] rfl (Y.not rfl) (Gd.at 1 true 28 R9.2 rfl rfl rfl (beq_tt H15)) rfl rfl (by kernel_rfl) (by kernel_rfl) (by kernel_rfl) rfl rfl ?_
          refine TA.y (listed' := #[true, true, true, true, true, true, false, false, false, false, false, false, false, false, false, false]) 5 [0, 0] rfl (Y.pick_t H15 rfl rfl) rfl rfl rfl (by kernel_rfl) (by kernel_rfl) (by kernel_rfl) rfl rfl ?_
          refine TA.y (listed' := #[true, true, true, true, true, true, true, false, false, false, false, false, false, false, false, false]) 6 [0, 0] rfl (Y.move rfl) rfl rfl rfl (by kernel_rfl) (by kernel_rfl) (by kernel_rfl) rfl rfl ?_
          refine TA.ite (b := !R9.1.Del) (fun H16 => ?_) (fun H16 => ?_)
          · refine TA.y (listed' := #[true, true, true, true, true, true, true, true, false, false, false, false, false, false, false, false]) 7 [0, 0] rfl (Y.field_box kf130_1 rfl rfl) (Gd.at 6 true 33 (!R9.1.Del) rfl rfl rfl (beq_tt H16)) rfl rfl (by kernel_rfl) (by kernel_rfl) (by kernel_rfl) rfl rfl ?_
            refine TA.y (listed' := #[true, true, true, true, true, true, true, true, true, false, false, false, false, false, false, false]) 8 [0, 0] rfl (Y.load_box (v := .int .i64 R9.1.Seq) 0 kk3 rfl rfl rfl) (Gd.at 6 true 33 (!R9.1.Del) rfl rfl rfl (beq_tt H16)) rfl rfl (by kernel_rfl) (by kernel_rfl) (by kernel_rfl) rfl rfl ?_
            refine TA.y (listed' := #[true, true, true, true, true, true, true, true, true, true, false, false, false, false, false, false]) 9 [0, 0] rfl (Y.move rfl) (Gd.at 6 true 33 (!R9.1.Del) rfl rfl rfl (beq_tt H16)) rfl rfl (by kernel_rfl) (by kernel_rfl) (by kernel_rfl) rfl rfl ?_
            refine TA.y (listed' := #[true, true, true, true, true, true, true, true, true, true, true, false, false, false, false, false]) 10 [0, 0] rfl (Y.move rfl) (Gd.at 6 true 33 (!R9.1.Del) rfl rfl rfl (beq_tt H16)) rfl rfl (by kernel_rfl) (by kernel_rfl) (by kernel_rfl) rfl rfl ?_
            refine TA.y (listed' := #[true, true, true, true, true, true, true, true, true, true, true, true, false, false, false, false]) 11 [0, 0] rfl (Y.index ke80 (Base.can HB_V_l0) H8 rfl rfl) (Gd.at 6 true 33 (!R9.1.Del) rfl rfl rfl (beq_tt H16)) rfl rfl (by kernel_rfl) (by kernel_rfl) (by kernel_rfl) rfl rfl ?_
            refine TA.y (listed' := #[true, true, true, true, true, true, true, true, true, true, true, true, true, false, false, false]) 12 [0, 0] rfl (Y.field_el kf130_1 (Base.can HB_V_l0) (idx_get H8).2.2 rfl rfl) (Gd.at 6 true 33 (!R9.1.Del) rfl rfl rfl (beq_tt H16)) rfl rfl (by kernel_rfl) (by kernel_rfl) (by kernel_rfl) rfl rfl ?_
            refine TA.y (listed' := #[true, true, true, true, true, true, true, true, true, true, true, true, true, true, false, false]) 13 [0, 0] rfl (Y.load_el (us := [.int .i64 E7.Seq]) (u := .int .i64 E7.Seq) kk3 rfl (Base.can HB_V_l0) (idx_get H8).2.2 rfl rfl rfl rfl rfl) (Gd.at 6 true 33 (!R9.1.Del) rfl rfl rfl (beq_tt H16)) rfl rfl (by kernel_rfl) (by kernel_rfl) (by kernel_rfl) rfl rfl ?_
            refine TA.y (listed' := #[true, true, true, true, true, true, true, true, true, true, true, true, true, true, true, false]) 14 [0, 0] rfl (Y.eql rfl rfl) (Gd.at 6 true 33 (!R9.1.Del) rfl rfl rfl (beq_tt H16)) rfl rfl (by kernel_rfl) (by kernel_rfl) (by kernel_rfl) rfl rfl ?_
            refine TA.y (listed' := #[true, true, true, true, true, true, true, true, true, true, true, true, true, true, true, true]) 15 [0, 0] rfl (Y.pick_t H16 rfl rfl) rfl rfl rfl (by kernel_rfl) (by kernel_rfl) (by kernel_rfl) rfl rfl ?_
            refine TA.nil (by kernel_rfl) ?_
            exact TE.jb_go () [0, 0] ⟨rfl, rfl, rfl, rfl, rfl, rfl, trivial⟩ rfl
          · refine TA.off (listed' := #[true, true, true, true, true, true, true, true, false, false, false, false, false, false, false, false]) 7 [0, 0] rfl (Gd.at 6 true 33 (!R9.1.Del) rfl rfl rfl (beq_ft H16)) rfl rfl (by kernel_rfl) (by kernel_rfl) (by kernel_rfl) rfl rfl ?_
            refine TA.off (listed' := #[true, true, true, true, true, true, true, true, true, false, false, false, false, false, false, false]) 8 [0, 0] rfl (Gd.at 6 true 33 (!R9.1.Del) rfl rfl rfl (beq_ft H16)) rfl rfl (by kernel_rfl) (by kernel_rfl) (by kernel_rfl) rfl rfl ?_
            refine TA.off (listed' := #[true, true, true, true, true, true, true, true, true, true, false, false, false, false, false, false]) 9 [0, 0] rfl (Gd.at 6 true 33 (!R9.1.Del) rfl rfl rfl (beq_ft H16)) rfl rfl (by kernel_rfl) (by kernel_rfl) (by kernel_rfl) rfl rfl ?_
            refine TA.off (listed' := #[true, true, true, true, true, true, true, true, true, true, true, false, false, false, false, false]) 10 [0, 0] rfl (Gd.at 6 true 33 (!R9.1.Del) rfl rfl rfl (beq_ft H16)) rfl rfl (by kernel_rfl) (by kernel_rfl) (by kernel_rfl) rfl rfl ?_
            refine TA.off (listed' := #[true, true, true, true, true, true, true, true, true, true, true, true, false, false, false, false]) 11 [0, 0] rfl (Gd.at 6 true 33 (!R9.1.Del) rfl rfl rfl (beq_ft H16)) rfl rfl (by kernel_rfl) (by kernel_rfl) (by kernel_rfl) rfl rfl ?_
            refine TA.off (listed' := #[true, true, true, true, true, true, true, true, true, true, true, true, true, false, false, false]) 12 [0, 0] rfl (Gd.at 6 true 33 (!R9.1.Del) rfl rfl rfl (beq_ft H16)) rfl rfl (by kernel_rfl) (by kernel_rfl) (by kernel_rfl) rfl rfl ?_
            refine TA.off (listed' := #[true, true, true, true, true, true, true, true, true, true, true, true, true, true, false, false]) 13 [0, 0] rfl (Gd.at 6 true 33 (!R9.1.Del) rfl rfl rfl (beq_ft H16)) rfl rfl (by kernel_rfl) (by kernel_rfl) (by kernel_rfl) rfl rfl ?_
            refine TA.off (listed' := #[true, true, true, true, true, true, true, true, true, true, true, true, true, true, true, false]) 14 [0, 0] rfl (Gd.at 6 true 33 (!R9.1.Del) rfl rfl rfl (beq_ft H16)) rfl rfl (by kernel_rfl) (by kernel_rfl) (by kernel_rfl) rfl rfl ?_
            refine TA.y (listed' := #[true, true, true, true, true, true, true, true, true, true, true, true, true, true, true, true]) 15 [0, 0] rfl (Y.pick_f H16 rfl rfl) rfl rfl rfl (by kernel_rfl) (by kernel_rfl) (by kernel_rfl) rfl rfl ?_
            refine TA.nil (by kernel_rfl) ?_
            exact TE.jb_go () [0, 0] ⟨rfl, rfl, rfl, rfl, rfl, rfl, trivial⟩ rfl
        · refine TA.off (listed' := #[true, true, true, false, false, false, false, false, false, false, false, false, false, false, false, false]) 2 [0, 0] rfl (Gd.at 1 true 28 R9.2 rfl rfl rfl (beq_ft H15)) rfl rfl (by kernel_rfl) (by kernel_rfl) (by kernel_rfl) rfl rfl ?_
          refine TA.off (listed' := #[true, true, true, true, false, false, false, false, false, false, false, false, false, false, false, false]) 3 [0, 0] rfl (Gd.at 1 true 28 R9.2 rfl rfl rfl (beq_ft H15)) rfl rfl (by kernel_rfl) (by kernel_rfl) (by kernel_rfl) rfl rfl ?_
          refine TA.off (listed' := #[true, true, true, true, true, false, false, false, false, false, false, false, false, false, false, false]) 4 [0, 0] rfl (Gd.at 1 true 28 R9.2 rfl rfl rfl (beq_ft H15)) rfl rfl (by kernel_rfl) (by kernel_rfl) (by kernel_rfl) rfl rfl ?_
          refine TA.y (listed' := #[true, true, true, true, true, true, false, false, false, false, false, false, false, false, false, false]) 5 [0, 0] rfl (Y.pick_f H15 rfl rfl) rfl rfl rfl (by kernel_rfl) (by kernel_rfl) (by kernel_rfl) rfl rfl ?_
          refine TA.y (listed' := #[true, true, true, true, true, true, true, false, false, false, false, false, false, false, false, false]) 6 [0, 0] rfl (Y.move rfl) rfl rfl rfl (by kernel_rfl) (by kernel_rfl) (by kernel_rfl) rfl rfl ?_
          refine TA.off (listed' := #[true, true, true, true, true, true, true, true, false, false, false, false, false, false, false, false]) 7 [0, 0] rfl (Gd.at 6 true 33 false rfl rfl rfl rfl) rfl rfl (by kernel_rfl) (by kernel_rfl) (by kernel_rfl) rfl rfl ?_
          refine TA.off (listed' := #[true, true, true, true, true, true, true, true, true, false, false, false, false, false, false, false]) 8 [0, 0] rfl (Gd.at 6 true 33 false rfl rfl rfl rfl) rfl rfl (by kernel_rfl) (by kernel_rfl) (by kernel_rfl) rfl rfl ?_
          refine TA.off (listed' := #[true, true, true, true, true, true, true, true, true, true, false, false, false, false, false, false]) 9 [0, 0] rfl (Gd.at 6 true 33 false rfl rfl rfl rfl) rfl rfl (by kernel_rfl) (by kernel_rfl) (by kernel_rfl) rfl rfl ?_
          refine TA.off (listed' := #[true, true, true, true, true, true, true, true, true, true, true, false, false, false, false, false]) 10 [0, 0] rfl (Gd.at 6 true 33 false rfl rfl rfl rfl) rfl rfl (by kernel_rfl) (by kernel_rfl) (by kernel_rfl) rfl rfl ?_
          refine TA.off (listed' := #[true, true, true, true, true, true, true, true, true, true, true, true, false, false, false, false]) 11 [0, 0] rfl (Gd.at 6 true 33 false rfl rfl rfl rfl) rfl rfl (by kernel_rfl) (by kernel_rfl) (by kernel_rfl) rfl rfl ?_
          refine TA.off (listed' := #[true, true, true, true, true, true, true, true, true, true, true, true, true, false, false, false]) 12 [0, 0] rfl (Gd.at 6 true 33 false rfl rfl rfl rfl) rfl rfl (by kernel_rfl) (by kernel_rfl) (by kernel_rfl) rfl rfl ?_
          refine TA.off (listed' := #[true, true, true, true, true, true, true, true, true, true, true, true, true, true, false, false]) 13 [0, 0] rfl (Gd.at 6 true 33 false rfl rfl rfl rfl) rfl rfl (by kernel_rfl) (by kernel_rfl) (by kernel_rfl) rfl rfl ?_
          refine TA.off (listed' := #[true, true, true, true, true, true, true, true, true, true, true, true, true, true, true, false]) 14 [0, 0] rfl (Gd.at 6 true 33 false rfl rfl rfl rfl) rfl rfl (by kernel_rfl) (by kernel_rfl) (by kernel_rfl) rfl rfl ?_
          refine TA.y (listed' := #[true, true, true, true, true, true, true, true, true, true, true, true, true, true, true, true]) 15 [0, 0] rfl (Y.pick_f rfl rfl rfl) rfl rfl rfl (by kernel_rfl) (by kernel_rfl) (by kernel_rfl) rfl rfl ?_
          refine TA.nil (by kernel_rfl) ?_
          exact TE.jb_go () [0, 0] ⟨rfl, rfl, rfl, rfl, rfl, rfl, trivial⟩ rfl
      · refine TE.next ?_
        refine TW.joinX (τ := List KV) (X := Value) (fun _ X => [(0, V_l0), (1, .int .i64 seq), (5, X), (6, .int .i64 S2.1)]) (fun T X => [.own X (lc T)]) ?_ (fun T17 X18 => ?_)
        · refine TW.cond rfl (fun H19 => ?_) (fun H19 => ?_)
          · refine TW.region ?_
            refine TO.y (Y.move rfl) rfl rfl rfl ?_
            refine TO.y (Y.field_box kf130_0 rfl rfl) rfl rfl rfl ?_
            refine TO.y (Y.load_box (v := strV R9.1.Key) 0 kk9 rfl rfl rfl) rfl rfl rfl ?_
            refine TO.y (Y.field_box kf130_3 rfl rfl) rfl rfl rfl ?_
            refine TO.y (Y.load_box (v := strV R9.1.Val) 0 kk9 rfl rfl rfl) rfl rfl rfl ?_
            refine TO.y (Y.build (cells := [strV R9.1.Key, strV R9.1.Val]) [(0, [strV R9.1.Key]), (1, [strV R9.1.Val])] kp70 kz70 ⟨rfl, ⟨_, rfl, (Cel.plain rfl rfl)⟩, ⟨rfl, ⟨_, rfl, (Cel.plain rfl rfl)⟩, trivial⟩⟩ rfl) rfl rfl rfl ?_
            refine TO.ef (Ef.buildSlice (α := KV) (Vs := [.agg #[strV R9.1.Key, strV R9.1.Val]]) [{ Key := R9.1.Key, Val := R9.1.Val : KV }] ke61 kz70 rfl rfl rfl rfl rfl) rfl rfl rfl (fun B20 => ?_)
            refine TO.bind fun E22 H23 => ?_
            refine TO.ef (Ef.append (α := KV) (is' := [.own (.slice (some ⟨B20, 0, none⟩) 1 1) (lc ([{ Key := R9.1.Key, Val := R9.1.Val : KV }])), .box B12 130 [strV R9.1.Key, .int .i64 R9.1.Seq, .bool R9.1.Del, strV R9.1.Val]]) [2, 0, 0] H23 ke61 kz70 rfl rfl rfl rfl rfl (Can.own 0 rfl)) rfl rfl rfl (fun V21 => ?_)
            refine TO.y (Y.assign rfl) rfl rfl rfl ?_
            refine TO.nil ?_
            exact TE.jn_go V21 [0] ⟨rfl, rfl, rfl, rfl, trivial⟩ rfl
          · refine TW.skip ?_
            exact TE.jn_go X3 [1] ⟨rfl, rfl, rfl, rfl, trivial⟩ rfl
        · refine TE.block_normal ?_
          refine TE.next ?_
          refine TW.region ?_
          refine TO.y (Y.move rfl) rfl rfl rfl ?_
          refine TO.y (Y.add rfl rfl) rfl rfl rfl ?_
          refine TO.y (Y.assign rfl) rfl rfl rfl ?_
          refine TO.nil ?_
          exact TE.lp_go X18 [0] ⟨rfl, rfl, rfl, rfl, trivial⟩ rfl
    · refine TW.exit ?_
      refine TE.then_exit ?_
      refine TE.lp_exit ?_
      refine TE.block_exit ?_
      exact TE.jn_go X3 [0] ⟨rfl, trivial⟩ rfl
  · refine TE.next ?_
    refine TW.seq ?_
    refine TW.region ?_
    refine TO.y (Y.move rfl) rfl rfl rfl ?_
    refine TO.y (Y.assign rfl) rfl rfl rfl ?_
    refine TO.nil ?_
    refine TE.next ?_
    refine TW.ret ?_
    exact TE.leaf fun _ _ hf_ hs_ => ret_any (rs := [.tmp 4]) (vs := [X5]) (.inl rfl) rfl ⟨rfl, trivial⟩ hf_ hs_ ⟨X5, rfl, hs_.pulls [0] rfl⟩

/-- loop.example/g00950/spec.SeenAt -/
noncomputable def spec_SeenAt (l : List Ent) (snaps : List Int) : Option (List (List KV)) :=
  (if (decide (((l.length : Nat) : Int) > (400 : Int))) = true then (some true)
  else ((spec_l9Ents l).bind fun R5 =>
  some (!R5))).bind (fun (T2 : Bool) =>
  if T2 = true then (some ([] : List (List KV)))
  else (bindC (loopO (fun (S9 : Int × List (List KV)) => if (decide (S9.1 < ((snaps.length : Nat) : Int))) = true then ((idx snaps S9.1).bind fun E14 =>
  (spec_l9Map l E14).bind fun R16 =>
  (app 24 S9.2 ([R16])).bind fun E21 =>
  some (.go (IntKind.i64.wrap (S9.1 + (1 : Int)), E21)))
  else (some (.done (.go S9.2))))
  ((0 : Int), ([] : List (List KV))))
  (fun (T11 : List (List KV)) => (spec_l9Map l (1000000 : Int)).bind fun R23 =>
  (app 24 T11 ([R23])).bind fun E28 =>
  some E28)))

theorem spec_SeenAt_con (l : List Ent) (snaps : List Int) (V_l0 : Value) (V_snaps0 : Value) (r : List (List KV)) (hm : spec_SeenAt l snaps = some r) :
    Con Try.prog 53 [V_l0, V_snaps0] [] [(V_l0, lc l), (V_snaps0, lc snaps)] (fun X : Value => X) (fun X => [.own X (lc r)]) := by
  refine Con.intro (args := [V_l0, V_snaps0]) (n := 37) (val := fun _ (X : Value) => X) (post := fun r X => [.own X (lc r)]) (m := spec_SeenAt l snaps) Try.func53 rfl rfl rfl hm ?_
  intro w S hrd
  have HB_V_l0 := hrd _ (.head _)
  have HB_V_snaps0 := hrd _ (.tail _ (.head _))
  clear hrd
  unfold spec_SeenAt
  refine TW.seq ?_
  refine TW.region ?_
  refine TO.y (Y.assign rfl) rfl rfl rfl ?_
  refine TO.nil ?_
  refine TE.next ?_
  refine TW.seq ?_
  refine TW.region ?_
  refine TO.ef (Ef.buildSliceR (Vs := []) [] [] ke89 kz61 rfl rfl rfl rfl rfl trivial rfl) rfl rfl rfl (fun B1 => ?_)
  refine TO.ghost (is' := fun _ => [.own (.slice (some ⟨B1, 0, none⟩) 0 0) (lc ([] : List (List KV)))]) (Gh.closeAll (js := []) (r := []) [0] rfl Cls.nil) (fun _ => ?_)
  refine TO.y (Y.assign rfl) rfl rfl rfl ?_
  refine TO.nil ?_
  refine TE.next ?_
  refine TW.seq ?_
  refine TW.seq ?_
  refine TW.joinBX (τ := Bool) (X := Unit) (fun T _ => [(0, V_l0), (1, V_snaps0), (5, .slice (some ⟨B1, 0, none⟩) 0 0), (15, .bool T)]) (fun _ _ => [.own (.slice (some ⟨B1, 0, none⟩) 0 0) (lc ([] : List (List KV)))]) ?_ (fun T2 X3 => ?_)
  · refine TW.region ?_
    refine TO.y (Y.move rfl) rfl rfl rfl ?_
    refine TO.y (Y.len (l := l) ke80 (Base.can HB_V_l0) rfl) rfl rfl rfl ?_
    refine TO.y (Y.gtr rfl rfl) rfl rfl rfl ?_
    refine TO.y (Y.move rfl) rfl rfl rfl ?_
    refine TO.ite (b := decide (((l.length : Nat) : Int) > (400 : Int))) (fun H4 => ?_) (fun H4 => ?_)
    · refine TO.off (Gd.at 3 false 11 (decide (((l.length : Nat) : Int) > (400 : Int))) rfl rfl rfl (beq_tf H4)) rfl rfl ?_
      refine TO.off (Gd.at 3 false 11 (decide (((l.length : Nat) : Int) > (400 : Int))) rfl rfl rfl (beq_tf H4)) rfl rfl ?_
      refine TO.off (Gd.at 3 false 11 (decide (((l.length : Nat) : Int) > (400 : Int))) rfl rfl rfl (beq_tf H4)) rfl rfl ?_
      refine TO.y (Y.pick_t H4 rfl rfl) rfl rfl rfl ?_
      refine TO.nil ?_
      exact TE.jb_go () [0] ⟨rfl, rfl, rfl, rfl, trivial⟩ rfl
    · refine TO.y (Y.move rfl) (Gd.at 3 false 11 (decide (((l.length : Nat) : Int) > (400 : Int))) rfl rfl rfl (beq_ff H4)) rfl rfl ?_
      refine TO.bind fun R5 H6 => ?_
      refine TO.ef (Ef.call (rest := [.own (.slice (some ⟨B1, 0, none⟩) 0 0) (lc ([] : List (List KV)))]) [0] (spec_l9Ents_con l V_l0 R5 H6) kc97 rfl rfl ⟨(Base.can HB_V_l0), trivial⟩) (Gd.at 3 false 11 (decide (((l.length : Nat) : Int) > (400 : Int))) rfl rfl rfl (beq_ff H4)) rfl rfl (fun _ => ?_)
      refine TO.y (Y.not rfl) (Gd.at 3 false 11 (decide (((l.length : Nat) : Int) > (400 : Int))) rfl rfl rfl (beq_ff H4)) rfl rfl ?_
      refine TO.y (Y.pick_f H4 rfl rfl) rfl rfl rfl ?_
      refine TO.nil ?_
      exact TE.jb_go () [0] ⟨rfl, rfl, rfl, rfl, trivial⟩ rfl
  · refine TE.next ?_
    refine TW.cond rfl (fun H8 => ?_) (fun H8 => ?_)
    · refine TW.seq ?_
      refine TW.region ?_
      refine TO.y (Y.move rfl) rfl rfl rfl ?_
      refine TO.y (Y.assign rfl) rfl rfl rfl ?_
      refine TO.nil ?_
      refine TE.next ?_
      refine TW.ret ?_
      refine TE.then_ret ?_
      exact TE.leaf fun _ _ hf_ hs_ => ret_any (rs := [.tmp 4]) (vs := [.slice (some ⟨B1, 0, none⟩) 0 0]) (.inl rfl) rfl ⟨rfl, trivial⟩ hf_ hs_ ⟨(.slice (some ⟨B1, 0, none⟩) 0 0), rfl, hs_.pulls [0] rfl⟩
    · refine TW.skip ?_
      refine TE.next ?_
      refine TW.seq ?_
      refine TW.seq ?_
      refine TW.region ?_
      refine TO.y (Y.assign rfl) rfl rfl rfl ?_
      refine TO.nil ?_
      refine TE.next ?_
      refine TW.joinX (τ := List (List KV)) (X := Value) (fun _ X => [(0, V_l0), (5, X)]) (fun T X => [.own X (lc T)]) ?_ (fun T11 X12 => ?_)
      · refine TW.block ?_
        refine TW.loopX (σ := Int × List (List KV)) (X := Value) (fun T X => [(0, V_l0), (1, V_snaps0), (5, X), (6, .int .i64 T.1)]) (fun T X => [.own X (lc T.2)]) (.slice (some ⟨B1, 0, none⟩) 0 0) [0] ⟨rfl, rfl, rfl, rfl, trivial⟩ rfl (fun S9 X10 => ?_)
        refine TW.seq ?_
        refine TW.seq ?_
        refine TW.region ?_
        refine TO.y (Y.move rfl) rfl rfl rfl ?_
        refine TO.y (Y.move rfl) rfl rfl rfl ?_
        refine TO.y (Y.len (l := snaps) ke78 (Base.can HB_V_snaps0) rfl) rfl rfl rfl ?_
        refine TO.y (Y.lss rfl rfl) rfl rfl rfl ?_
        refine TO.nil ?_
        refine TE.next ?_
        refine TW.cond rfl (fun H13 => ?_) (fun H13 => ?_)
        · refine TW.skip ?_
          refine TE.next ?_
          refine TW.seq ?_
          refine TW.block ?_
          refine TW.region ?_
          refine TO.y (Y.move rfl) rfl rfl rfl ?_
          refine TO.y (Y.move rfl) rfl rfl rfl ?_
          refine TO.y (Y.move rfl) rfl rfl rfl ?_
          refine TO.y (Y.move rfl) rfl rfl rfl ?_
          refine TO.bind fun E14 H15 => ?_
          refine TO.y (Y.index ke78 (Base.can HB_V_snaps0) H15 rfl rfl) rfl rfl rfl ?_
          refine TO.y (Y.load_el (us := [.int .i64 E14]) (u := .int .i64 E14) kk3 rfl (Base.can HB_V_snaps0) (idx_get H15).2.2 rfl rfl rfl rfl rfl) rfl rfl rfl ?_
          refine TO.bind fun R16 H17 => ?_
          refine TO.ef (Ef.call (rest := [.own X10 (lc S9.2)]) [0] (spec_l9Map_con l E14 V_l0 R16 H17) kc104 rfl rfl ⟨(Base.can HB_V_l0), trivial⟩) rfl rfl rfl (fun Y18 => ?_)
          refine TO.ef (Ef.buildSliceR (Vs := [Y18]) [[Y18]] [.raw Y18] ke89 kz61 rfl rfl rfl rfl rfl ⟨(Cel.one (One.can (Can.own 0 rfl))), trivial⟩ rfl) rfl rfl rfl (fun B19 => ?_)
          refine TO.ghost (is' := fun _ => [.own (.slice (some ⟨B19, 0, none⟩) 1 1) (lc ([R16])), .own X10 (lc S9.2)]) (Gh.closeAll (js := [.own Y18 (lc R16)]) (r := [.own X10 (lc S9.2)]) [0, 0, 0] rfl (Cls.fill Cls.nil)) (fun _ => ?_)
          refine TO.bind fun E21 H22 => ?_
          refine TO.ef (Ef.appN (α := List KV) (is' := []) [1, 0] H22 ke89 kz61 rfl rfl rfl rfl rfl) rfl rfl rfl (fun V20 => ?_)
          refine TO.y (Y.assign rfl) rfl rfl rfl ?_
          refine TO.nil ?_
          refine TE.block_normal ?_
          refine TE.next ?_
          refine TW.region ?_
          refine TO.y (Y.move rfl) rfl rfl rfl ?_
          refine TO.y (Y.add rfl rfl) rfl rfl rfl ?_
          refine TO.y (Y.assign rfl) rfl rfl rfl ?_
          refine TO.nil ?_
          exact TE.lp_go V20 [0] ⟨rfl, rfl, rfl, rfl, trivial⟩ rfl
        · refine TW.exit ?_
          refine TE.then_exit ?_
          refine TE.lp_exit ?_
          refine TE.block_exit ?_
          exact TE.jn_go X10 [0] ⟨rfl, rfl, trivial⟩ rfl
      · refine TE.next ?_
        refine TW.seq ?_
        refine TW.region ?_
        refine TO.y (Y.move rfl) rfl rfl rfl ?_
        refine TO.y (Y.move rfl) rfl rfl rfl ?_
        refine TO.bind fun R23 H24 => ?_
        refine TO.ef (Ef.call (rest := [.own X12 (lc T11)]) [0] (spec_l9Map_con l (1000000 : Int) V_l0 R23 H24) kc104 rfl rfl ⟨(Base.can HB_V_l0), trivial⟩) rfl rfl rfl (fun Y25 => ?_)
        refine TO.ef (Ef.buildSliceR (Vs := [Y25]) [[Y25]] [.raw Y25] ke89 kz61 rfl rfl rfl rfl rfl ⟨(Cel.one (One.can (Can.own 0 rfl))), trivial⟩ rfl) rfl rfl rfl (fun B26 => ?_)
        refine TO.ghost (is' := fun _ => [.own (.slice (some ⟨B26, 0, none⟩) 1 1) (lc ([R23])), .own X12 (lc T11)]) (Gh.closeAll (js := [.own Y25 (lc R23)]) (r := [.own X12 (lc T11)]) [0, 0, 0] rfl (Cls.fill Cls.nil)) (fun _ => ?_)
        refine TO.bind fun E28 H29 => ?_
        refine TO.ef (Ef.appN (α := List KV) (is' := []) [1, 0] H29 ke89 kz61 rfl rfl rfl rfl rfl) rfl rfl rfl (fun V27 => ?_)
        refine TO.y (Y.assign rfl) rfl rfl rfl ?_
        refine TO.nil ?_
        refine TE.next ?_
        refine TW.ret ?_
        exact TE.leaf fun _ _ hf_ hs_ => ret_any (rs := [.tmp 4]) (vs := [V27]) (.inl rfl) rfl ⟨rfl, trivial⟩ hf_ hs_ ⟨V27, rfl, hs_.pulls [0] rfl⟩

/-- loop.example/g00950/impl.inRange -/
noncomputable def impl_inRange (n : Int) (least : Int) (most : Int) : Option Bool :=
  (if (decide (n ≥ least)) = true then (some (decide (n ≤ most)))
  else (some false)).bind (fun (T1 : Bool) =>
  some T1)

theorem impl_inRange_con (n : Int) (least : Int) (most : Int)  (r : Bool) (hm : impl_inRange n least most = some r) :
    Con Try.prog 82 [.int .i64 n, .int .i64 least, .int .i64 most] [] [] (fun _ : Unit => .bool r) (fun _ => []) := by
  refine Con.intro (args := [.int .i64 n, .int .i64 least, .int .i64 most]) (n := 15) (val := fun r (_ : Unit) => .bool r) (post := fun _ _ => []) (m := impl_inRange n least most) Try.func82 rfl rfl rfl hm ?_
  intro w S _
  unfold impl_inRange
  refine TW.seq ?_
  refine TW.region ?_
  refine TO.y (Y.assign rfl) rfl rfl rfl ?_
  refine TO.nil ?_
  refine TE.next ?_
  refine TW.seq ?_
  refine TW.joinBX (τ := Bool) (X := Unit) (fun T _ => [(6, .bool T)]) (fun _ _ => []) ?_ (fun T1 X2 => ?_)
  · refine TW.region ?_
    refine TO.y (Y.move rfl) rfl rfl rfl ?_
    refine TO.y (Y.move rfl) rfl rfl rfl ?_
    refine TO.y (Y.geq rfl rfl) rfl rfl rfl ?_
    refine TO.y (Y.move rfl) rfl rfl rfl ?_
    refine TO.ite (b := decide (n ≥ least)) (fun H3 => ?_) (fun H3 => ?_)
    · refine TO.y (Y.move rfl) (Gd.at 3 true 10 (decide (n ≥ least)) rfl rfl rfl (beq_tt H3)) rfl rfl ?_
      refine TO.y (Y.move rfl) (Gd.at 3 true 10 (decide (n ≥ least)) rfl rfl rfl (beq_tt H3)) rfl rfl ?_
      refine TO.y (Y.leq rfl rfl) (Gd.at 3 true 10 (decide (n ≥ least)) rfl rfl rfl (beq_tt H3)) rfl rfl ?_
      refine TO.y (Y.pick_t H3 rfl rfl) rfl rfl rfl ?_
      refine TO.y (Y.assign rfl) rfl rfl rfl ?_
      refine TO.nil ?_
      exact TE.jb_go () [] ⟨rfl, trivial⟩ rfl
    · refine TO.off (Gd.at 3 true 10 (decide (n ≥ least)) rfl rfl rfl (beq_ft H3)) rfl rfl ?_
      refine TO.off (Gd.at 3 true 10 (decide (n ≥ least)) rfl rfl rfl (beq_ft H3)) rfl rfl ?_
      refine TO.off (Gd.at 3 true 10 (decide (n ≥ least)) rfl rfl rfl (beq_ft H3)) rfl rfl ?_
      refine TO.y (Y.pick_f H3 rfl rfl) rfl rfl rfl ?_
      refine TO.y (Y.assign rfl) rfl rfl rfl ?_
      refine TO.nil ?_
      exact TE.jb_go () [] ⟨rfl, trivial⟩ rfl
  · refine TE.next ?_
    refine TW.ret ?_
    exact TE.leaf fun _ _ hf_ hs_ => ret_any (rs := [.tmp 6]) (vs := [.bool T1]) (.inl rfl) rfl ⟨rfl, trivial⟩ hf_ hs_ ⟨(), rfl, hs_.pulls [] rfl⟩

/-- loop.example/g00950/impl.isKey -/
noncomputable def impl_isKey (s : List UInt8) : Option Bool :=
  (impl_inRange ((s.length : Nat) : Int) (1 : Int) (10 : Int)).bind fun R1 =>
  some R1

theorem impl_isKey_con (s : List UInt8)  (r : Bool) (hm : impl_isKey s = some r) :
    Con Try.prog 127 [strV s] [] [] (fun _ : Unit => .bool r) (fun _ => []) := by
  refine Con.intro (args := [strV s]) (n := 6) (val := fun r (_ : Unit) => .bool r) (post := fun _ _ => []) (m := impl_isKey s) Try.func127 rfl rfl rfl hm ?_
  intro w S _
  unfold impl_isKey
  refine TW.seq ?_
  refine TW.region ?_
  refine TO.y (Y.assign rfl) rfl rfl rfl ?_
  refine TO.nil ?_
  refine TE.next ?_
  refine TW.seq ?_
  refine TW.region ?_
  refine TO.y (Y.move rfl) rfl rfl rfl ?_
  refine TO.y (Y.slen ks9 rfl) rfl rfl rfl ?_
  refine TO.bind fun R1 H2 => ?_
  refine TO.ef (Ef.call (rest := []) [] (impl_inRange_con ((s.length : Nat) : Int) (1 : Int) (10 : Int)  R1 H2) kc82 rfl rfl trivial) rfl rfl rfl (fun _ => ?_)
  refine TO.y (Y.assign rfl) rfl rfl rfl ?_
  refine TO.nil ?_
  refine TE.next ?_
  refine TW.ret ?_
  exact TE.leaf fun _ _ hf_ hs_ => ret_any (rs := [.tmp 2]) (vs := [.bool R1]) (.inl rfl) rfl ⟨rfl, trivial⟩ hf_ hs_ ⟨(), rfl, hs_.pulls [] rfl⟩

/-- loop.example/g00950/impl.isNumber -/
noncomputable def impl_isNumber (n : Int) : Option Bool :=
  (impl_inRange n (0 : Int) (1000000 : Int)).bind fun R1 =>
  some R1

theorem impl_isNumber_con (n : Int)  (r : Bool) (hm : impl_isNumber n = some r) :
    Con Try.prog 148 [.int .i64 n] [] [] (fun _ : Unit => .bool r) (fun _ => []) := by
  refine Con.intro (args := [.int .i64 n]) (n := 5) (val := fun r (_ : Unit) => .bool r) (post := fun _ _ => []) (m := impl_isNumber n) Try.func148 rfl rfl rfl hm ?_
  intro w S _
  unfold impl_isNumber
  refine TW.seq ?_
  refine TW.region ?_
  refine TO.y (Y.assign rfl) rfl rfl rfl ?_
  refine TO.nil ?_
  refine TE.next ?_
  refine TW.seq ?_
  refine TW.region ?_
  refine TO.y (Y.move rfl) rfl rfl rfl ?_
  refine TO.bind fun R1 H2 => ?_
  refine TO.ef (Ef.call (rest := []) [] (impl_inRange_con n (0 : Int) (1000000 : Int)  R1 H2) kc82 rfl rfl trivial) rfl rfl rfl (fun _ => ?_)
  refine TO.y (Y.assign rfl) rfl rfl rfl ?_
  refine TO.nil ?_
  refine TE.next ?_
  refine TW.ret ?_
  exact TE.leaf fun _ _ hf_ hs_ => ret_any (rs := [.tmp 2]) (vs := [.bool R1]) (.inl rfl) rfl ⟨rfl, trivial⟩ hf_ hs_ ⟨(), rfl, hs_.pulls [] rfl⟩

/-- loop.example/g00950/impl.isVal -/
noncomputable def impl_isVal (del : Bool) (val : List UInt8) : Option Bool :=
  (if (decide (((val.length : Nat) : Int) ≤ (16 : Int))) = true then (if del = true then (some (!(!(decide (val = ([]))))))
  else (some (!false)))
  else (some false)).bind (fun (T1 : Bool) =>
  some T1)

theorem impl_isVal_con (del : Bool) (val : List UInt8)  (r : Bool) (hm : impl_isVal del val = some r) :
    Con Try.prog 149 [.bool del, strV val] [] [] (fun _ : Unit => .bool r) (fun _ => []) := by
  refine Con.intro (args := [.bool del, strV val]) (n := 16) (val := fun r (_ : Unit) => .bool r) (post := fun _ _ => []) (m := impl_isVal del val) Try.func149 rfl rfl rfl hm ?_
  intro w S _
  unfold impl_isVal
  refine TW.seq ?_
  refine TW.region ?_
  refine TO.y (Y.assign rfl) rfl rfl rfl ?_
  refine TO.nil ?_
  refine TE.next ?_
  refine TW.seq ?_
  refine TW.joinBX (τ := Bool) (X := Unit) (fun T _ => [(4, .bool T)]) (fun _ _ => []) ?_ (fun T1 X2 => ?_)
  · refine TW.region ?_
    refine TO.y (Y.move rfl) rfl rfl rfl ?_
    refine TO.y (Y.slen ks9 rfl) rfl rfl rfl ?_
    refine TO.y (Y.leq rfl rfl) rfl rfl rfl ?_
    refine TO.y (Y.move rfl) rfl rfl rfl ?_
    refine TO.ite (b := decide (((val.length : Nat) : Int) ≤ (16 : Int))) (fun H3 => ?_) (fun H3 => ?_)
    · refine TO.y (Y.move rfl) (Gd.at 3 true 8 (decide (((val.length : Nat) : Int) ≤ (16 : Int))) rfl rfl rfl (beq_tt H3)) rfl rfl ?_
      refine TO.y (Y.move rfl) (Gd.at 3 true 8 (decide (((val.length : Nat) : Int) ≤ (16 : Int))) rfl rfl rfl (beq_tt H3)) rfl rfl ?_
      refine TO.ite (b := del) (fun H4 => ?_) (fun H4 => ?_)
      · refine TO.y (Y.move rfl) (Gd.at 5 true 10 del rfl rfl rfl (beq_tt H4)) rfl rfl ?_
        refine TO.y (Y.sneq rfl rfl) (Gd.at 5 true 10 del rfl rfl rfl (beq_tt H4)) rfl rfl ?_
        refine TO.y (Y.pick_t H4 rfl rfl) (Gd.at 3 true 8 (decide (((val.length : Nat) : Int) ≤ (16 : Int))) rfl rfl rfl (beq_tt H3)) rfl rfl ?_
        refine TO.y (Y.not rfl) (Gd.at 3 true 8 (decide (((val.length : Nat) : Int) ≤ (16 : Int))) rfl rfl rfl (beq_tt H3)) rfl rfl ?_
        refine TO.y (Y.pick_t H3 rfl rfl) rfl rfl rfl ?_
        refine TO.y (Y.assign rfl) rfl rfl rfl ?_
        refine TO.nil ?_
        exact TE.jb_go () [] ⟨rfl, trivial⟩ rfl
      · refine TO.off (Gd.at 5 true 10 del rfl rfl rfl (beq_ft H4)) rfl rfl ?_
        refine TO.off (Gd.at 5 true 10 del rfl rfl rfl (beq_ft H4)) rfl rfl ?_
        refine TO.y (Y.pick_f H4 rfl rfl) (Gd.at 3 true 8 (decide (((val.length : Nat) : Int) ≤ (16 : Int))) rfl rfl rfl (beq_tt H3)) rfl rfl ?_
        refine TO.y (Y.not rfl) (Gd.at 3 true 8 (decide (((val.length : Nat) : Int) ≤ (16 : Int))) rfl rfl rfl (beq_tt H3)) rfl rfl ?_
        refine TO.y (Y.pick_t H3 rfl rfl) rfl rfl rfl ?_
        refine TO.y (Y.assign rfl) rfl rfl rfl ?_
        refine TO.nil ?_
        exact TE.jb_go () [] ⟨rfl, trivial⟩ rfl
    · refine TO.off (Gd.at 3 true 8 (decide (((val.length : Nat) : Int) ≤ (16 : Int))) rfl rfl rfl (beq_ft H3)) rfl rfl ?_
      refine TO.off (Gd.at 3 true 8 (decide (((val.length : Nat) : Int) ≤ (16 : Int))) rfl rfl rfl (beq_ft H3)) rfl rfl ?_
      refine TO.off (Gd.un 5 true 10 rfl rfl rfl) rfl rfl ?_
      refine TO.off (Gd.un 5 true 10 rfl rfl rfl) rfl rfl ?_
      refine TO.off (Gd.at 3 true 8 (decide (((val.length : Nat) : Int) ≤ (16 : Int))) rfl rfl rfl (beq_ft H3)) rfl rfl ?_
      refine TO.off (Gd.at 3 true 8 (decide (((val.length : Nat) : Int) ≤ (16 : Int))) rfl rfl rfl (beq_ft H3)) rfl rfl ?_
      refine TO.y (Y.pick_f H3 rfl rfl) rfl rfl rfl ?_
      refine TO.y (Y.assign rfl) rfl rfl rfl ?_
      refine TO.nil ?_
      exact TE.jb_go () [] ⟨rfl, trivial⟩ rfl
  · refine TE.next ?_
    refine TW.ret ?_
    exact TE.leaf fun _ _ hf_ hs_ => ret_any (rs := [.tmp 4]) (vs := [.bool T1]) (.inl rfl) rfl ⟨rfl, trivial⟩ hf_ hs_ ⟨(), rfl, hs_.pulls [] rfl⟩

/-- loop.example/g00950/impl.entOk -/
noncomputable def impl_entOk (e : Ent) : Option Bool :=
  ((impl_isKey e.Key).bind fun R4 =>
  if R4 = true then ((impl_isNumber e.Seq).bind fun R8 =>
  if R8 = true then ((impl_isVal e.Del e.Val).bind fun R12 =>
  some R12)
  else (some false))
  else (some false)).bind (fun (T2 : Bool) =>
  some T2)

theorem impl_entOk_con (e : Ent)  (r : Bool) (hm : impl_entOk e = some r) :
    Con Try.prog 134 [.agg #[strV e.Key, .int .i64 e.Seq, .bool e.Del, strV e.Val]] [] [] (fun _ : Unit => .bool r) (fun _ => []) := by
  refine Con.intro (args := [.agg #[strV e.Key, .int .i64 e.Seq, .bool e.Del, strV e.Val]]) (n := 18) (val := fun r (_ : Unit) => .bool r) (post := fun _ _ => []) (m := impl_entOk e) Try.func134 rfl rfl rfl hm ?_
  intro w S _
  unfold impl_entOk
  refine TW.seq ?_
  refine TW.region ?_
  refine TO.ef (Ef.box rfl (Cel.plain rfl rfl)) rfl rfl rfl (fun B1 => ?_)
  refine TO.y (Y.assign rfl) rfl rfl rfl ?_
  refine TO.nil ?_
  refine TE.next ?_
  refine TW.seq ?_
  refine TW.joinBX (τ := Bool) (X := Unit) (fun T _ => [(2, .bool T)]) (fun _ _ => []) ?_ (fun T2 X3 => ?_)
  · refine TW.region ?_
    refine TO.y (Y.field_box kf130_0 rfl rfl) rfl rfl rfl ?_
    refine TO.y (Y.load_box (v := strV e.Key) 0 kk9 rfl rfl rfl) rfl rfl rfl ?_
    refine TO.bind fun R4 H5 => ?_
    refine TO.ef (Ef.call (rest := [.box B1 130 [strV e.Key, .int .i64 e.Seq, .bool e.Del, strV e.Val]]) [0] (impl_isKey_con e.Key  R4 H5) kc127 rfl rfl trivial) rfl rfl rfl (fun _ => ?_)
    refine TO.y (Y.move rfl) rfl rfl rfl ?_
    refine TO.ite (b := R4) (fun H7 => ?_) (fun H7 => ?_)
    · refine TO.y (Y.field_box kf130_1 rfl rfl) (Gd.at 3 true 6 R4 rfl rfl rfl (beq_tt H7)) rfl rfl ?_
      refine TO.y (Y.load_box (v := .int .i64 e.Seq) 0 kk3 rfl rfl rfl) (Gd.at 3 true 6 R4 rfl rfl rfl (beq_tt H7)) rfl rfl ?_
      refine TO.bind fun R8 H9 => ?_
      refine TO.ef (Ef.call (rest := [.box B1 130 [strV e.Key, .int .i64 e.Seq, .bool e.Del, strV e.Val]]) [0] (impl_isNumber_con e.Seq  R8 H9) kc148 rfl rfl trivial) (Gd.at 3 true 6 R4 rfl rfl rfl (beq_tt H7)) rfl rfl (fun _ => ?_)
      refine TO.y (Y.pick_t H7 rfl rfl) rfl rfl rfl ?_
      refine TO.y (Y.move rfl) rfl rfl rfl ?_
      refine TO.ite (b := R8) (fun H11 => ?_) (fun H11 => ?_)
      · refine TO.y (Y.field_box kf130_2 rfl rfl) (Gd.at 8 true 11 R8 rfl rfl rfl (beq_tt H11)) rfl rfl ?_
        refine TO.y (Y.load_box (v := .bool e.Del) 0 kk4 rfl rfl rfl) (Gd.at 8 true 11 R8 rfl rfl rfl (beq_tt H11)) rfl rfl ?_
        refine TO.y (Y.field_box kf130_3 rfl rfl) (Gd.at 8 true 11 R8 rfl rfl rfl (beq_tt H11)) rfl rfl ?_
        refine TO.y (Y.load_box (v := strV e.Val) 0 kk9 rfl rfl rfl) (Gd.at 8 true 11 R8 rfl rfl rfl (beq_tt H11)) rfl rfl ?_
        refine TO.bind fun R12 H13 => ?_
        refine TO.ef (Ef.call (rest := [.box B1 130 [strV e.Key, .int .i64 e.Seq, .bool e.Del, strV e.Val]]) [0] (impl_isVal_con e.Del e.Val  R12 H13) kc149 rfl rfl trivial) (Gd.at 8 true 11 R8 rfl rfl rfl (beq_tt H11)) rfl rfl (fun _ => ?_)
        refine TO.y (Y.pick_t H11 rfl rfl) rfl rfl rfl ?_
        refine TO.y (Y.assign rfl) rfl rfl rfl ?_
        refine TO.nil ?_
        exact TE.jb_go () [] ⟨rfl, trivial⟩ rfl
      · refine TO.off (Gd.at 8 true 11 R8 rfl rfl rfl (beq_ft H11)) rfl rfl ?_
        refine TO.off (Gd.at 8 true 11 R8 rfl rfl rfl (beq_ft H11)) rfl rfl ?_
        refine TO.off (Gd.at 8 true 11 R8 rfl rfl rfl (beq_ft H11)) rfl rfl ?_
        refine TO.off (Gd.at 8 true 11 R8 rfl rfl rfl (beq_ft H11)) rfl rfl ?_
        refine TO.off (Gd.at 8 true 11 R8 rfl rfl rfl (beq_ft H11)) rfl rfl ?_
        refine TO.y (Y.pick_f H11 rfl rfl) rfl rfl rfl ?_
        refine TO.y (Y.assign rfl) rfl rfl rfl ?_
        refine TO.nil ?_
        exact TE.jb_go () [] ⟨rfl, trivial⟩ rfl
    · refine TO.off (Gd.at 3 true 6 R4 rfl rfl rfl (beq_ft H7)) rfl rfl ?_
      refine TO.off (Gd.at 3 true 6 R4 rfl rfl rfl (beq_ft H7)) rfl rfl ?_
      refine TO.off (Gd.at 3 true 6 R4 rfl rfl rfl (beq_ft H7)) rfl rfl ?_
      refine TO.y (Y.pick_f H7 rfl rfl) rfl rfl rfl ?_
      refine TO.y (Y.move rfl) rfl rfl rfl ?_
      refine TO.off (Gd.at 8 true 11 false rfl rfl rfl rfl) rfl rfl ?_
      refine TO.off (Gd.at 8 true 11 false rfl rfl rfl rfl) rfl rfl ?_
      refine TO.off (Gd.at 8 true 11 false rfl rfl rfl rfl) rfl rfl ?_
      refine TO.off (Gd.at 8 true 11 false rfl rfl rfl rfl) rfl rfl ?_
      refine TO.off (Gd.at 8 true 11 false rfl rfl rfl rfl) rfl rfl ?_
      refine TO.y (Y.pick_f rfl rfl rfl) rfl rfl rfl ?_
      refine TO.y (Y.assign rfl) rfl rfl rfl ?_
      refine TO.nil ?_
      exact TE.jb_go () [] ⟨rfl, trivial⟩ rfl
  · refine TE.next ?_
    refine TW.ret ?_
    exact TE.leaf fun _ _ hf_ hs_ => ret_any (rs := [.tmp 2]) (vs := [.bool T2]) (.inl rfl) rfl ⟨rfl, trivial⟩ hf_ hs_ ⟨(), rfl, hs_.pulls [] rfl⟩

/-- cmp.isNaN[string] -/
noncomputable def cmp_isNaN_83645 (x : List UInt8) : Option Bool :=
  some (!(decide (x = x)))

theorem cmp_isNaN_83645_con (x : List UInt8)  (r : Bool) (hm : cmp_isNaN_83645 x = some r) :
    Con Try.prog 143 [strV x] [] [] (fun _ : Unit => .bool r) (fun _ => []) := by
  refine Con.intro (args := [strV x]) (n := 6) (val := fun r (_ : Unit) => .bool r) (post := fun _ _ => []) (m := cmp_isNaN_83645 x) Try.func143 rfl rfl rfl hm ?_
  intro w S _
  unfold cmp_isNaN_83645
  refine TW.seq ?_
  refine TW.region ?_
  refine TO.y (Y.assign rfl) rfl rfl rfl ?_
  refine TO.nil ?_
  refine TE.next ?_
  refine TW.seq ?_
  refine TW.region ?_
  refine TO.y (Y.move rfl) rfl rfl rfl ?_
  refine TO.y (Y.move rfl) rfl rfl rfl ?_
  refine TO.y (Y.sneq rfl rfl) rfl rfl rfl ?_
  refine TO.y (Y.assign rfl) rfl rfl rfl ?_
  refine TO.nil ?_
  refine TE.next ?_
  refine TW.ret ?_
  exact TE.leaf fun _ _ hf_ hs_ => ret_any (rs := [.tmp 2]) (vs := [.bool (!(decide (x = x)))]) (.inl rfl) rfl ⟨rfl, trivial⟩ hf_ hs_ ⟨(), rfl, hs_.pulls [] rfl⟩

/-- cmp.Compare[string] -/
noncomputable def cmp_Compare_83645 (x : List UInt8) (y : List UInt8) : Option Int :=
  (cmp_isNaN_83645 x).bind fun R1 =>
  (cmp_isNaN_83645 y).bind fun R4 =>
  if R1 = true then (if R4 = true then (some (0 : Int))
  else (some (-1 : Int)))
  else (if R4 = true then (some (1 : Int))
  else (if (sLt x y) = true then (some (-1 : Int))
  else (if (!(sLt x y || decide (x = y))) = true then (some (1 : Int))
  else (some (0 : Int)))))

theorem cmp_Compare_83645_con (x : List UInt8) (y : List UInt8)  (r : Int) (hm : cmp_Compare_83645 x y = some r) :
    Con Try.prog 119 [strV x, strV y] [] [] (fun _ : Unit => .int .i64 r) (fun _ => []) := by
  refine Con.intro (args := [strV x, strV y]) (n := 20) (val := fun r (_ : Unit) => .int .i64 r) (post := fun _ _ => []) (m := cmp_Compare_83645 x y) Try.func119 rfl rfl rfl hm ?_
  intro w S _
  unfold cmp_Compare_83645
  refine TW.seq ?_
  refine TW.region ?_
  refine TO.y (Y.assign rfl) rfl rfl rfl ?_
  refine TO.nil ?_
  refine TE.next ?_
  refine TW.seq ?_
  refine TW.region ?_
  refine TO.y (Y.move rfl) rfl rfl rfl ?_
  refine TO.bind fun R1 H2 => ?_
  refine TO.ef (Ef.call (rest := []) [] (cmp_isNaN_83645_con x  R1 H2) kc143 rfl rfl trivial) rfl rfl rfl (fun _ => ?_)
  refine TO.y (Y.assign rfl) rfl rfl rfl ?_
  refine TO.nil ?_
  refine TE.next ?_
  refine TW.seq ?_
  refine TW.region ?_
  refine TO.y (Y.move rfl) rfl rfl rfl ?_
  refine TO.bind fun R4 H5 => ?_
  refine TO.ef (Ef.call (rest := []) [] (cmp_isNaN_83645_con y  R4 H5) kc143 rfl rfl trivial) rfl rfl rfl (fun _ => ?_)
  refine TO.y (Y.assign rfl) rfl rfl rfl ?_
  refine TO.nil ?_
  refine TE.next ?_
  refine TW.seq ?_
  refine TW.seq ?_
  refine TW.region ?_
  refine TO.y (Y.move rfl) rfl rfl rfl ?_
  refine TO.nil ?_
  refine TE.next ?_
  refine TW.cond rfl (fun H7 => ?_) (fun H7 => ?_)
  · refine TW.seq ?_
    refine TW.seq ?_
    refine TW.region ?_
    refine TO.y (Y.move rfl) rfl rfl rfl ?_
    refine TO.nil ?_
    refine TE.next ?_
    refine TW.cond rfl (fun H8 => ?_) (fun H8 => ?_)
    · refine TW.seq ?_
      refine TW.region ?_
      refine TO.y (Y.assign rfl) rfl rfl rfl ?_
      refine TO.nil ?_
      refine TE.next ?_
      refine TW.ret ?_
      refine TE.then_ret ?_
      refine TE.then_ret ?_
      exact TE.leaf fun _ _ hf_ hs_ => ret_any (rs := [.tmp 4]) (vs := [.int .i64 (0 : Int)]) (.inl rfl) rfl ⟨rfl, trivial⟩ hf_ hs_ ⟨(), rfl, hs_.pulls [] rfl⟩
    · refine TW.skip ?_
      refine TE.next ?_
      refine TW.seq ?_
      refine TW.region ?_
      refine TO.y (Y.assign rfl) rfl rfl rfl ?_
      refine TO.nil ?_
      refine TE.next ?_
      refine TW.ret ?_
      refine TE.then_ret ?_
      exact TE.leaf fun _ _ hf_ hs_ => ret_any (rs := [.tmp 4]) (vs := [.int .i64 (-1 : Int)]) (.inl rfl) rfl ⟨rfl, trivial⟩ hf_ hs_ ⟨(), rfl, hs_.pulls [] rfl⟩
  · refine TW.skip ?_
    refine TE.next ?_
    refine TW.seq ?_
    refine TW.seq ?_
    refine TW.region ?_
    refine TO.y (Y.move rfl) rfl rfl rfl ?_
    refine TO.nil ?_
    refine TE.next ?_
    refine TW.cond rfl (fun H9 => ?_) (fun H9 => ?_)
    · refine TW.seq ?_
      refine TW.region ?_
      refine TO.y (Y.assign rfl) rfl rfl rfl ?_
      refine TO.nil ?_
      refine TE.next ?_
      refine TW.ret ?_
      refine TE.then_ret ?_
      exact TE.leaf fun _ _ hf_ hs_ => ret_any (rs := [.tmp 4]) (vs := [.int .i64 (1 : Int)]) (.inl rfl) rfl ⟨rfl, trivial⟩ hf_ hs_ ⟨(), rfl, hs_.pulls [] rfl⟩
    · refine TW.skip ?_
      refine TE.next ?_
      refine TW.seq ?_
      refine TW.seq ?_
      refine TW.region ?_
      refine TO.y (Y.move rfl) rfl rfl rfl ?_
      refine TO.y (Y.move rfl) rfl rfl rfl ?_
      refine TO.y (Y.slss rfl rfl) rfl rfl rfl ?_
      refine TO.nil ?_
      refine TE.next ?_
      refine TW.cond rfl (fun H10 => ?_) (fun H10 => ?_)
      · refine TW.seq ?_
        refine TW.region ?_
        refine TO.y (Y.assign rfl) rfl rfl rfl ?_
        refine TO.nil ?_
        refine TE.next ?_
        refine TW.ret ?_
        refine TE.then_ret ?_
        exact TE.leaf fun _ _ hf_ hs_ => ret_any (rs := [.tmp 4]) (vs := [.int .i64 (-1 : Int)]) (.inl rfl) rfl ⟨rfl, trivial⟩ hf_ hs_ ⟨(), rfl, hs_.pulls [] rfl⟩
      · refine TW.skip ?_
        refine TE.next ?_
        refine TW.seq ?_
        refine TW.seq ?_
        refine TW.region ?_
        refine TO.y (Y.move rfl) rfl rfl rfl ?_
        refine TO.y (Y.move rfl) rfl rfl rfl ?_
        refine TO.y (Y.sgtr rfl rfl) rfl rfl rfl ?_
        refine TO.nil ?_
        refine TE.next ?_
        refine TW.cond rfl (fun H11 => ?_) (fun H11 => ?_)
        · refine TW.seq ?_
          refine TW.region ?_
          refine TO.y (Y.assign rfl) rfl rfl rfl ?_
          refine TO.nil ?_
          refine TE.next ?_
          refine TW.ret ?_
          refine TE.then_ret ?_
          exact TE.leaf fun _ _ hf_ hs_ => ret_any (rs := [.tmp 4]) (vs := [.int .i64 (1 : Int)]) (.inl rfl) rfl ⟨rfl, trivial⟩ hf_ hs_ ⟨(), rfl, hs_.pulls [] rfl⟩
        · refine TW.skip ?_
          refine TE.next ?_
          refine TW.seq ?_
          refine TW.region ?_
          refine TO.y (Y.assign rfl) rfl rfl rfl ?_
          refine TO.nil ?_
          refine TE.next ?_
          refine TW.ret ?_
          exact TE.leaf fun _ _ hf_ hs_ => ret_any (rs := [.tmp 4]) (vs := [.int .i64 (0 : Int)]) (.inl rfl) rfl ⟨rfl, trivial⟩ hf_ hs_ ⟨(), rfl, hs_.pulls [] rfl⟩

/-- cmp.isNaN[int] -/
noncomputable def cmp_isNaN_26527 (x : Int) : Option Bool :=
  some (!(decide (x = x)))

theorem cmp_isNaN_26527_con (x : Int)  (r : Bool) (hm : cmp_isNaN_26527 x = some r) :
    Con Try.prog 142 [.int .i64 x] [] [] (fun _ : Unit => .bool r) (fun _ => []) := by
  refine Con.intro (args := [.int .i64 x]) (n := 6) (val := fun r (_ : Unit) => .bool r) (post := fun _ _ => []) (m := cmp_isNaN_26527 x) Try.func142 rfl rfl rfl hm ?_
  intro w S _
  unfold cmp_isNaN_26527
  refine TW.seq ?_
  refine TW.region ?_
  refine TO.y (Y.assign rfl) rfl rfl rfl ?_
  refine TO.nil ?_
  refine TE.next ?_
  refine TW.seq ?_
  refine TW.region ?_
  refine TO.y (Y.move rfl) rfl rfl rfl ?_
  refine TO.y (Y.move rfl) rfl rfl rfl ?_
  refine TO.y (Y.neq rfl rfl) rfl rfl rfl ?_
  refine TO.y (Y.assign rfl) rfl rfl rfl ?_
  refine TO.nil ?_
  refine TE.next ?_
  refine TW.ret ?_
  exact TE.leaf fun _ _ hf_ hs_ => ret_any (rs := [.tmp 2]) (vs := [.bool (!(decide (x = x)))]) (.inl rfl) rfl ⟨rfl, trivial⟩ hf_ hs_ ⟨(), rfl, hs_.pulls [] rfl⟩

/-- cmp.Compare[int] -/
noncomputable def cmp_Compare_26527 (x : Int) (y : Int) : Option Int :=
  (cmp_isNaN_26527 x).bind fun R1 =>
  (cmp_isNaN_26527 y).bind fun R4 =>
  if R1 = true then (if R4 = true then (some (0 : Int))
  else (some (-1 : Int)))
  else (if R4 = true then (some (1 : Int))
  else (if (decide (x < y)) = true then (some (-1 : Int))
  else (if (decide (x > y)) = true then (some (1 : Int))
  else (some (0 : Int)))))

theorem cmp_Compare_26527_con (x : Int) (y : Int)  (r : Int) (hm : cmp_Compare_26527 x y = some r) :
    Con Try.prog 118 [.int .i64 x, .int .i64 y] [] [] (fun _ : Unit => .int .i64 r) (fun _ => []) := by
  refine Con.intro (args := [.int .i64 x, .int .i64 y]) (n := 20) (val := fun r (_ : Unit) => .int .i64 r) (post := fun _ _ => []) (m := cmp_Compare_26527 x y) Try.func118 rfl rfl rfl hm ?_
  intro w S _
  unfold cmp_Compare_26527
  refine TW.seq ?_
  refine TW.region ?_
  refine TO.y (Y.assign rfl) rfl rfl rfl ?_
  refine TO.nil ?_
  refine TE.next ?_
  refine TW.seq ?_
  refine TW.region ?_
  refine TO.y (Y.move rfl) rfl rfl rfl ?_
  refine TO.bind fun R1 H2 => ?_
  refine TO.ef (Ef.call (rest := []) [] (cmp_isNaN_26527_con x  R1 H2) kc142 rfl rfl trivial) rfl rfl rfl (fun _ => ?_)
  refine TO.y (Y.assign rfl) rfl rfl rfl ?_
  refine TO.nil ?_
  refine TE.next ?_
  refine TW.seq ?_
  refine TW.region ?_
  refine TO.y (Y.move rfl) rfl rfl rfl ?_
  refine TO.bind fun R4 H5 => ?_
  refine TO.ef (Ef.call (rest := []) [] (cmp_isNaN_26527_con y  R4 H5) kc142 rfl rfl trivial) rfl rfl rfl (fun _ => ?_)
  refine TO.y (Y.assign rfl) rfl rfl rfl ?_
  refine TO.nil ?_
  refine TE.next ?_
  refine TW.seq ?_
  refine TW.seq ?_
  refine TW.region ?_
  refine TO.y (Y.move rfl) rfl rfl rfl ?_
  refine TO.nil ?_
  refine TE.next ?_
  refine TW.cond rfl (fun H7 => ?_) (fun H7 => ?_)
  · refine TW.seq ?_
    refine TW.seq ?_
    refine TW.region ?_
    refine TO.y (Y.move rfl) rfl rfl rfl ?_
    refine TO.nil ?_
    refine TE.next ?_
    refine TW.cond rfl (fun H8 => ?_) (fun H8 => ?_)
    · refine TW.seq ?_
      refine TW.region ?_
      refine TO.y (Y.assign rfl) rfl rfl rfl ?_
      refine TO.nil ?_
      refine TE.next ?_
      refine TW.ret ?_
      refine TE.then_ret ?_
      refine TE.then_ret ?_
      exact TE.leaf fun _ _ hf_ hs_ => ret_any (rs := [.tmp 4]) (vs := [.int .i64 (0 : Int)]) (.inl rfl) rfl ⟨rfl, trivial⟩ hf_ hs_ ⟨(), rfl, hs_.pulls [] rfl⟩
    · refine TW.skip ?_
      refine TE.next ?_
      refine TW.seq ?_
      refine TW.region ?_
      refine TO.y (Y.assign rfl) rfl rfl rfl ?_
      refine TO.nil ?_
      refine TE.next ?_
      refine TW.ret ?_
      refine TE.then_ret ?_
      exact TE.leaf fun _ _ hf_ hs_ => ret_any (rs := [.tmp 4]) (vs := [.int .i64 (-1 : Int)]) (.inl rfl) rfl ⟨rfl, trivial⟩ hf_ hs_ ⟨(), rfl, hs_.pulls [] rfl⟩
  · refine TW.skip ?_
    refine TE.next ?_
    refine TW.seq ?_
    refine TW.seq ?_
    refine TW.region ?_
    refine TO.y (Y.move rfl) rfl rfl rfl ?_
    refine TO.nil ?_
    refine TE.next ?_
    refine TW.cond rfl (fun H9 => ?_) (fun H9 => ?_)
    · refine TW.seq ?_
      refine TW.region ?_
      refine TO.y (Y.assign rfl) rfl rfl rfl ?_
      refine TO.nil ?_
      refine TE.next ?_
      refine TW.ret ?_
      refine TE.then_ret ?_
      exact TE.leaf fun _ _ hf_ hs_ => ret_any (rs := [.tmp 4]) (vs := [.int .i64 (1 : Int)]) (.inl rfl) rfl ⟨rfl, trivial⟩ hf_ hs_ ⟨(), rfl, hs_.pulls [] rfl⟩
    · refine TW.skip ?_
      refine TE.next ?_
      refine TW.seq ?_
      refine TW.seq ?_
      refine TW.region ?_
      refine TO.y (Y.move rfl) rfl rfl rfl ?_
      refine TO.y (Y.move rfl) rfl rfl rfl ?_
      refine TO.y (Y.lss rfl rfl) rfl rfl rfl ?_
      refine TO.nil ?_
      refine TE.next ?_
      refine TW.cond rfl (fun H10 => ?_) (fun H10 => ?_)
      · refine TW.seq ?_
        refine TW.region ?_
        refine TO.y (Y.assign rfl) rfl rfl rfl ?_
        refine TO.nil ?_
        refine TE.next ?_
        refine TW.ret ?_
        refine TE.then_ret ?_
        exact TE.leaf fun _ _ hf_ hs_ => ret_any (rs := [.tmp 4]) (vs := [.int .i64 (-1 : Int)]) (.inl rfl) rfl ⟨rfl, trivial⟩ hf_ hs_ ⟨(), rfl, hs_.pulls [] rfl⟩
      · refine TW.skip ?_
        refine TE.next ?_
        refine TW.seq ?_
        refine TW.seq ?_
        refine TW.region ?_
        refine TO.y (Y.move rfl) rfl rfl rfl ?_
        refine TO.y (Y.move rfl) rfl rfl rfl ?_
        refine TO.y (Y.gtr rfl rfl) rfl rfl rfl ?_
        refine TO.nil ?_
        refine TE.next ?_
        refine TW.cond rfl (fun H11 => ?_) (fun H11 => ?_)
        · refine TW.seq ?_
          refine TW.region ?_
          refine TO.y (Y.assign rfl) rfl rfl rfl ?_
          refine TO.nil ?_
          refine TE.next ?_
          refine TW.ret ?_
          refine TE.then_ret ?_
          exact TE.leaf fun _ _ hf_ hs_ => ret_any (rs := [.tmp 4]) (vs := [.int .i64 (1 : Int)]) (.inl rfl) rfl ⟨rfl, trivial⟩ hf_ hs_ ⟨(), rfl, hs_.pulls [] rfl⟩
        · refine TW.skip ?_
          refine TE.next ?_
          refine TW.seq ?_
          refine TW.region ?_
          refine TO.y (Y.assign rfl) rfl rfl rfl ?_
          refine TO.nil ?_
          refine TE.next ?_
          refine TW.ret ?_
          exact TE.leaf fun _ _ hf_ hs_ => ret_any (rs := [.tmp 4]) (vs := [.int .i64 (0 : Int)]) (.inl rfl) rfl ⟨rfl, trivial⟩ hf_ hs_ ⟨(), rfl, hs_.pulls [] rfl⟩

/-- cmp.Or[int] -/
noncomputable def cmp_Or_26527 (vals : List Int) : Option Int :=
  bindC (loopO (fun (S1 : Int) => if (decide (S1 < ((vals.length : Nat) : Int))) = true then ((idx vals S1).bind fun E6 =>
  if (!(decide (E6 = (0 : Int)))) = true then (some (.done (.done E6)))
  else (some (.go (IntKind.i64.wrap (S1 + (1 : Int))))))
  else (some (.done (.go ()))))
  (0 : Int))
  (fun (T3 : Unit) => some (0 : Int))

theorem cmp_Or_26527_con (vals : List Int) (V_vals0 : Value) (r : Int) (hm : cmp_Or_26527 vals = some r) :
    Con Try.prog 150 [V_vals0] [] [(V_vals0, lc vals)] (fun _ : Unit => .int .i64 r) (fun _ => []) := by
  refine Con.intro (args := [V_vals0]) (n := 18) (val := fun r (_ : Unit) => .int .i64 r) (post := fun _ _ => []) (m := cmp_Or_26527 vals) Try.func150 rfl rfl rfl hm ?_
  intro w S hrd
  have HB_V_vals0 := hrd _ (.head _)
  clear hrd
  unfold cmp_Or_26527
  refine TW.seq ?_
  refine TW.region ?_
  refine TO.y (Y.assign rfl) rfl rfl rfl ?_
  refine TO.nil ?_
  refine TE.next ?_
  refine TW.seq ?_
  refine TW.region ?_
  refine TO.y (Y.assign rfl) rfl rfl rfl ?_
  refine TO.nil ?_
  refine TE.next ?_
  refine TW.seq ?_
  refine TW.seq ?_
  refine TW.region ?_
  refine TO.y (Y.move rfl) rfl rfl rfl ?_
  refine TO.y (Y.len (l := vals) ke78 (Base.can HB_V_vals0) rfl) rfl rfl rfl ?_
  refine TO.y (Y.move rfl) rfl rfl rfl ?_
  refine TO.nil ?_
  refine TE.next ?_
  refine TW.joinX (τ := Unit) (X := Unit) (fun _ _ => [(3, .int .i64 (0 : Int))]) (fun _ _ => []) ?_ (fun T3 X4 => ?_)
  · refine TW.block ?_
    refine TW.loopX (σ := Int) (X := Unit) (fun T _ => [(3, .int .i64 (0 : Int)), (6, V_vals0), (7, .int .i64 ((vals.length : Nat) : Int)), (8, .int .i64 T)]) (fun _ _ => []) () [] ⟨rfl, rfl, rfl, rfl, trivial⟩ rfl (fun S1 X2 => ?_)
    refine TW.seq ?_
    refine TW.region ?_
    refine TO.y (Y.lss rfl rfl) rfl rfl rfl ?_
    refine TO.nil ?_
    refine TE.next ?_
    refine TW.seq ?_
    refine TW.cond rfl (fun H5 => ?_) (fun H5 => ?_)
    · refine TW.skip ?_
      refine TE.next ?_
      refine TW.seq ?_
      refine TW.block ?_
      refine TW.seq ?_
      refine TW.region ?_
      refine TO.bind fun E6 H7 => ?_
      refine TO.y (Y.index ke78 (Base.can HB_V_vals0) H7 rfl rfl) rfl rfl rfl ?_
      refine TO.y (Y.load_el (us := [.int .i64 E6]) (u := .int .i64 E6) kk3 rfl (Base.can HB_V_vals0) (idx_get H7).2.2 rfl rfl rfl rfl rfl) rfl rfl rfl ?_
      refine TO.y (Y.assign rfl) rfl rfl rfl ?_
      refine TO.nil ?_
      refine TE.next ?_
      refine TW.seq ?_
      refine TW.region ?_
      refine TO.y (Y.move rfl) rfl rfl rfl ?_
      refine TO.y (Y.move rfl) rfl rfl rfl ?_
      refine TO.y (Y.neq rfl rfl) rfl rfl rfl ?_
      refine TO.nil ?_
      refine TE.next ?_
      refine TW.cond rfl (fun H8 => ?_) (fun H8 => ?_)
      · refine TW.seq ?_
        refine TW.region ?_
        refine TO.y (Y.move rfl) rfl rfl rfl ?_
        refine TO.y (Y.assign rfl) rfl rfl rfl ?_
        refine TO.nil ?_
        refine TE.next ?_
        refine TW.ret ?_
        refine TE.block_ret ?_
        refine TE.then_ret ?_
        refine TE.lp_ret ?_
        refine TE.block_ret ?_
        refine TE.jn_done ?_
        refine TE.then_ret ?_
        exact TE.leaf fun _ _ hf_ hs_ => ret_any (rs := [.tmp 2]) (vs := [.int .i64 E6]) (.inl rfl) rfl ⟨rfl, trivial⟩ hf_ hs_ ⟨(), rfl, hs_.pulls [] rfl⟩
      · refine TW.skip ?_
        refine TE.block_normal ?_
        refine TE.next ?_
        refine TW.region ?_
        refine TO.y (Y.add rfl rfl) rfl rfl rfl ?_
        refine TO.y (Y.move rfl) rfl rfl rfl ?_
        refine TO.nil ?_
        exact TE.lp_go () [] ⟨rfl, rfl, rfl, rfl, trivial⟩ rfl
    · refine TW.exit ?_
      refine TE.then_exit ?_
      refine TE.lp_exit ?_
      refine TE.block_exit ?_
      exact TE.jn_go () [] ⟨rfl, trivial⟩ rfl
  · refine TE.next ?_
    refine TW.seq ?_
    refine TW.region ?_
    refine TO.y (Y.move rfl) rfl rfl rfl ?_
    refine TO.y (Y.assign rfl) rfl rfl rfl ?_
    refine TO.nil ?_
    refine TE.next ?_
    refine TW.ret ?_
    exact TE.leaf fun _ _ hf_ hs_ => ret_any (rs := [.tmp 2]) (vs := [.int .i64 (0 : Int)]) (.inl rfl) rfl ⟨rfl, trivial⟩ hf_ hs_ ⟨(), rfl, hs_.pulls [] rfl⟩

/-- loop.example/g00950/impl.compareEnts -/
noncomputable def impl_compareEnts (a : Ent) (b : Ent) : Option Int :=
  (cmp_Compare_83645 a.Key b.Key).bind fun R3 =>
  (cmp_Compare_26527 b.Seq a.Seq).bind fun R6 =>
  (cmp_Or_26527 ([R3, R6])).bind fun R10 =>
  some R10

theorem impl_compareEnts_con (a : Ent) (b : Ent)  (r : Int) (hm : impl_compareEnts a b = some r) :
    Con Try.prog 135 [.agg #[strV a.Key, .int .i64 a.Seq, .bool a.Del, strV a.Val], .agg #[strV b.Key, .int .i64 b.Seq, .bool b.Del, strV b.Val]] [] [] (fun _ : Unit => .int .i64 r) (fun _ => []) := by
  refine Con.intro (args := [.agg #[strV a.Key, .int .i64 a.Seq, .bool a.Del, strV a.Val], .agg #[strV b.Key, .int .i64 b.Seq, .bool b.Del, strV b.Val]]) (n := 17) (val := fun r (_ : Unit) => .int .i64 r) (post := fun _ _ => []) (m := impl_compareEnts a b) Try.func135 rfl rfl rfl hm ?_
  intro w S _
  unfold impl_compareEnts
  refine TW.seq ?_
  refine TW.region ?_
  refine TO.ef (Ef.box rfl (Cel.plain rfl rfl)) rfl rfl rfl (fun B1 => ?_)
  refine TO.ef (Ef.box rfl (Cel.plain rfl rfl)) rfl rfl rfl (fun B2 => ?_)
  refine TO.y (Y.assign rfl) rfl rfl rfl ?_
  refine TO.nil ?_
  refine TE.next ?_
  refine TW.seq ?_
  refine TW.draw (isH := [.box B2 130 [strV b.Key, .int .i64 b.Seq, .bool b.Del, strV b.Val], .box B1 130 [strV a.Key, .int .i64 a.Seq, .bool a.Del, strV a.Val]]) hMix ?_
  refine TA.y (listed' := #[true, false, false, false, false, false, false, false, false, false, false, false, false]) 0 [0, 0] rfl (Y.field_box kf130_0 rfl rfl) rfl rfl rfl (by kernel_rfl) (by kernel_rfl) (by kernel_rfl) rfl rfl ?_
  refine TA.y (listed' := #[true, true, false, false, false, false, false, false, false, false, false, false, false]) 1 [0, 0] rfl (Y.load_box (v := strV a.Key) 1 kk9 rfl rfl rfl) rfl rfl rfl (by kernel_rfl) (by kernel_rfl) (by kernel_rfl) rfl rfl ?_
  refine TA.y (listed' := #[true, true, true, false, false, false, false, false, false, false, false, false, false]) 2 [0, 0] rfl (Y.field_box kf130_0 rfl rfl) rfl rfl rfl (by kernel_rfl) (by kernel_rfl) (by kernel_rfl) rfl rfl ?_
  refine TA.y (listed' := #[true, true, true, true, false, false, false, false, false, false, false, false, false]) 3 [0, 0] rfl (Y.load_box (v := strV b.Key) 0 kk9 rfl rfl rfl) rfl rfl rfl (by kernel_rfl) (by kernel_rfl) (by kernel_rfl) rfl rfl ?_
  refine TA.y (listed' := #[true, true, true, true, false, true, false, false, false, false, false, false, false]) 5 [0, 0] rfl (Y.field_box kf130_1 rfl rfl) rfl rfl rfl (by kernel_rfl) (by kernel_rfl) (by kernel_rfl) rfl rfl ?_
  refine TA.y (listed' := #[true, true, true, true, false, true, true, false, false, false, false, false, false]) 6 [0, 0] rfl (Y.load_box (v := .int .i64 b.Seq) 0 kk3 rfl rfl rfl) rfl rfl rfl (by kernel_rfl) (by kernel_rfl) (by kernel_rfl) rfl rfl ?_
  refine TA.y (listed' := #[true, true, true, true, false, true, true, true, false, false, false, false, false]) 7 [0, 0] rfl (Y.field_box kf130_1 rfl rfl) rfl rfl rfl (by kernel_rfl) (by kernel_rfl) (by kernel_rfl) rfl rfl ?_
  refine TA.y (listed' := #[true, true, true, true, false, true, true, true, true, false, false, false, false]) 8 [0, 0] rfl (Y.load_box (v := .int .i64 a.Seq) 1 kk3 rfl rfl rfl) rfl rfl rfl (by kernel_rfl) (by kernel_rfl) (by kernel_rfl) rfl rfl ?_
  refine TA.bind fun R3 H4 => ?_
  refine TA.one 4 (by kernel_rfl) ?_
  refine TX.ef (listed' := #[true, true, true, true, true, true, true, true, true, false, false, false, false]) [0, 0] rfl (Ef.call (rest := [.box B2 130 [strV b.Key, .int .i64 b.Seq, .bool b.Del, strV b.Val], .box B1 130 [strV a.Key, .int .i64 a.Seq, .bool a.Del, strV a.Val]]) [0, 0] (cmp_Compare_83645_con a.Key b.Key  R3 H4) kc119 rfl rfl trivial) rfl rfl rfl rfl (fun _ => rfl) (fun _ => ?_)
  refine TA.bind fun R6 H7 => ?_
  refine TA.one 9 (by kernel_rfl) ?_
  refine TX.ef (listed' := #[true, true, true, true, true, true, true, true, true, true, false, false, false]) [0, 0] rfl (Ef.call (rest := [.box B2 130 [strV b.Key, .int .i64 b.Seq, .bool b.Del, strV b.Val], .box B1 130 [strV a.Key, .int .i64 a.Seq, .bool a.Del, strV a.Val]]) [0, 0] (cmp_Compare_26527_con b.Seq a.Seq  R6 H7) kc118 rfl rfl trivial) rfl rfl rfl rfl (fun _ => rfl) (fun _ => ?_)
  refine TA.one 10 (by kernel_rfl) ?_
  refine TX.ef (listed' := #[true, true, true, true, true, true, true, true, true, true, true, false, false]) [1, 1] rfl (Ef.buildSlice (α := Int) (Vs := [.int .i64 R3, .int .i64 R6]) [R3, R6] ke78 kz3 rfl rfl rfl rfl rfl) rfl rfl rfl rfl (fun _ => rfl) (fun B9 => ?_)
  refine TA.bind fun R10 H11 => ?_
  refine TA.one 11 (by kernel_rfl) ?_
  refine TX.ef (listed' := #[true, true, true, true, true, true, true, true, true, true, true, true, false]) [1, 1] rfl (Ef.call (rest := [.own (.slice (some ⟨B9, 0, none⟩) 2 2) (lc ([R3, R6])), .box B2 130 [strV b.Key, .int .i64 b.Seq, .bool b.Del, strV b.Val], .box B1 130 [strV a.Key, .int .i64 a.Seq, .bool a.Del, strV a.Val]]) [0, 0, 0] (cmp_Or_26527_con ([R3, R6]) (.slice (some ⟨B9, 0, none⟩) 2 2) R10 H11) kc150 rfl rfl ⟨(Can.own 0 rfl), trivial⟩) rfl rfl rfl rfl (fun _ => rfl) (fun _ => ?_)
  refine TA.y (listed' := #[true, true, true, true, true, true, true, true, true, true, true, true, true]) 12 [1, 1] rfl (Y.assign rfl) rfl rfl rfl (by kernel_rfl) (by kernel_rfl) (by kernel_rfl) rfl rfl ?_
  refine TA.nil (by kernel_rfl) ?_
  refine TE.next ?_
  refine TW.ret ?_
  exact TE.leaf fun _ _ hf_ hs_ => ret_any (rs := [.tmp 4]) (vs := [.int .i64 R10]) (.inl rfl) rfl ⟨rfl, trivial⟩ hf_ hs_ ⟨(), rfl, hs_.pulls [] rfl⟩

/-- loop.example/g00950/impl.inOrder -/
noncomputable def impl_inOrder (l : List Ent) : Option Bool :=
  bindC (loopO (fun (S1 : Int) => if (decide (S1 < ((l.length : Nat) : Int))) = true then ((idx l S1).bind fun E6 =>
  ((impl_entOk E6).bind fun R11 =>
  if (!R11) = true then (some true)
  else (if (decide (S1 > (0 : Int))) = true then ((idx l (IntKind.i64.wrap (S1 - (1 : Int)))).bind fun E16 =>
  (impl_compareEnts E16 E6).bind fun R18 =>
  some (decide (R18 ≥ (0 : Int))))
  else (some false))).bind (fun (T9 : Bool) =>
  if T9 = true then (some (.done (.done false)))
  else (some (.go (IntKind.i64.wrap (S1 + (1 : Int)))))))
  else (some (.done (.go ()))))
  (0 : Int))
  (fun (T3 : Unit) => some true)

theorem impl_inOrder_con (l : List Ent) (V_l0 : Value) (r : Bool) (hm : impl_inOrder l = some r) :
    Con Try.prog 101 [V_l0] [] [(V_l0, lc l)] (fun _ : Unit => .bool r) (fun _ => []) := by
  refine Con.intro (args := [V_l0]) (n := 30) (val := fun r (_ : Unit) => .bool r) (post := fun _ _ => []) (m := impl_inOrder l) Try.func101 rfl rfl rfl hm ?_
  intro w S hrd
  have HB_V_l0 := hrd _ (.head _)
  clear hrd
  unfold impl_inOrder
  refine TW.seq ?_
  refine TW.region ?_
  refine TO.y (Y.assign rfl) rfl rfl rfl ?_
  refine TO.nil ?_
  refine TE.next ?_
  refine TW.seq ?_
  refine TW.seq ?_
  refine TW.region ?_
  refine TO.y (Y.move rfl) rfl rfl rfl ?_
  refine TO.y (Y.len (l := l) ke80 (Base.can HB_V_l0) rfl) rfl rfl rfl ?_
  refine TO.y (Y.move rfl) rfl rfl rfl ?_
  refine TO.nil ?_
  refine TE.next ?_
  refine TW.joinX (τ := Unit) (X := Unit) (fun _ _ => []) (fun _ _ => []) ?_ (fun T3 X4 => ?_)
  · refine TW.block ?_
    refine TW.loopX (σ := Int) (X := Unit) (fun T _ => [(0, V_l0), (5, V_l0), (6, .int .i64 ((l.length : Nat) : Int)), (7, .int .i64 T)]) (fun _ _ => []) () [] ⟨rfl, rfl, rfl, rfl, trivial⟩ rfl (fun S1 X2 => ?_)
    refine TW.seq ?_
    refine TW.region ?_
    refine TO.y (Y.lss rfl rfl) rfl rfl rfl ?_
    refine TO.nil ?_
    refine TE.next ?_
    refine TW.seq ?_
    refine TW.cond rfl (fun H5 => ?_) (fun H5 => ?_)
    · refine TW.skip ?_
      refine TE.next ?_
      refine TW.seq ?_
      refine TW.block ?_
      refine TW.seq ?_
      refine TW.region ?_
      refine TO.y (Y.move rfl) rfl rfl rfl ?_
      refine TO.bind fun E6 H7 => ?_
      refine TO.y (Y.index ke80 (Base.can HB_V_l0) H7 rfl rfl) rfl rfl rfl ?_
      refine TO.y (Y.load_el (us := [strV E6.Key, .int .i64 E6.Seq, .bool E6.Del, strV E6.Val]) (u := .agg #[strV E6.Key, .int .i64 E6.Seq, .bool E6.Del, strV E6.Val]) kk130 rfl (Base.can HB_V_l0) (idx_get H7).2.2 rfl rfl rfl rfl rfl) rfl rfl rfl ?_
      refine TO.ef (Ef.alloc kz130 rfl) rfl rfl rfl (fun B8 => ?_)
      refine TO.y (Y.assign rfl) rfl rfl rfl ?_
      refine TO.ef0 (Ef.store_box (us := [strV E6.Key, .int .i64 E6.Seq, .bool E6.Del, strV E6.Val]) (vs' := [strV E6.Key, .int .i64 E6.Seq, .bool E6.Del, strV E6.Val]) (is' := [.box B8 130 [strV E6.Key, .int .i64 E6.Seq, .bool E6.Del, strV E6.Val]]) 0 kk130 rfl rfl rfl (Cel.plain rfl rfl) rfl rfl rfl rfl) rfl rfl (fun _ => ?_)
      refine TO.nil ?_
      refine TE.next ?_
      refine TW.seq ?_
      refine TW.joinBX (τ := Bool) (X := Unit) (fun T _ => [(0, V_l0), (5, V_l0), (6, .int .i64 ((l.length : Nat) : Int)), (7, .int .i64 S1), (28, .bool T)]) (fun _ _ => []) ?_ (fun T9 X10 => ?_)
      · refine TW.draw (isH := [.box B8 130 [strV E6.Key, .int .i64 E6.Seq, .bool E6.Del, strV E6.Val]]) hMix ?_
        refine TA.y (listed' := #[true, false, false, false, false, false, false, false, false, false, false, false, false, false, false, false, false]) 0 [0] rfl (Y.load_box (v := .agg #[strV E6.Key, .int .i64 E6.Seq, .bool E6.Del, strV E6.Val]) 0 kk130 rfl rfl rfl) rfl rfl rfl (by kernel_rfl) (by kernel_rfl) (by kernel_rfl) rfl rfl ?_
        refine TA.bind fun R11 H12 => ?_
        refine TA.one 1 (by kernel_rfl) ?_
        refine TX.ef (listed' := #[true, true, false, false, false, false, false, false, false, false, false, false, false, false, false, false, false]) [0] rfl (Ef.call (rest := [.box B8 130 [strV E6.Key, .int .i64 E6.Seq, .bool E6.Del, strV E6.Val]]) [0] (impl_entOk_con E6  R11 H12) kc134 rfl rfl trivial) rfl rfl rfl rfl (fun _ => rfl) (fun _ => ?_)
        refine TA.y (listed' := #[true, true, true, false, false, false, false, false, false, false, false, false, false, false, false, false, false]) 2 [0] rfl (Y.not rfl) rfl rfl rfl (by kernel_rfl) (by kernel_rfl) (by kernel_rfl) rfl rfl ?_
        refine TA.y (listed' := #[true, true, true, true, false, false, false, false, false, false, false, false, false, false, false, false, false]) 3 [0] rfl (Y.move rfl) rfl rfl rfl (by kernel_rfl) (by kernel_rfl) (by kernel_rfl) rfl rfl ?_
        refine TA.ite (b := !R11) (fun H14 => ?_) (fun H14 => ?_)
        · refine TA.off (listed' := #[true, true, true, true, true, false, false, false, false, false, false, false, false, false, false, false, false]) 4 [0] rfl (Gd.at 3 false 15 (!R11) rfl rfl rfl (beq_tf H14)) rfl rfl (by kernel_rfl) (by kernel_rfl) (by kernel_rfl) rfl rfl ?_
          refine TA.off (listed' := #[true, true, true, true, true, true, false, false, false, false, false, false, false, false, false, false, false]) 5 [0] rfl (Gd.at 3 false 15 (!R11) rfl rfl rfl (beq_tf H14)) rfl rfl (by kernel_rfl) (by kernel_rfl) (by kernel_rfl) rfl rfl ?_
          refine TA.off (listed' := #[true, true, true, true, true, true, true, false, false, false, false, false, false, false, false, false, false]) 6 [0] rfl (Gd.at 3 false 15 (!R11) rfl rfl rfl (beq_tf H14)) rfl rfl (by kernel_rfl) (by kernel_rfl) (by kernel_rfl) rfl rfl ?_
          refine TA.off (listed' := #[true, true, true, true, true, true, true, true, false, false, false, false, false, false, false, false, false]) 7 [0] rfl (Gd.un 6 true 18 rfl rfl rfl) rfl rfl (by kernel_rfl) (by kernel_rfl) (by kernel_rfl) rfl rfl ?_
          refine TA.off (listed' := #[true, true, true, true, true, true, true, true, true, false, false, false, false, false, false, false, false]) 8 [0] rfl (Gd.un 6 true 18 rfl rfl rfl) rfl rfl (by kernel_rfl) (by kernel_rfl) (by kernel_rfl) rfl rfl ?_
          refine TA.off (listed' := #[true, true, true, true, true, true, true, true, true, true, false, false, false, false, false, false, false]) 9 [0] rfl (Gd.un 6 true 18 rfl rfl rfl) rfl rfl (by kernel_rfl) (by kernel_rfl) (by kernel_rfl) rfl rfl ?_
          refine TA.off (listed' := #[true, true, true, true, true, true, true, true, true, true, true, false, false, false, false, false, false]) 10 [0] rfl (Gd.un 6 true 18 rfl rfl rfl) rfl rfl (by kernel_rfl) (by kernel_rfl) (by kernel_rfl) rfl rfl ?_
          refine TA.off (listed' := #[true, true, true, true, true, true, true, true, true, true, true, true, false, false, false, false, false]) 11 [0] rfl (Gd.un 6 true 18 rfl rfl rfl) rfl rfl (by kernel_rfl) (by kernel_rfl) (by kernel_rfl) rfl rfl ?_
          refine TA.off (listed' := #[true, true, true, true, true, true, true, true, true, true, true, true, true, false, false, false, false]) 12 [0] rfl (Gd.un 6 true 18 rfl rfl rfl) rfl rfl (by kernel_rfl) (by kernel_rfl) (by kernel_rfl) rfl rfl ?_
          refine TA.off (listed' := #[true, true, true, true, true, true, true, true, true, true, true, true, true, true, false, false, false]) 13 [0] rfl (Gd.un 6 true 18 rfl rfl rfl) rfl rfl (by kernel_rfl) (by kernel_rfl) (by kernel_rfl) rfl rfl ?_
          refine TA.off (listed' := #[true, true, true, true, true, true, true, true, true, true, true, true, true, true, true, false, false]) 14 [0] rfl (Gd.un 6 true 18 rfl rfl rfl) rfl rfl (by kernel_rfl) (by kernel_rfl) (by kernel_rfl) rfl rfl ?_
          refine TA.off (listed' := #[true, true, true, true, true, true, true, true, true, true, true, true, true, true, true, true, false]) 15 [0] rfl (Gd.at 3 false 15 (!R11) rfl rfl rfl (beq_tf H14)) rfl rfl (by kernel_rfl) (by kernel_rfl) (by kernel_rfl) rfl rfl ?_
          refine TA.y (listed' := #[true, true, true, true, true, true, true, true, true, true, true, true, true, true, true, true, true]) 16 [0] rfl (Y.pick_t H14 rfl rfl) rfl rfl rfl (by kernel_rfl) (by kernel_rfl) (by kernel_rfl) rfl rfl ?_
          refine TA.nil (by kernel_rfl) ?_
          exact TE.jb_go () [] ⟨rfl, rfl, rfl, rfl, rfl, trivial⟩ rfl
        · refine TA.y (listed' := #[true, true, true, true, true, false, false, false, false, false, false, false, false, false, false, false, false]) 4 [0] rfl (Y.move rfl) (Gd.at 3 false 15 (!R11) rfl rfl rfl (beq_ff H14)) rfl rfl (by kernel_rfl) (by kernel_rfl) (by kernel_rfl) rfl rfl ?_
          refine TA.y (listed' := #[true, true, true, true, true, true, false, false, false, false, false, false, false, false, false, false, false]) 5 [0] rfl (Y.gtr rfl rfl) (Gd.at 3 false 15 (!R11) rfl rfl rfl (beq_ff H14)) rfl rfl (by kernel_rfl) (by kernel_rfl) (by kernel_rfl) rfl rfl ?_
          refine TA.y (listed' := #[true, true, true, true, true, true, true, false, false, false, false, false, false, false, false, false, false]) 6 [0] rfl (Y.move rfl) (Gd.at 3 false 15 (!R11) rfl rfl rfl (beq_ff H14)) rfl rfl (by kernel_rfl) (by kernel_rfl) (by kernel_rfl) rfl rfl ?_
          refine TA.ite (b := decide (S1 > (0 : Int))) (fun H15 => ?_) (fun H15 => ?_)
          · refine TA.y (listed' := #[true, true, true, true, true, true, true, true, false, false, false, false, false, false, false, false, false]) 7 [0] rfl (Y.move rfl) (Gd.at 6 true 18 (decide (S1 > (0 : Int))) rfl rfl rfl (beq_tt H15)) rfl rfl (by kernel_rfl) (by kernel_rfl) (by kernel_rfl) rfl rfl ?_
            refine TA.y (listed' := #[true, true, true, true, true, true, true, true, true, false, false, false, false, false, false, false, false]) 8 [0] rfl (Y.move rfl) (Gd.at 6 true 18 (decide (S1 > (0 : Int))) rfl rfl rfl (beq_tt H15)) rfl rfl (by kernel_rfl) (by kernel_rfl) (by kernel_rfl) rfl rfl ?_
            refine TA.y (listed' := #[true, true, true, true, true, true, true, true, true, true, false, false, false, false, false, false, false]) 9 [0] rfl (Y.sub rfl rfl) (Gd.at 6 true 18 (decide (S1 > (0 : Int))) rfl rfl rfl (beq_tt H15)) rfl rfl (by kernel_rfl) (by kernel_rfl) (by kernel_rfl) rfl rfl ?_
            refine TA.bind fun E16 H17 => ?_
            refine TA.y (listed' := #[true, true, true, true, true, true, true, true, true, true, true, false, false, false, false, false, false]) 10 [0] rfl (Y.index ke80 (Base.can HB_V_l0) H17 rfl rfl) (Gd.at 6 true 18 (decide (S1 > (0 : Int))) rfl rfl rfl (beq_tt H15)) rfl rfl (by kernel_rfl) (by kernel_rfl) (by kernel_rfl) rfl rfl ?_
            refine TA.y (listed' := #[true, true, true, true, true, true, true, true, true, true, true, true, false, false, false, false, false]) 11 [0] rfl (Y.load_el (us := [strV E16.Key, .int .i64 E16.Seq, .bool E16.Del, strV E16.Val]) (u := .agg #[strV E16.Key, .int .i64 E16.Seq, .bool E16.Del, strV E16.Val]) kk130 rfl (Base.can HB_V_l0) (idx_get H17).2.2 rfl rfl rfl rfl rfl) (Gd.at 6 true 18 (decide (S1 > (0 : Int))) rfl rfl rfl (beq_tt H15)) rfl rfl (by kernel_rfl) (by kernel_rfl) (by kernel_rfl) rfl rfl ?_
            refine TA.y (listed' := #[true, true, true, true, true, true, true, true, true, true, true, true, true, false, false, false, false]) 12 [0] rfl (Y.load_box (v := .agg #[strV E6.Key, .int .i64 E6.Seq, .bool E6.Del, strV E6.Val]) 0 kk130 rfl rfl rfl) (Gd.at 6 true 18 (decide (S1 > (0 : Int))) rfl rfl rfl (beq_tt H15)) rfl rfl (by kernel_rfl) (by kernel_rfl) (by kernel_rfl) rfl rfl ?_
            refine TA.bind fun R18 H19 => ?_
            refine TA.one 13 (by kernel_rfl) ?_
            refine TX.ef (listed' := #[true, true, true, true, true, true, true, true, true, true, true, true, true, true, false, false, false]) [0] rfl (Ef.call (rest := [.box B8 130 [strV E6.Key, .int .i64 E6.Seq, .bool E6.Del, strV E6.Val]]) [0] (impl_compareEnts_con E16 E6  R18 H19) kc135 rfl rfl trivial) (Gd.at 6 true 18 (decide (S1 > (0 : Int))) rfl rfl rfl (beq_tt H15)) rfl rfl rfl (fun _ => rfl) (fun _ => ?_)
            refine TA.y (listed' := #[true, true, true, true, true, true, true, true, true, true, true, true, true, true, true, false, false]) 14 [0] rfl (Y.geq rfl rfl) (Gd.at 6 true 18 (decide (S1 > (0 : Int))) rfl rfl rfl (beq_tt H15)) rfl rfl (by kernel_rfl) (by kernel_rfl) (by kernel_rfl) rfl rfl ?_
            refine TA.y (listed' := #[true, true, true, true, true, true, true, true, true, true, true, true, true, true, true, true, false]) 15 [0] rfl (Y.pick_t H15 rfl rfl) (Gd.at 3 false 15 (!R11) rfl rfl rfl (beq_ff H14)) rfl rfl (by kernel_rfl) (by kernel_rfl) (by kernel_rfl) rfl rfl ?_
            refine TA.y (listed' := #[true, true, true, true, true, true, true, true, true, true, true, true, true, true, true, true, true]) 16 [0] rfl (Y.pick_f H14 rfl rfl) rfl rfl rfl (by kernel_rfl) (by kernel_rfl) (by kernel_rfl) rfl rfl ?_
            refine TA.nil (by kernel_rfl) ?_
            exact TE.jb_go () [] ⟨rfl, rfl, rfl, rfl, rfl, trivial⟩ rfl
          · refine TA.off (listed' := #[true, true, true, true, true, true, true, true, false, false, false, false, false, false, false, false, false]) 7 [0] rfl (Gd.at 6 true 18 (decide (S1 > (0 : Int))) rfl rfl rfl (beq_ft H15)) rfl rfl (by kernel_rfl) (by kernel_rfl) (by kernel_rfl) rfl rfl ?_
            refine TA.off (listed' := #[true, true, true, true, true, true, true, true, true, false, false, false, false, false, false, false, false]) 8 [0] rfl (Gd.at 6 true 18 (decide (S1 > (0 : Int))) rfl rfl rfl (beq_ft H15)) rfl rfl (by kernel_rfl) (by kernel_rfl) (by kernel_rfl) rfl rfl ?_
            refine TA.off (listed' := #[true, true, true, true, true, true, true, true, true, true, false, false, false, false, false, false, false]) 9 [0] rfl (Gd.at 6 true 18 (decide (S1 > (0 : Int))) rfl rfl rfl (beq_ft H15)) rfl rfl (by kernel_rfl) (by kernel_rfl) (by kernel_rfl) rfl rfl ?_
            refine TA.off (listed' := #[true, true, true, true, true, true, true, true, true, true, true, false, false, false, false, false, false]) 10 [0] rfl (Gd.at 6 true 18 (decide (S1 > (0 : Int))) rfl rfl rfl (beq_ft H15)) rfl rfl (by kernel_rfl) (by kernel_rfl) (by kernel_rfl) rfl rfl ?_
            refine TA.off (listed' := #[true, true, true, true, true, true, true, true, true, true, true, true, false, false, false, false, false]) 11 [0] rfl (Gd.at 6 true 18 (decide (S1 > (0 : Int))) rfl rfl rfl (beq_ft H15)) rfl rfl (by kernel_rfl) (by kernel_rfl) (by kernel_rfl) rfl rfl ?_
            refine TA.off (listed' := #[true, true, true, true, true, true, true, true, true, true, true, true, true, false, false, false, false]) 12 [0] rfl (Gd.at 6 true 18 (decide (S1 > (0 : Int))) rfl rfl rfl (beq_ft H15)) rfl rfl (by kernel_rfl) (by kernel_rfl) (by kernel_rfl) rfl rfl ?_
            refine TA.off (listed' := #[true, true, true, true, true, true, true, true, true, true, true, true, true, true, false, false, false]) 13 [0] rfl (Gd.at 6 true 18 (decide (S1 > (0 : Int))) rfl rfl rfl (beq_ft H15)) rfl rfl (by kernel_rfl) (by kernel_rfl) (by kernel_rfl) rfl rfl ?_
            refine TA.off (listed' := #[true, true, true, true, true, true, true, true, true, true, true, true, true, true, true, false, false]) 14 [0] rfl (Gd.at 6 true 18 (decide (S1 > (0 : Int))) rfl rfl rfl (beq_ft H15)) rfl rfl (by kernel_rfl) (by kernel_rfl) (by kernel_rfl) rfl rfl ?_
            refine TA.y (listed' := #[true, true, true, true, true, true, true, true, true, true, true, true, true, true, true, true, false]) 15 [0] rfl (Y.pick_f H15 rfl rfl) (Gd.at 3 false 15 (!R11) rfl rfl rfl (beq_ff H14)) rfl rfl (by kernel_rfl) (by kernel_rfl) (by kernel_rfl) rfl rfl ?_
            refine TA.y (listed' := #[true, true, true, true, true, true, true, true, true, true, true, true, true, true, true, true, true]) 16 [0] rfl (Y.pick_f H14 rfl rfl) rfl rfl rfl (by kernel_rfl) (by kernel_rfl) (by kernel_rfl) rfl rfl ?_
            refine TA.nil (by kernel_rfl) ?_
            exact TE.jb_go () [] ⟨rfl, rfl, rfl, rfl, rfl, trivial⟩ rfl
      · refine TE.next ?_
        refine TW.cond rfl (fun H21 => ?_) (fun H21 => ?_)
        · refine TW.seq ?_
          refine TW.region ?_
          refine TO.y (Y.assign rfl) rfl rfl rfl ?_
          refine TO.nil ?_
          refine TE.next ?_
          refine TW.ret ?_
          refine TE.block_ret ?_
          refine TE.then_ret ?_
          refine TE.lp_ret ?_
          refine TE.block_ret ?_
          refine TE.jn_done ?_
          refine TE.then_ret ?_
          exact TE.leaf fun _ _ hf_ hs_ => ret_any (rs := [.tmp 2]) (vs := [.bool false]) (.inl rfl) rfl ⟨rfl, trivial⟩ hf_ hs_ ⟨(), rfl, hs_.pulls [] rfl⟩
        · refine TW.skip ?_
          refine TE.block_normal ?_
          refine TE.next ?_
          refine TW.region ?_
          refine TO.y (Y.add rfl rfl) rfl rfl rfl ?_
          refine TO.y (Y.move rfl) rfl rfl rfl ?_
          refine TO.nil ?_
          exact TE.lp_go () [] ⟨rfl, rfl, rfl, rfl, trivial⟩ rfl
    · refine TW.exit ?_
      refine TE.then_exit ?_
      refine TE.lp_exit ?_
      refine TE.block_exit ?_
      exact TE.jn_go () [] trivial rfl
  · refine TE.next ?_
    refine TW.seq ?_
    refine TW.region ?_
    refine TO.y (Y.assign rfl) rfl rfl rfl ?_
    refine TO.nil ?_
    refine TE.next ?_
    refine TW.ret ?_
    exact TE.leaf fun _ _ hf_ hs_ => ret_any (rs := [.tmp 2]) (vs := [.bool true]) (.inl rfl) rfl ⟨rfl, trivial⟩ hf_ hs_ ⟨(), rfl, hs_.pulls [] rfl⟩

/-- loop.example/g00950/impl.visible -/
noncomputable def impl_visible (l : List Ent) (seq : Int) : Option (List KV) :=
  bindC (loopO (fun (S1 : List UInt8 × Bool × Int × List KV) => if (decide (S1.2.2.1 < ((l.length : Nat) : Int))) = true then (bindC ((idx l S1.2.2.1).bind fun E8 =>
  (if (decide (E8.Seq > seq)) = true then (some true)
  else (if S1.2.1 = true then (some (decide (E8.Key = S1.1)))
  else (some false))).bind (fun (T11 : Bool) =>
  if T11 = true then (some (.go (S1.1, S1.2.1, S1.2.2.2)))
  else (bindC (if (!E8.Del) = true then ((app 32 S1.2.2.2 ([{ Key := E8.Key, Val := E8.Val : KV }])).bind fun E21 =>
  some (.go E21))
  else (some (.go S1.2.2.2)))
  (fun (T16 : List KV) => some (.go (E8.Key, true, T16))))))
  (fun (T6 : List UInt8 × Bool × List KV) => some (.go (T6.1, T6.2.1, IntKind.i64.wrap (S1.2.2.1 + (1 : Int)), T6.2.2))))
  else (some (.done (.go S1.2.2.2))))
  ([], false, (0 : Int), ([] : List KV)))
  (fun (T3 : List KV) => some T3)

theorem impl_visible_con (l : List Ent) (seq : Int) (V_l0 : Value) (r : List KV) (hm : impl_visible l seq = some r) :
    Con Try.prog 105 [V_l0, .int .i64 seq] [] [(V_l0, lc l)] (fun X : Value => X) (fun X => [.own X (lc r)]) := by
  refine Con.intro (args := [V_l0, .int .i64 seq]) (n := 44) (val := fun _ (X : Value) => X) (post := fun r X => [.own X (lc r)]) (m := impl_visible l seq) Try.func105 rfl rfl rfl hm ?_
  intro w S hrd
  have HB_V_l0 := hrd _ (.head _)
  clear hrd
  unfold impl_visible
  refine TW.seq ?_
  refine TW.region ?_
  refine TO.y (Y.assign rfl) rfl rfl rfl ?_
  refine TO.nil ?_
  refine TE.next ?_
  refine TW.seq ?_
  refine TW.region ?_
  refine TO.y (Y.assign rfl) rfl rfl rfl ?_
  refine TO.nil ?_
  refine TE.next ?_
  refine TW.seq ?_
  refine TW.region ?_
  refine TO.y (Y.assign rfl) rfl rfl rfl ?_
  refine TO.y (Y.assign rfl) rfl rfl rfl ?_
  refine TO.nil ?_
  refine TE.next ?_
  refine TW.seq ?_
  refine TW.seq ?_
  refine TW.region ?_
  refine TO.y (Y.move rfl) rfl rfl rfl ?_
  refine TO.y (Y.len (l := l) ke80 (Base.can HB_V_l0) rfl) rfl rfl rfl ?_
  refine TO.y (Y.move rfl) rfl rfl rfl ?_
  refine TO.nil ?_
  refine TE.next ?_
  refine TW.joinX (τ := List KV) (X := Value) (fun _ X => [(5, X)]) (fun T X => [.own X (lc T)]) ?_ (fun T3 X4 => ?_)
  · refine TW.block ?_
    refine TW.nilItem 2 ?_
    refine TW.loopX (σ := List UInt8 × Bool × Int × List KV) (X := Value) (fun T X => [(1, .int .i64 seq), (5, X), (6, strV T.1), (7, .bool T.2.1), (10, V_l0), (11, .int .i64 ((l.length : Nat) : Int)), (12, .int .i64 T.2.2.1)]) (fun T X => [.own X (lc T.2.2.2)]) (.slice none 0 0) [0] ⟨rfl, rfl, rfl, rfl, rfl, rfl, rfl, trivial⟩ rfl (fun S1 X2 => ?_)
    refine TW.seq ?_
    refine TW.region ?_
    refine TO.y (Y.lss rfl rfl) rfl rfl rfl ?_
    refine TO.nil ?_
    refine TE.next ?_
    refine TW.seq ?_
    refine TW.cond rfl (fun H5 => ?_) (fun H5 => ?_)
    · refine TW.skip ?_
      refine TE.next ?_
      refine TW.seq ?_
      refine TW.joinX (τ := List UInt8 × Bool × List KV) (X := Value) (fun T X => [(1, .int .i64 seq), (5, X), (6, strV T.1), (7, .bool T.2.1), (10, V_l0), (11, .int .i64 ((l.length : Nat) : Int)), (12, .int .i64 S1.2.2.1)]) (fun T X => [.own X (lc T.2.2)]) ?_ (fun T6 X7 => ?_)
      · refine TW.block ?_
        refine TW.seq ?_
        refine TW.region ?_
        refine TO.bind fun E8 H9 => ?_
        refine TO.y (Y.index ke80 (Base.can HB_V_l0) H9 rfl rfl) rfl rfl rfl ?_
        refine TO.y (Y.load_el (us := [strV E8.Key, .int .i64 E8.Seq, .bool E8.Del, strV E8.Val]) (u := .agg #[strV E8.Key, .int .i64 E8.Seq, .bool E8.Del, strV E8.Val]) kk130 rfl (Base.can HB_V_l0) (idx_get H9).2.2 rfl rfl rfl rfl rfl) rfl rfl rfl ?_
        refine TO.ef (Ef.alloc kz130 rfl) rfl rfl rfl (fun B10 => ?_)
        refine TO.ef0 (Ef.store_box (us := [strV E8.Key, .int .i64 E8.Seq, .bool E8.Del, strV E8.Val]) (vs' := [strV E8.Key, .int .i64 E8.Seq, .bool E8.Del, strV E8.Val]) (is' := [.box B10 130 [strV E8.Key, .int .i64 E8.Seq, .bool E8.Del, strV E8.Val], .own X2 (lc S1.2.2.2)]) 0 kk130 rfl rfl rfl (Cel.plain rfl rfl) rfl rfl rfl rfl) rfl rfl (fun _ => ?_)
        refine TO.nil ?_
        refine TE.next ?_
        refine TW.seq ?_
        refine TW.seq ?_
        refine TW.joinBX (τ := Bool) (X := Unit) (fun T _ => [(1, .int .i64 seq), (5, X2), (6, strV S1.1), (7, .bool S1.2.1), (9, .pointer (some ⟨B10, 0, none⟩)), (10, V_l0), (11, .int .i64 ((l.length : Nat) : Int)), (12, .int .i64 S1.2.2.1), (28, .bool T)]) (fun _ _ => [.box B10 130 [strV E8.Key, .int .i64 E8.Seq, .bool E8.Del, strV E8.Val], .own X2 (lc S1.2.2.2)]) ?_ (fun T11 X12 => ?_)
        · refine TW.region ?_
          refine TO.y (Y.field_box kf130_1 rfl rfl) rfl rfl rfl ?_
          refine TO.y (Y.load_box (v := .int .i64 E8.Seq) 0 kk3 rfl rfl rfl) rfl rfl rfl ?_
          refine TO.y (Y.move rfl) rfl rfl rfl ?_
          refine TO.y (Y.gtr rfl rfl) rfl rfl rfl ?_
          refine TO.y (Y.move rfl) rfl rfl rfl ?_
          refine TO.ite (b := decide (E8.Seq > seq)) (fun H13 => ?_) (fun H13 => ?_)
          · refine TO.off (Gd.at 4 false 20 (decide (E8.Seq > seq)) rfl rfl rfl (beq_tf H13)) rfl rfl ?_
            refine TO.off (Gd.at 4 false 20 (decide (E8.Seq > seq)) rfl rfl rfl (beq_tf H13)) rfl rfl ?_
            refine TO.off (Gd.un 6 true 22 rfl rfl rfl) rfl rfl ?_
            refine TO.off (Gd.un 6 true 22 rfl rfl rfl) rfl rfl ?_
            refine TO.off (Gd.un 6 true 22 rfl rfl rfl) rfl rfl ?_
            refine TO.off (Gd.un 6 true 22 rfl rfl rfl) rfl rfl ?_
            refine TO.off (Gd.at 4 false 20 (decide (E8.Seq > seq)) rfl rfl rfl (beq_tf H13)) rfl rfl ?_
            refine TO.y (Y.pick_t H13 rfl rfl) rfl rfl rfl ?_
            refine TO.nil ?_
            exact TE.jb_go () [0, 0] ⟨rfl, rfl, rfl, rfl, rfl, rfl, rfl, rfl, rfl, trivial⟩ rfl
          · refine TO.y (Y.move rfl) (Gd.at 4 false 20 (decide (E8.Seq > seq)) rfl rfl rfl (beq_ff H13)) rfl rfl ?_
            refine TO.y (Y.move rfl) (Gd.at 4 false 20 (decide (E8.Seq > seq)) rfl rfl rfl (beq_ff H13)) rfl rfl ?_
            refine TO.ite (b := S1.2.1) (fun H14 => ?_) (fun H14 => ?_)
            · refine TO.y (Y.field_box kf130_0 rfl rfl) (Gd.at 6 true 22 S1.2.1 rfl rfl rfl (beq_tt H14)) rfl rfl ?_
              refine TO.y (Y.load_box (v := strV E8.Key) 0 kk9 rfl rfl rfl) (Gd.at 6 true 22 S1.2.1 rfl rfl rfl (beq_tt H14)) rfl rfl ?_
              refine TO.y (Y.move rfl) (Gd.at 6 true 22 S1.2.1 rfl rfl rfl (beq_tt H14)) rfl rfl ?_
              refine TO.y (Y.seql rfl rfl) (Gd.at 6 true 22 S1.2.1 rfl rfl rfl (beq_tt H14)) rfl rfl ?_
              refine TO.y (Y.pick_t H14 rfl rfl) (Gd.at 4 false 20 (decide (E8.Seq > seq)) rfl rfl rfl (beq_ff H13)) rfl rfl ?_
              refine TO.y (Y.pick_f H13 rfl rfl) rfl rfl rfl ?_
              refine TO.nil ?_
              exact TE.jb_go () [0, 0] ⟨rfl, rfl, rfl, rfl, rfl, rfl, rfl, rfl, rfl, trivial⟩ rfl
            · refine TO.off (Gd.at 6 true 22 S1.2.1 rfl rfl rfl (beq_ft H14)) rfl rfl ?_
              refine TO.off (Gd.at 6 true 22 S1.2.1 rfl rfl rfl (beq_ft H14)) rfl rfl ?_
              refine TO.off (Gd.at 6 true 22 S1.2.1 rfl rfl rfl (beq_ft H14)) rfl rfl ?_
              refine TO.off (Gd.at 6 true 22 S1.2.1 rfl rfl rfl (beq_ft H14)) rfl rfl ?_
              refine TO.y (Y.pick_f H14 rfl rfl) (Gd.at 4 false 20 (decide (E8.Seq > seq)) rfl rfl rfl (beq_ff H13)) rfl rfl ?_
              refine TO.y (Y.pick_f H13 rfl rfl) rfl rfl rfl ?_
              refine TO.nil ?_
              exact TE.jb_go () [0, 0] ⟨rfl, rfl, rfl, rfl, rfl, rfl, rfl, rfl, rfl, trivial⟩ rfl
        · refine TE.next ?_
          refine TW.cond rfl (fun H15 => ?_) (fun H15 => ?_)
          · refine TW.exit ?_
            refine TE.then_exit ?_
            refine TE.block_exit ?_
            exact TE.jn_go X2 [1] ⟨rfl, rfl, rfl, rfl, rfl, rfl, rfl, trivial⟩ rfl
          · refine TW.skip ?_
            refine TE.next ?_
            refine TW.seq ?_
            refine TW.region ?_
            refine TO.y (Y.field_box kf130_0 rfl rfl) rfl rfl rfl ?_
            refine TO.y (Y.load_box (v := strV E8.Key) 0 kk9 rfl rfl rfl) rfl rfl rfl ?_
            refine TO.y (Y.assign rfl) rfl rfl rfl ?_
            refine TO.y (Y.assign rfl) rfl rfl rfl ?_
            refine TO.nil ?_
            refine TE.next ?_
            refine TW.seq ?_
            refine TW.region ?_
            refine TO.y (Y.field_box kf130_2 rfl rfl) rfl rfl rfl ?_
            refine TO.y (Y.load_box (v := .bool E8.Del) 0 kk4 rfl rfl rfl) rfl rfl rfl ?_
            refine TO.y (Y.not rfl) rfl rfl rfl ?_
            refine TO.nil ?_
            refine TE.next ?_
            refine TW.joinX (τ := List KV) (X := Value) (fun _ X => [(1, .int .i64 seq), (5, X), (6, strV E8.Key), (7, .bool true), (10, V_l0), (11, .int .i64 ((l.length : Nat) : Int)), (12, .int .i64 S1.2.2.1)]) (fun T X => [.own X (lc T)]) ?_ (fun T16 X17 => ?_)
            · refine TW.cond rfl (fun H18 => ?_) (fun H18 => ?_)
              · refine TW.region ?_
                refine TO.y (Y.move rfl) rfl rfl rfl ?_
                refine TO.y (Y.field_box kf130_0 rfl rfl) rfl rfl rfl ?_
                refine TO.y (Y.load_box (v := strV E8.Key) 0 kk9 rfl rfl rfl) rfl rfl rfl ?_
                refine TO.y (Y.field_box kf130_3 rfl rfl) rfl rfl rfl ?_
                refine TO.y (Y.load_box (v := strV E8.Val) 0 kk9 rfl rfl rfl) rfl rfl rfl ?_
                refine TO.y (Y.build (cells := [strV E8.Key, strV E8.Val]) [(0, [strV E8.Key]), (1, [strV E8.Val])] kp70 kz70 ⟨rfl, ⟨_, rfl, (Cel.plain rfl rfl)⟩, ⟨rfl, ⟨_, rfl, (Cel.plain rfl rfl)⟩, trivial⟩⟩ rfl) rfl rfl rfl ?_
                refine TO.ef (Ef.buildSlice (α := KV) (Vs := [.agg #[strV E8.Key, strV E8.Val]]) [{ Key := E8.Key, Val := E8.Val : KV }] ke61 kz70 rfl rfl rfl rfl rfl) rfl rfl rfl (fun B19 => ?_)
                refine TO.bind fun E21 H22 => ?_
                refine TO.ef (Ef.append (α := KV) (is' := [.own (.slice (some ⟨B19, 0, none⟩) 1 1) (lc ([{ Key := E8.Key, Val := E8.Val : KV }])), .box B10 130 [strV E8.Key, .int .i64 E8.Seq, .bool E8.Del, strV E8.Val]]) [2, 0, 0] H22 ke61 kz70 rfl rfl rfl rfl rfl (Can.own 0 rfl)) rfl rfl rfl (fun V20 => ?_)
                refine TO.y (Y.assign rfl) rfl rfl rfl ?_
                refine TO.nil ?_
                exact TE.jn_go V20 [0] ⟨rfl, rfl, rfl, rfl, rfl, rfl, rfl, trivial⟩ rfl
              · refine TW.skip ?_
                exact TE.jn_go X2 [1] ⟨rfl, rfl, rfl, rfl, rfl, rfl, rfl, trivial⟩ rfl
            · refine TE.block_normal ?_
              exact TE.jn_go X17 [0] ⟨rfl, rfl, rfl, rfl, rfl, rfl, rfl, trivial⟩ rfl
      · refine TE.next ?_
        refine TW.region ?_
        refine TO.y (Y.add rfl rfl) rfl rfl rfl ?_
        refine TO.y (Y.move rfl) rfl rfl rfl ?_
        refine TO.nil ?_
        exact TE.lp_go X7 [0] ⟨rfl, rfl, rfl, rfl, rfl, rfl, rfl, trivial⟩ rfl
    · refine TW.exit ?_
      refine TE.then_exit ?_
      refine TE.lp_exit ?_
      refine TE.block_exit ?_
      exact TE.jn_go X2 [0] ⟨rfl, trivial⟩ rfl
  · refine TE.next ?_
    refine TW.seq ?_
    refine TW.region ?_
    refine TO.y (Y.move rfl) rfl rfl rfl ?_
    refine TO.y (Y.assign rfl) rfl rfl rfl ?_
    refine TO.nil ?_
    refine TE.next ?_
    refine TW.ret ?_
    exact TE.leaf fun _ _ hf_ hs_ => ret_any (rs := [.tmp 4]) (vs := [X4]) (.inl rfl) rfl ⟨rfl, trivial⟩ hf_ hs_ ⟨X4, rfl, hs_.pulls [0] rfl⟩

/-- loop.example/g00950/impl.SeenAt -/
noncomputable def impl_SeenAt (l : List Ent) (snaps : List Int) : Option (List (List KV)) :=
  (if (decide (((l.length : Nat) : Int) > (400 : Int))) = true then (some true)
  else ((impl_inOrder l).bind fun R4 =>
  some (!R4))).bind (fun (T1 : Bool) =>
  if T1 = true then (some ([]))
  else (bindC (loopO (fun (S9 : Int × List (List KV)) => if (decide (S9.1 < ((snaps.length : Nat) : Int))) = true then ((idx snaps S9.1).bind fun E14 =>
  (impl_visible l E14).bind fun R16 =>
  (app 24 S9.2 ([R16])).bind fun E21 =>
  some (.go (IntKind.i64.wrap (S9.1 + (1 : Int)), E21)))
  else (some (.done (.go S9.2))))
  ((0 : Int), ([] : List (List KV))))
  (fun (T11 : List (List KV)) => (impl_visible l (1000000 : Int)).bind fun R23 =>
  (app 24 T11 ([R23])).bind fun E28 =>
  some E28)))

theorem impl_SeenAt_con (l : List Ent) (snaps : List Int) (V_l0 : Value) (V_snaps0 : Value) (r : List (List KV)) (hm : impl_SeenAt l snaps = some r) :
    Con Try.prog 54 [V_l0, V_snaps0] [] [(V_l0, lc l), (V_snaps0, lc snaps)] (fun X : Value => X) (fun X => [.own X (lc r)]) := by
  refine Con.intro (args := [V_l0, V_snaps0]) (n := 34) (val := fun _ (X : Value) => X) (post := fun r X => [.own X (lc r)]) (m := impl_SeenAt l snaps) Try.func54 rfl rfl rfl hm ?_
  intro w S hrd
  have HB_V_l0 := hrd _ (.head _)
  have HB_V_snaps0 := hrd _ (.tail _ (.head _))
  clear hrd
  unfold impl_SeenAt
  refine TW.seq ?_
  refine TW.region ?_
  refine TO.y (Y.assign rfl) rfl rfl rfl ?_
  refine TO.nil ?_
  refine TE.next ?_
  refine TW.seq ?_
  refine TW.seq ?_
  refine TW.joinBX (τ := Bool) (X := Unit) (fun T _ => [(0, V_l0), (1, V_snaps0), (15, .bool T)]) (fun _ _ => []) ?_ (fun T1 X2 => ?_)
  · refine TW.region ?_
    refine TO.y (Y.move rfl) rfl rfl rfl ?_
    refine TO.y (Y.len (l := l) ke80 (Base.can HB_V_l0) rfl) rfl rfl rfl ?_
    refine TO.y (Y.gtr rfl rfl) rfl rfl rfl ?_
    refine TO.y (Y.move rfl) rfl rfl rfl ?_
    refine TO.ite (b := decide (((l.length : Nat) : Int) > (400 : Int))) (fun H3 => ?_) (fun H3 => ?_)
    · refine TO.off (Gd.at 3 false 11 (decide (((l.length : Nat) : Int) > (400 : Int))) rfl rfl rfl (beq_tf H3)) rfl rfl ?_
      refine TO.off (Gd.at 3 false 11 (decide (((l.length : Nat) : Int) > (400 : Int))) rfl rfl rfl (beq_tf H3)) rfl rfl ?_
      refine TO.off (Gd.at 3 false 11 (decide (((l.length : Nat) : Int) > (400 : Int))) rfl rfl rfl (beq_tf H3)) rfl rfl ?_
      refine TO.y (Y.pick_t H3 rfl rfl) rfl rfl rfl ?_
      refine TO.nil ?_
      exact TE.jb_go () [] ⟨rfl, rfl, rfl, trivial⟩ rfl
    · refine TO.y (Y.move rfl) (Gd.at 3 false 11 (decide (((l.length : Nat) : Int) > (400 : Int))) rfl rfl rfl (beq_ff H3)) rfl rfl ?_
      refine TO.bind fun R4 H5 => ?_
      refine TO.ef (Ef.call (rest := []) [] (impl_inOrder_con l V_l0 R4 H5) kc101 rfl rfl ⟨(Base.can HB_V_l0), trivial⟩) (Gd.at 3 false 11 (decide (((l.length : Nat) : Int) > (400 : Int))) rfl rfl rfl (beq_ff H3)) rfl rfl (fun _ => ?_)
      refine TO.y (Y.not rfl) (Gd.at 3 false 11 (decide (((l.length : Nat) : Int) > (400 : Int))) rfl rfl rfl (beq_ff H3)) rfl rfl ?_
      refine TO.y (Y.pick_f H3 rfl rfl) rfl rfl rfl ?_
      refine TO.nil ?_
      exact TE.jb_go () [] ⟨rfl, rfl, rfl, trivial⟩ rfl
  · refine TE.next ?_
    refine TW.cond rfl (fun H7 => ?_) (fun H7 => ?_)
    · refine TW.seq ?_
      refine TW.region ?_
      refine TO.y (Y.assign rfl) rfl rfl rfl ?_
      refine TO.nil ?_
      refine TE.next ?_
      refine TW.ret ?_
      refine TE.then_ret ?_
      exact TE.leaf fun _ _ hf_ hs_ => ret_any (rs := [.tmp 4]) (vs := [.slice none 0 0]) (.inl rfl) rfl ⟨rfl, trivial⟩ hf_ hs_ ⟨(.slice none 0 0), rfl, (hs_.nilItem 1).pulls [0] rfl⟩
    · refine TW.skip ?_
      refine TE.next ?_
      refine TW.seq ?_
      refine TW.region ?_
      refine TO.y (Y.assign rfl) rfl rfl rfl ?_
      refine TO.nil ?_
      refine TE.next ?_
      refine TW.seq ?_
      refine TW.seq ?_
      refine TW.region ?_
      refine TO.y (Y.move rfl) rfl rfl rfl ?_
      refine TO.y (Y.len (l := snaps) ke78 (Base.can HB_V_snaps0) rfl) rfl rfl rfl ?_
      refine TO.y (Y.move rfl) rfl rfl rfl ?_
      refine TO.nil ?_
      refine TE.next ?_
      refine TW.joinX (τ := List (List KV)) (X := Value) (fun _ X => [(0, V_l0), (5, X)]) (fun T X => [.own X (lc T)]) ?_ (fun T11 X12 => ?_)
      · refine TW.block ?_
        refine TW.nilItem 1 ?_
        refine TW.loopX (σ := Int × List (List KV)) (X := Value) (fun T X => [(0, V_l0), (5, X), (16, V_snaps0), (17, .int .i64 ((snaps.length : Nat) : Int)), (18, .int .i64 T.1)]) (fun T X => [.own X (lc T.2)]) (.slice none 0 0) [0] ⟨rfl, rfl, rfl, rfl, rfl, trivial⟩ rfl (fun S9 X10 => ?_)
        refine TW.seq ?_
        refine TW.region ?_
        refine TO.y (Y.lss rfl rfl) rfl rfl rfl ?_
        refine TO.nil ?_
        refine TE.next ?_
        refine TW.seq ?_
        refine TW.cond rfl (fun H13 => ?_) (fun H13 => ?_)
        · refine TW.skip ?_
          refine TE.next ?_
          refine TW.seq ?_
          refine TW.block ?_
          refine TW.seq ?_
          refine TW.region ?_
          refine TO.bind fun E14 H15 => ?_
          refine TO.y (Y.index ke78 (Base.can HB_V_snaps0) H15 rfl rfl) rfl rfl rfl ?_
          refine TO.y (Y.load_el (us := [.int .i64 E14]) (u := .int .i64 E14) kk3 rfl (Base.can HB_V_snaps0) (idx_get H15).2.2 rfl rfl rfl rfl rfl) rfl rfl rfl ?_
          refine TO.y (Y.assign rfl) rfl rfl rfl ?_
          refine TO.nil ?_
          refine TE.next ?_
          refine TW.region ?_
          refine TO.y (Y.move rfl) rfl rfl rfl ?_
          refine TO.y (Y.move rfl) rfl rfl rfl ?_
          refine TO.y (Y.move rfl) rfl rfl rfl ?_
          refine TO.bind fun R16 H17 => ?_
          refine TO.ef (Ef.call (rest := [.own X10 (lc S9.2)]) [0] (impl_visible_con l E14 V_l0 R16 H17) kc105 rfl rfl ⟨(Base.can HB_V_l0), trivial⟩) rfl rfl rfl (fun Y18 => ?_)
          refine TO.ef (Ef.buildSliceR (Vs := [Y18]) [[Y18]] [.raw Y18] ke89 kz61 rfl rfl rfl rfl rfl ⟨(Cel.one (One.can (Can.own 0 rfl))), trivial⟩ rfl) rfl rfl rfl (fun B19 => ?_)
          refine TO.ghost (is' := fun _ => [.own (.slice (some ⟨B19, 0, none⟩) 1 1) (lc ([R16])), .own X10 (lc S9.2)]) (Gh.closeAll (js := [.own Y18 (lc R16)]) (r := [.own X10 (lc S9.2)]) [0, 0, 0] rfl (Cls.fill Cls.nil)) (fun _ => ?_)
          refine TO.bind fun E21 H22 => ?_
          refine TO.ef (Ef.appN (α := List KV) (is' := []) [1, 0] H22 ke89 kz61 rfl rfl rfl rfl rfl) rfl rfl rfl (fun V20 => ?_)
          refine TO.y (Y.assign rfl) rfl rfl rfl ?_
          refine TO.nil ?_
          refine TE.block_normal ?_
          refine TE.next ?_
          refine TW.region ?_
          refine TO.y (Y.add rfl rfl) rfl rfl rfl ?_
          refine TO.y (Y.move rfl) rfl rfl rfl ?_
          refine TO.nil ?_
          exact TE.lp_go V20 [0] ⟨rfl, rfl, rfl, rfl, rfl, trivial⟩ rfl
        · refine TW.exit ?_
          refine TE.then_exit ?_
          refine TE.lp_exit ?_
          refine TE.block_exit ?_
          exact TE.jn_go X10 [0] ⟨rfl, rfl, trivial⟩ rfl
      · refine TE.next ?_
        refine TW.seq ?_
        refine TW.region ?_
        refine TO.y (Y.move rfl) rfl rfl rfl ?_
        refine TO.y (Y.move rfl) rfl rfl rfl ?_
        refine TO.bind fun R23 H24 => ?_
        refine TO.ef (Ef.call (rest := [.own X12 (lc T11)]) [0] (impl_visible_con l (1000000 : Int) V_l0 R23 H24) kc105 rfl rfl ⟨(Base.can HB_V_l0), trivial⟩) rfl rfl rfl (fun Y25 => ?_)
        refine TO.ef (Ef.buildSliceR (Vs := [Y25]) [[Y25]] [.raw Y25] ke89 kz61 rfl rfl rfl rfl rfl ⟨(Cel.one (One.can (Can.own 0 rfl))), trivial⟩ rfl) rfl rfl rfl (fun B26 => ?_)
        refine TO.ghost (is' := fun _ => [.own (.slice (some ⟨B26, 0, none⟩) 1 1) (lc ([R23])), .own X12 (lc T11)]) (Gh.closeAll (js := [.own Y25 (lc R23)]) (r := [.own X12 (lc T11)]) [0, 0, 0] rfl (Cls.fill Cls.nil)) (fun _ => ?_)
        refine TO.bind fun E28 H29 => ?_
        refine TO.ef (Ef.appN (α := List KV) (is' := []) [1, 0] H29 ke89 kz61 rfl rfl rfl rfl rfl) rfl rfl rfl (fun V27 => ?_)
        refine TO.y (Y.assign rfl) rfl rfl rfl ?_
        refine TO.nil ?_
        refine TE.next ?_
        refine TW.ret ?_
        exact TE.leaf fun _ _ hf_ hs_ => ret_any (rs := [.tmp 4]) (vs := [V27]) (.inl rfl) rfl ⟨rfl, trivial⟩ hf_ hs_ ⟨V27, rfl, hs_.pulls [0] rfl⟩

/-- loop.example/g00950/laws.eqKV -/
noncomputable def laws_eqKV (a : KV) (b : KV) : Option Bool :=
  if (!(decide (a.Key = b.Key))) = true then (some false)
  else (if (!(decide (a.Val = b.Val))) = true then (some false)
  else (some true))

theorem laws_eqKV_con (a : KV) (b : KV)  (r : Bool) (hm : laws_eqKV a b = some r) :
    Con Try.prog 138 [.agg #[strV a.Key, strV a.Val], .agg #[strV b.Key, strV b.Val]] [] [] (fun _ : Unit => .bool r) (fun _ => []) := by
  refine Con.intro (args := [.agg #[strV a.Key, strV a.Val], .agg #[strV b.Key, strV b.Val]]) (n := 15) (val := fun r (_ : Unit) => .bool r) (post := fun _ _ => []) (m := laws_eqKV a b) Try.func138 rfl rfl rfl hm ?_
  intro w S _
  unfold laws_eqKV
  refine TW.seq ?_
  refine TW.region ?_
  refine TO.ef (Ef.box rfl (Cel.plain rfl rfl)) rfl rfl rfl (fun B1 => ?_)
  refine TO.ef (Ef.box rfl (Cel.plain rfl rfl)) rfl rfl rfl (fun B2 => ?_)
  refine TO.y (Y.assign rfl) rfl rfl rfl ?_
  refine TO.nil ?_
  refine TE.next ?_
  refine TW.seq ?_
  refine TW.seq ?_
  refine TW.region ?_
  refine TO.y (Y.field_box kf70_0 rfl rfl) rfl rfl rfl ?_
  refine TO.y (Y.load_box (v := strV a.Key) 1 kk9 rfl rfl rfl) rfl rfl rfl ?_
  refine TO.y (Y.field_box kf70_0 rfl rfl) rfl rfl rfl ?_
  refine TO.y (Y.load_box (v := strV b.Key) 0 kk9 rfl rfl rfl) rfl rfl rfl ?_
  refine TO.y (Y.sneq rfl rfl) rfl rfl rfl ?_
  refine TO.nil ?_
  refine TE.next ?_
  refine TW.cond rfl (fun H3 => ?_) (fun H3 => ?_)
  · refine TW.seq ?_
    refine TW.region ?_
    refine TO.y (Y.assign rfl) rfl rfl rfl ?_
    refine TO.nil ?_
    refine TE.next ?_
    refine TW.ret ?_
    refine TE.then_ret ?_
    exact TE.leaf fun _ _ hf_ hs_ => ret_any (rs := [.tmp 4]) (vs := [.bool false]) (.inl rfl) rfl ⟨rfl, trivial⟩ hf_ hs_ ⟨(), rfl, hs_.pulls [] rfl⟩
  · refine TW.skip ?_
    refine TE.next ?_
    refine TW.seq ?_
    refine TW.seq ?_
    refine TW.region ?_
    refine TO.y (Y.field_box kf70_1 rfl rfl) rfl rfl rfl ?_
    refine TO.y (Y.load_box (v := strV a.Val) 1 kk9 rfl rfl rfl) rfl rfl rfl ?_
    refine TO.y (Y.field_box kf70_1 rfl rfl) rfl rfl rfl ?_
    refine TO.y (Y.load_box (v := strV b.Val) 0 kk9 rfl rfl rfl) rfl rfl rfl ?_
    refine TO.y (Y.sneq rfl rfl) rfl rfl rfl ?_
    refine TO.nil ?_
    refine TE.next ?_
    refine TW.cond rfl (fun H4 => ?_) (fun H4 => ?_)
    · refine TW.seq ?_
      refine TW.region ?_
      refine TO.y (Y.assign rfl) rfl rfl rfl ?_
      refine TO.nil ?_
      refine TE.next ?_
      refine TW.ret ?_
      refine TE.then_ret ?_
      exact TE.leaf fun _ _ hf_ hs_ => ret_any (rs := [.tmp 4]) (vs := [.bool false]) (.inl rfl) rfl ⟨rfl, trivial⟩ hf_ hs_ ⟨(), rfl, hs_.pulls [] rfl⟩
    · refine TW.skip ?_
      refine TE.next ?_
      refine TW.seq ?_
      refine TW.region ?_
      refine TO.y (Y.assign rfl) rfl rfl rfl ?_
      refine TO.nil ?_
      refine TE.next ?_
      refine TW.ret ?_
      exact TE.leaf fun _ _ hf_ hs_ => ret_any (rs := [.tmp 4]) (vs := [.bool true]) (.inl rfl) rfl ⟨rfl, trivial⟩ hf_ hs_ ⟨(), rfl, hs_.pulls [] rfl⟩

/-- loop.example/g00950/laws.eqKVS -/
noncomputable def laws_eqKVS (a : List KV) (b : List KV) : Option Bool :=
  if (!(decide (((a.length : Nat) : Int) = ((b.length : Nat) : Int)))) = true then (some false)
  else (bindC (loopO (fun (S2 : Int) => if (decide (S2 < ((a.length : Nat) : Int))) = true then ((idx a S2).bind fun E7 =>
  (idx b S2).bind fun E9 =>
  (laws_eqKV E7 E9).bind fun R11 =>
  if (!R11) = true then (some (.done (.done false)))
  else (some (.go (IntKind.i64.wrap (S2 + (1 : Int))))))
  else (some (.done (.go ()))))
  (0 : Int))
  (fun (T4 : Unit) => some true))

theorem laws_eqKVS_con (a : List KV) (b : List KV) (V_a0 : Value) (V_b0 : Value) (r : Bool) (hm : laws_eqKVS a b = some r) :
    Con Try.prog 106 [V_a0, V_b0] [] [(V_a0, lc a), (V_b0, lc b)] (fun _ : Unit => .bool r) (fun _ => []) := by
  refine Con.intro (args := [V_a0, V_b0]) (n := 27) (val := fun r (_ : Unit) => .bool r) (post := fun _ _ => []) (m := laws_eqKVS a b) Try.func106 rfl rfl rfl hm ?_
  intro w S hrd
  have HB_V_a0 := hrd _ (.head _)
  have HB_V_b0 := hrd _ (.tail _ (.head _))
  clear hrd
  unfold laws_eqKVS
  refine TW.seq ?_
  refine TW.region ?_
  refine TO.y (Y.assign rfl) rfl rfl rfl ?_
  refine TO.nil ?_
  refine TE.next ?_
  refine TW.seq ?_
  refine TW.seq ?_
  refine TW.region ?_
  refine TO.y (Y.move rfl) rfl rfl rfl ?_
  refine TO.y (Y.len (l := a) ke61 (Base.can HB_V_a0) rfl) rfl rfl rfl ?_
  refine TO.y (Y.move rfl) rfl rfl rfl ?_
  refine TO.y (Y.len (l := b) ke61 (Base.can HB_V_b0) rfl) rfl rfl rfl ?_
  refine TO.y (Y.neq rfl rfl) rfl rfl rfl ?_
  refine TO.nil ?_
  refine TE.next ?_
  refine TW.cond rfl (fun H1 => ?_) (fun H1 => ?_)
  · refine TW.seq ?_
    refine TW.region ?_
    refine TO.y (Y.assign rfl) rfl rfl rfl ?_
    refine TO.nil ?_
    refine TE.next ?_
    refine TW.ret ?_
    refine TE.then_ret ?_
    exact TE.leaf fun _ _ hf_ hs_ => ret_any (rs := [.tmp 4]) (vs := [.bool false]) (.inl rfl) rfl ⟨rfl, trivial⟩ hf_ hs_ ⟨(), rfl, hs_.pulls [] rfl⟩
  · refine TW.skip ?_
    refine TE.next ?_
    refine TW.seq ?_
    refine TW.seq ?_
    refine TW.region ?_
    refine TO.y (Y.assign rfl) rfl rfl rfl ?_
    refine TO.nil ?_
    refine TE.next ?_
    refine TW.joinX (τ := Unit) (X := Unit) (fun _ _ => []) (fun _ _ => []) ?_ (fun T4 X5 => ?_)
    · refine TW.block ?_
      refine TW.loopX (σ := Int) (X := Unit) (fun T _ => [(0, V_a0), (1, V_b0), (5, .int .i64 T)]) (fun _ _ => []) () [] ⟨rfl, rfl, rfl, trivial⟩ rfl (fun S2 X3 => ?_)
      refine TW.seq ?_
      refine TW.seq ?_
      refine TW.region ?_
      refine TO.y (Y.move rfl) rfl rfl rfl ?_
      refine TO.y (Y.move rfl) rfl rfl rfl ?_
      refine TO.y (Y.len (l := a) ke61 (Base.can HB_V_a0) rfl) rfl rfl rfl ?_
      refine TO.y (Y.lss rfl rfl) rfl rfl rfl ?_
      refine TO.nil ?_
      refine TE.next ?_
      refine TW.cond rfl (fun H6 => ?_) (fun H6 => ?_)
      · refine TW.skip ?_
        refine TE.next ?_
        refine TW.seq ?_
        refine TW.block ?_
        refine TW.seq ?_
        refine TW.draw (isH := []) hMix ?_
        refine TA.y (listed' := #[true, false, false, false, false, false, false, false, false, false]) 0 [] rfl (Y.move rfl) rfl rfl rfl (by kernel_rfl) (by kernel_rfl) (by kernel_rfl) rfl rfl ?_
        refine TA.y (listed' := #[true, true, false, false, false, false, false, false, false, false]) 1 [] rfl (Y.move rfl) rfl rfl rfl (by kernel_rfl) (by kernel_rfl) (by kernel_rfl) rfl rfl ?_
        refine TA.bind fun E7 H8 => ?_
        refine TA.y (listed' := #[true, true, true, false, false, false, false, false, false, false]) 2 [] rfl (Y.index ke61 (Base.can HB_V_a0) H8 rfl rfl) rfl rfl rfl (by kernel_rfl) (by kernel_rfl) (by kernel_rfl) rfl rfl ?_
        refine TA.y (listed' := #[true, true, true, true, false, false, false, false, false, false]) 3 [] rfl (Y.load_el (us := [strV E7.Key, strV E7.Val]) (u := .agg #[strV E7.Key, strV E7.Val]) kk70 rfl (Base.can HB_V_a0) (idx_get H8).2.2 rfl rfl rfl rfl rfl) rfl rfl rfl (by kernel_rfl) (by kernel_rfl) (by kernel_rfl) rfl rfl ?_
        refine TA.y (listed' := #[true, true, true, true, true, false, false, false, false, false]) 4 [] rfl (Y.move rfl) rfl rfl rfl (by kernel_rfl) (by kernel_rfl) (by kernel_rfl) rfl rfl ?_
        refine TA.y (listed' := #[true, true, true, true, true, true, false, false, false, false]) 5 [] rfl (Y.move rfl) rfl rfl rfl (by kernel_rfl) (by kernel_rfl) (by kernel_rfl) rfl rfl ?_
        refine TA.bind fun E9 H10 => ?_
        refine TA.y (listed' := #[true, true, true, true, true, true, true, false, false, false]) 6 [] rfl (Y.index ke61 (Base.can HB_V_b0) H10 rfl rfl) rfl rfl rfl (by kernel_rfl) (by kernel_rfl) (by kernel_rfl) rfl rfl ?_
        refine TA.y (listed' := #[true, true, true, true, true, true, true, true, false, false]) 7 [] rfl (Y.load_el (us := [strV E9.Key, strV E9.Val]) (u := .agg #[strV E9.Key, strV E9.Val]) kk70 rfl (Base.can HB_V_b0) (idx_get H10).2.2 rfl rfl rfl rfl rfl) rfl rfl rfl (by kernel_rfl) (by kernel_rfl) (by kernel_rfl) rfl rfl ?_
        refine TA.bind fun R11 H12 => ?_
        refine TA.one 8 (by kernel_rfl) ?_
        refine TX.ef (listed' := #[true, true, true, true, true, true, true, true, true, false]) [] rfl (Ef.call (rest := []) [] (laws_eqKV_con E7 E9  R11 H12) kc138 rfl rfl trivial) rfl rfl rfl rfl (fun _ => rfl) (fun _ => ?_)
        refine TA.y (listed' := #[true, true, true, true, true, true, true, true, true, true]) 9 [] rfl (Y.not rfl) rfl rfl rfl (by kernel_rfl) (by kernel_rfl) (by kernel_rfl) rfl rfl ?_
        refine TA.nil (by kernel_rfl) ?_
        refine TE.next ?_
        refine TW.cond rfl (fun H14 => ?_) (fun H14 => ?_)
        · refine TW.seq ?_
          refine TW.region ?_
          refine TO.y (Y.assign rfl) rfl rfl rfl ?_
          refine TO.nil ?_
          refine TE.next ?_
          refine TW.ret ?_
          refine TE.block_ret ?_
          refine TE.then_ret ?_
          refine TE.lp_ret ?_
          refine TE.block_ret ?_
          refine TE.jn_done ?_
          refine TE.then_ret ?_
          exact TE.leaf fun _ _ hf_ hs_ => ret_any (rs := [.tmp 4]) (vs := [.bool false]) (.inl rfl) rfl ⟨rfl, trivial⟩ hf_ hs_ ⟨(), rfl, hs_.pulls [] rfl⟩
        · refine TW.skip ?_
          refine TE.block_normal ?_
          refine TE.next ?_
          refine TW.region ?_
          refine TO.y (Y.move rfl) rfl rfl rfl ?_
          refine TO.y (Y.add rfl rfl) rfl rfl rfl ?_
          refine TO.y (Y.assign rfl) rfl rfl rfl ?_
          refine TO.nil ?_
          exact TE.lp_go () [] ⟨rfl, rfl, rfl, trivial⟩ rfl
      · refine TW.exit ?_
        refine TE.then_exit ?_
        refine TE.lp_exit ?_
        refine TE.block_exit ?_
        exact TE.jn_go () [] trivial rfl
    · refine TE.next ?_
      refine TW.seq ?_
      refine TW.region ?_
      refine TO.y (Y.assign rfl) rfl rfl rfl ?_
      refine TO.nil ?_
      refine TE.next ?_
      refine TW.ret ?_
      exact TE.leaf fun _ _ hf_ hs_ => ret_any (rs := [.tmp 4]) (vs := [.bool true]) (.inl rfl) rfl ⟨rfl, trivial⟩ hf_ hs_ ⟨(), rfl, hs_.pulls [] rfl⟩

/-- loop.example/g00950/laws.eqKVSS -/
noncomputable def laws_eqKVSS (a : List (List KV)) (b : List (List KV)) : Option Bool :=
  if (!(decide (((a.length : Nat) : Int) = ((b.length : Nat) : Int)))) = true then (some false)
  else (bindC (loopO (fun (S2 : Int) => if (decide (S2 < ((a.length : Nat) : Int))) = true then ((idx a S2).bind fun E7 =>
  (idx b S2).bind fun E10 =>
  (laws_eqKVS E7 E10).bind fun R13 =>
  if (!R13) = true then (some (.done (.done false)))
  else (some (.go (IntKind.i64.wrap (S2 + (1 : Int))))))
  else (some (.done (.go ()))))
  (0 : Int))
  (fun (T4 : Unit) => some true))

theorem laws_eqKVSS_con (a : List (List KV)) (b : List (List KV)) (V_a0 : Value) (V_b0 : Value) (r : Bool) (hm : laws_eqKVSS a b = some r) :
    Con Try.prog 55 [V_a0, V_b0] [] [(V_a0, lc a), (V_b0, lc b)] (fun _ : Unit => .bool r) (fun _ => []) := by
  refine Con.intro (args := [V_a0, V_b0]) (n := 27) (val := fun r (_ : Unit) => .bool r) (post := fun _ _ => []) (m := laws_eqKVSS a b) Try.func55 rfl rfl rfl hm ?_
  intro w S hrd
  have HB_V_a0 := hrd _ (.head _)
  have HB_V_b0 := hrd _ (.tail _ (.head _))
  clear hrd
  unfold laws_eqKVSS
  refine TW.seq ?_
  refine TW.region ?_
  refine TO.y (Y.assign rfl) rfl rfl rfl ?_
  refine TO.nil ?_
  refine TE.next ?_
  refine TW.seq ?_
  refine TW.seq ?_
  refine TW.region ?_
  refine TO.y (Y.move rfl) rfl rfl rfl ?_
  refine TO.y (Y.len (l := a) ke89 (Base.can HB_V_a0) rfl) rfl rfl rfl ?_
  refine TO.y (Y.move rfl) rfl rfl rfl ?_
  refine TO.y (Y.len (l := b) ke89 (Base.can HB_V_b0) rfl) rfl rfl rfl ?_
  refine TO.y (Y.neq rfl rfl) rfl rfl rfl ?_
  refine TO.nil ?_
  refine TE.next ?_
  refine TW.cond rfl (fun H1 => ?_) (fun H1 => ?_)
  · refine TW.seq ?_
    refine TW.region ?_
    refine TO.y (Y.assign rfl) rfl rfl rfl ?_
    refine TO.nil ?_
    refine TE.next ?_
    refine TW.ret ?_
    refine TE.then_ret ?_
    exact TE.leaf fun _ _ hf_ hs_ => ret_any (rs := [.tmp 4]) (vs := [.bool false]) (.inl rfl) rfl ⟨rfl, trivial⟩ hf_ hs_ ⟨(), rfl, hs_.pulls [] rfl⟩
  · refine TW.skip ?_
    refine TE.next ?_
    refine TW.seq ?_
    refine TW.seq ?_
    refine TW.region ?_
    refine TO.y (Y.assign rfl) rfl rfl rfl ?_
    refine TO.nil ?_
    refine TE.next ?_
    refine TW.joinX (τ := Unit) (X := Unit) (fun _ _ => []) (fun _ _ => []) ?_ (fun T4 X5 => ?_)
    · refine TW.block ?_
      refine TW.loopX (σ := Int) (X := Unit) (fun T _ => [(0, V_a0), (1, V_b0), (5, .int .i64 T)]) (fun _ _ => []) () [] ⟨rfl, rfl, rfl, trivial⟩ rfl (fun S2 X3 => ?_)
      refine TW.seq ?_
      refine TW.seq ?_
      refine TW.region ?_
      refine TO.y (Y.move rfl) rfl rfl rfl ?_
      refine TO.y (Y.move rfl) rfl rfl rfl ?_
      refine TO.y (Y.len (l := a) ke89 (Base.can HB_V_a0) rfl) rfl rfl rfl ?_
      refine TO.y (Y.lss rfl rfl) rfl rfl rfl ?_
      refine TO.nil ?_
      refine TE.next ?_
      refine TW.cond rfl (fun H6 => ?_) (fun H6 => ?_)
      · refine TW.skip ?_
        refine TE.next ?_
        refine TW.seq ?_
        refine TW.block ?_
        refine TW.seq ?_
        refine TW.draw (isH := []) hMix ?_
        refine TA.y (listed' := #[true, false, false, false, false, false, false, false, false, false]) 0 [] rfl (Y.move rfl) rfl rfl rfl (by kernel_rfl) (by kernel_rfl) (by kernel_rfl) rfl rfl ?_
        refine TA.y (listed' := #[true, true, false, false, false, false, false, false, false, false]) 1 [] rfl (Y.move rfl) rfl rfl rfl (by kernel_rfl) (by kernel_rfl) (by kernel_rfl) rfl rfl ?_
        refine TA.bind fun E7 H8 => ?_
        refine TA.y (listed' := #[true, true, true, false, false, false, false, false, false, false]) 2 [] rfl (Y.index ke89 (Base.can HB_V_a0) H8 rfl rfl) rfl rfl rfl (by kernel_rfl) (by kernel_rfl) (by kernel_rfl) rfl rfl ?_
        have Q9 : Base w S (elv w V_a0 (S2.toNat * 1 + 0)) (lc E7) := Base.el HB_V_a0 (idx_get H8).2.2 rfl rfl
        refine TA.y (listed' := #[true, true, true, true, false, false, false, false, false, false]) 3 [] rfl (Y.load_base (α := List KV) (u := (elv w V_a0 (S2.toNat * 1 + 0))) kk61 rfl HB_V_a0 (idx_get H8).2.2 rfl rfl rfl rfl rfl) rfl rfl rfl (by kernel_rfl) (by kernel_rfl) (by kernel_rfl) rfl rfl ?_
        refine TA.y (listed' := #[true, true, true, true, true, false, false, false, false, false]) 4 [] rfl (Y.move rfl) rfl rfl rfl (by kernel_rfl) (by kernel_rfl) (by kernel_rfl) rfl rfl ?_
        refine TA.y (listed' := #[true, true, true, true, true, true, false, false, false, false]) 5 [] rfl (Y.move rfl) rfl rfl rfl (by kernel_rfl) (by kernel_rfl) (by kernel_rfl) rfl rfl ?_
        refine TA.bind fun E10 H11 => ?_
        refine TA.y (listed' := #[true, true, true, true, true, true, true, false, false, false]) 6 [] rfl (Y.index ke89 (Base.can HB_V_b0) H11 rfl rfl) rfl rfl rfl (by kernel_rfl) (by kernel_rfl) (by kernel_rfl) rfl rfl ?_
        have Q12 : Base w S (elv w V_b0 (S2.toNat * 1 + 0)) (lc E10) := Base.el HB_V_b0 (idx_get H11).2.2 rfl rfl
        refine TA.y (listed' := #[true, true, true, true, true, true, true, true, false, false]) 7 [] rfl (Y.load_base (α := List KV) (u := (elv w V_b0 (S2.toNat * 1 + 0))) kk61 rfl HB_V_b0 (idx_get H11).2.2 rfl rfl rfl rfl rfl) rfl rfl rfl (by kernel_rfl) (by kernel_rfl) (by kernel_rfl) rfl rfl ?_
        refine TA.bind fun R13 H14 => ?_
        refine TA.one 8 (by kernel_rfl) ?_
        refine TX.ef (listed' := #[true, true, true, true, true, true, true, true, true, false]) [] rfl (Ef.call (rest := []) [] (laws_eqKVS_con E7 E10 (elv w V_a0 (S2.toNat * 1 + 0)) (elv w V_b0 (S2.toNat * 1 + 0)) R13 H14) kc106 rfl rfl ⟨(Base.can Q9), (Base.can Q12), trivial⟩) rfl rfl rfl rfl (fun _ => rfl) (fun _ => ?_)
        refine TA.y (listed' := #[true, true, true, true, true, true, true, true, true, true]) 9 [] rfl (Y.not rfl) rfl rfl rfl (by kernel_rfl) (by kernel_rfl) (by kernel_rfl) rfl rfl ?_
        refine TA.nil (by kernel_rfl) ?_
        refine TE.next ?_
        refine TW.cond rfl (fun H16 => ?_) (fun H16 => ?_)
        · refine TW.seq ?_
          refine TW.region ?_
          refine TO.y (Y.assign rfl) rfl rfl rfl ?_
          refine TO.nil ?_
          refine TE.next ?_
          refine TW.ret ?_
          refine TE.block_ret ?_
          refine TE.then_ret ?_
          refine TE.lp_ret ?_
          refine TE.block_ret ?_
          refine TE.jn_done ?_
          refine TE.then_ret ?_
          exact TE.leaf fun _ _ hf_ hs_ => ret_any (rs := [.tmp 4]) (vs := [.bool false]) (.inl rfl) rfl ⟨rfl, trivial⟩ hf_ hs_ ⟨(), rfl, hs_.pulls [] rfl⟩
        · refine TW.skip ?_
          refine TE.block_normal ?_
          refine TE.next ?_
          refine TW.region ?_
          refine TO.y (Y.move rfl) rfl rfl rfl ?_
          refine TO.y (Y.add rfl rfl) rfl rfl rfl ?_
          refine TO.y (Y.assign rfl) rfl rfl rfl ?_
          refine TO.nil ?_
          exact TE.lp_go () [] ⟨rfl, rfl, rfl, trivial⟩ rfl
      · refine TW.exit ?_
        refine TE.then_exit ?_
        refine TE.lp_exit ?_
        refine TE.block_exit ?_
        exact TE.jn_go () [] trivial rfl
    · refine TE.next ?_
      refine TW.seq ?_
      refine TW.region ?_
      refine TO.y (Y.assign rfl) rfl rfl rfl ?_
      refine TO.nil ?_
      refine TE.next ?_
      refine TW.ret ?_
      exact TE.leaf fun _ _ hf_ hs_ => ret_any (rs := [.tmp 4]) (vs := [.bool true]) (.inl rfl) rfl ⟨rfl, trivial⟩ hf_ hs_ ⟨(), rfl, hs_.pulls [] rfl⟩

end Go.Proofs.Ytpnnbeiojpphhab
