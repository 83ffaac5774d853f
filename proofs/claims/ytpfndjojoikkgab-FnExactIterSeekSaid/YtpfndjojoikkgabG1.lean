/-
  The functions that a law reaches, each as a pure function, with the proof that the program computes it, and the step from a pure law to the given statement. Conditions: none.
-/
import Derived.Test.YtpfndjojoikkgabSw
import Derived.Test.YtpfndjojoikkgabRows
set_option linter.unusedVariables false
set_option maxRecDepth 100000
namespace Go.Proofs.Ytpfndjojoikkgab
open Go Sl

structure KV where
  Key : List UInt8
  Val : List UInt8
  deriving DecidableEq
instance : Enc KV := ⟨2, fun x => [.str x.Key, .str x.Val], fun _ => rfl, by decide⟩
instance : Dec KV where
  sh := [.str, .str]
  ok x := x.Key.length ≤ 9223372036854775807 ∧ x.Val.length ≤ 9223372036854775807
  dec cs h := by
    obtain ⟨c0, r0, rfl, h0, h⟩ := h.cons_inv
    obtain ⟨c1, r1, rfl, h1, h⟩ := h.cons_inv
    obtain rfl := h.nil_inv
    obtain ⟨y0, rfl, w0⟩ := h0.str_inv
    obtain ⟨y1, rfl, w1⟩ := h1.str_inv
    exact ⟨{ Key := y0, Val := y1 : KV }, rfl, w0, w1⟩
instance : Flat KV := { vals := fun x => [strV x.Key, strV x.Val], flat := fun _ => rfl }
structure Iter where
  List : _root_.List KV
  From : _root_.List UInt8
  To : _root_.List UInt8
  At : Int
  deriving DecidableEq
instance : Enc Iter := ⟨4, fun x => [lc 75 x.List, .str x.From, .str x.To, .int .i64 x.At], fun _ => rfl, by decide⟩
instance : Dec Iter where
  sh := [.sl 75 2 (Dec.sh KV), .str, .str, .int .i64]
  ok x := okl x.List ∧ x.From.length ≤ 9223372036854775807 ∧ x.To.length ≤ 9223372036854775807 ∧ okI x.At
  dec cs h := by
    obtain ⟨c0, r0, rfl, h0, h⟩ := h.cons_inv
    obtain ⟨c1, r1, rfl, h1, h⟩ := h.cons_inv
    obtain ⟨c2, r2, rfl, h2, h⟩ := h.cons_inv
    obtain ⟨c3, r3, rfl, h3, h⟩ := h.cons_inv
    obtain rfl := h.nil_inv
    obtain ⟨y0, rfl, w0⟩ := h0.sl_inv (α := KV) rfl
    obtain ⟨y1, rfl, w1⟩ := h1.str_inv
    obtain ⟨y2, rfl, w2⟩ := h2.str_inv
    obtain ⟨y3, rfl, w3_⟩ := h3.int_inv
    have w3 := okI_of w3_
    exact ⟨{ List := y0, From := y1, To := y2, At := y3 : Iter }, rfl, w0, w1, w2, w3⟩
structure Op where
  Key : List UInt8
  Del : Bool
  Val : List UInt8
  deriving DecidableEq
instance : Enc Op := ⟨3, fun x => [.str x.Key, .bool x.Del, .str x.Val], fun _ => rfl, by decide⟩
instance : Dec Op where
  sh := [.str, .bool, .str]
  ok x := x.Key.length ≤ 9223372036854775807 ∧ True ∧ x.Val.length ≤ 9223372036854775807
  dec cs h := by
    obtain ⟨c0, r0, rfl, h0, h⟩ := h.cons_inv
    obtain ⟨c1, r1, rfl, h1, h⟩ := h.cons_inv
    obtain ⟨c2, r2, rfl, h2, h⟩ := h.cons_inv
    obtain rfl := h.nil_inv
    obtain ⟨y0, rfl, w0⟩ := h0.str_inv
    obtain ⟨y1, rfl⟩ := h1.bool_inv
    have w1 := True.intro
    obtain ⟨y2, rfl, w2⟩ := h2.str_inv
    exact ⟨{ Key := y0, Del := y1, Val := y2 : Op }, rfl, w0, w1, w2⟩
instance : Flat Op := { vals := fun x => [strV x.Key, .bool x.Del, strV x.Val], flat := fun _ => rfl }

theorem hMix : Try.prog.follows .mixedOrders = true := by kernel_rfl
theorem kf75_0 : fieldB Try.prog 75 0 = some 0 := by kernel_rfl
theorem kk9 : kindB Try.prog 9 = some (false, 1) := by kernel_rfl
theorem ks9 : isStrB Try.prog 9 = true := by kernel_rfl
theorem kf75_1 : fieldB Try.prog 75 1 = some 1 := by kernel_rfl
theorem ke22 : elemB Try.prog 22 = some (75, 2, 32) := by kernel_rfl
theorem kk75 : kindB Try.prog 75 = some (true, 2) := by kernel_rfl
theorem kc56 : callB Try.prog 56 = true := by kernel_rfl
theorem kf24_0 : fieldB Try.prog 24 0 = some 0 := by kernel_rfl
theorem kk22 : kindB Try.prog 22 = some (false, 1) := by kernel_rfl
theorem kc35 : callB Try.prog 35 = true := by kernel_rfl
theorem kf24_1 : fieldB Try.prog 24 1 = some 1 := by kernel_rfl
theorem kf24_2 : fieldB Try.prog 24 2 = some 2 := by kernel_rfl
theorem kz30 : zeroB Try.prog 30 = some (.agg #[strV ([]), strV ([])]) := by kernel_rfl
theorem kf30_0 : fieldB Try.prog 30 0 = some 0 := by kernel_rfl
theorem kf30_1 : fieldB Try.prog 30 1 = some 1 := by kernel_rfl
theorem kk30 : kindB Try.prog 30 = some (true, 2) := by kernel_rfl
theorem ke26 : elemB Try.prog 26 = some (30, 2, 32) := by kernel_rfl
theorem kc60 : callB Try.prog 60 = true := by kernel_rfl
theorem kz28 : zeroB Try.prog 28 = some (.agg #[.slice none 0 0, strV ([]), strV ([]), .int .i64 (0 : Int)]) := by kernel_rfl
theorem kc38 : callB Try.prog 38 = true := by kernel_rfl
theorem kf28_0 : fieldB Try.prog 28 0 = some 0 := by kernel_rfl
theorem kk26 : kindB Try.prog 26 = some (false, 1) := by kernel_rfl
theorem kf28_1 : fieldB Try.prog 28 1 = some 1 := by kernel_rfl
theorem kf28_2 : fieldB Try.prog 28 2 = some 2 := by kernel_rfl
theorem kf24_3 : fieldB Try.prog 24 3 = some 3 := by kernel_rfl
theorem kk3 : kindB Try.prog 3 = some (false, 1) := by kernel_rfl
theorem kf28_3 : fieldB Try.prog 28 3 = some 3 := by kernel_rfl
theorem kk28 : kindB Try.prog 28 = some (true, 4) := by kernel_rfl
theorem kf88_0 : fieldB Try.prog 88 0 = some 0 := by kernel_rfl
theorem kc54 : callB Try.prog 54 = true := by kernel_rfl
theorem kf88_2 : fieldB Try.prog 88 2 = some 2 := by kernel_rfl
theorem kf88_1 : fieldB Try.prog 88 1 = some 1 := by kernel_rfl
theorem kk4 : kindB Try.prog 4 = some (false, 1) := by kernel_rfl
theorem kz88 : zeroB Try.prog 88 = some (.agg #[strV ([]), .bool false, strV ([])]) := by kernel_rfl
theorem kp88 : placesB Try.prog 88 = some [(0, 1), (1, 1), (2, 1)] := by kernel_rfl
theorem kc70 : callB Try.prog 70 = true := by kernel_rfl
theorem kc57 : callB Try.prog 57 = true := by kernel_rfl
theorem kc58 : callB Try.prog 58 = true := by kernel_rfl
theorem kc59 : callB Try.prog 59 = true := by kernel_rfl
theorem kp30 : placesB Try.prog 30 = some [(0, 1), (1, 1)] := by kernel_rfl
theorem kc36 : callB Try.prog 36 = true := by kernel_rfl
theorem kp28 : placesB Try.prog 28 = some [(0, 1), (1, 1), (2, 1), (3, 1)] := by kernel_rfl
theorem kc37 : callB Try.prog 37 = true := by kernel_rfl
theorem kc55 : callB Try.prog 55 = true := by kernel_rfl
theorem kc71 : callB Try.prog 71 = true := by kernel_rfl
theorem kc61 : callB Try.prog 61 = true := by kernel_rfl
theorem kc62 : callB Try.prog 62 = true := by kernel_rfl
theorem kc63 : callB Try.prog 63 = true := by kernel_rfl
theorem kc39 : callB Try.prog 39 = true := by kernel_rfl
theorem kc40 : callB Try.prog 40 = true := by kernel_rfl
theorem kc41 : callB Try.prog 41 = true := by kernel_rfl
theorem kc14 : callB Try.prog 14 = true := by kernel_rfl
theorem kc42 : callB Try.prog 42 = true := by kernel_rfl
theorem ki3 : intB Try.prog 3 = some .i64 := by kernel_rfl
theorem ki5 : intB Try.prog 5 = some .u8 := by kernel_rfl
theorem kz5 : zeroB Try.prog 5 = some (.int .u8 (0 : Int)) := by kernel_rfl
theorem ke84 : elemB Try.prog 84 = some (5, 1, 1) := by kernel_rfl
theorem kc50 : callB Try.prog 50 = true := by kernel_rfl
theorem kc43 : callB Try.prog 43 = true := by kernel_rfl
theorem kc44 : callB Try.prog 44 = true := by kernel_rfl
theorem kk24 : kindB Try.prog 24 = some (true, 4) := by kernel_rfl
theorem kc9 : callB Try.prog 9 = true := by kernel_rfl
theorem kc11 : callB Try.prog 11 = true := by kernel_rfl
theorem kc10 : callB Try.prog 10 = true := by kernel_rfl
theorem kc12 : callB Try.prog 12 = true := by kernel_rfl
theorem kc13 : callB Try.prog 13 = true := by kernel_rfl
theorem kb4 : Try.prog.underlying 4 = some .bool := by kernel_rfl
theorem kc15 : callB Try.prog 15 = true := by kernel_rfl
theorem kc16 : callB Try.prog 16 = true := by kernel_rfl
theorem kc17 : callB Try.prog 17 = true := by kernel_rfl
theorem kc18 : callB Try.prog 18 = true := by kernel_rfl
theorem kc19 : callB Try.prog 19 = true := by kernel_rfl
theorem kc20 : callB Try.prog 20 = true := by kernel_rfl
theorem hu24 : Try.prog.underlying 24 = some (.struct #[⟨ "List", 22, 0, Bool.false, "", "", 0⟩, ⟨ "From", 9, 1, Bool.false, "", "", 24⟩, ⟨ "To", 9, 2, Bool.false, "", "", 40⟩, ⟨ "At", 3, 3, Bool.false, "", "", 56⟩]) := by kernel_rfl
theorem hs24 : shB Try.prog 20 24 = some (Dec.sh Iter) := by kernel_rfl
theorem hu9 : Try.prog.underlying 9 = some (.string) := by kernel_rfl
theorem hs9 : shB Try.prog 20 9 = some ([.str]) := by kernel_rfl

/-- loop.example/g00950/laws.szKV -/
noncomputable def laws_szKV (a : KV) (left : Int) : Option Int :=
  if (decide (IntKind.i64.wrap (left - ((a.Key.length : Nat) : Int)) < (0 : Int))) = true then (some (-1 : Int))
  else (if (decide (IntKind.i64.wrap (IntKind.i64.wrap (left - ((a.Key.length : Nat) : Int)) - ((a.Val.length : Nat) : Int)) < (0 : Int))) = true then (some (-1 : Int))
  else (some (IntKind.i64.wrap (IntKind.i64.wrap (left - ((a.Key.length : Nat) : Int)) - ((a.Val.length : Nat) : Int)))))

theorem laws_szKV_con (a : KV) (left : Int)  (r : Int) (hm : laws_szKV a left = some r) :
    Con Try.prog 56 [.agg #[strV a.Key, strV a.Val], .int .i64 left] [] [] (fun _ : Unit => .int .i64 r) (fun _ => []) := by
  refine Con.intro (args := [.agg #[strV a.Key, strV a.Val], .int .i64 left]) (n := 20) (val := fun r (_ : Unit) => .int .i64 r) (post := fun _ _ => []) (m := laws_szKV a left) Try.func56 rfl rfl rfl hm ?_
  intro w S _
  unfold laws_szKV
  refine TW.seq ?_
  refine TW.region ?_
  refine TO.ef (Ef.box rfl (Cel.plain rfl rfl)) rfl rfl rfl (fun B1 => ?_)
  refine TO.y (Y.assign rfl) rfl rfl rfl ?_
  refine TO.nil ?_
  refine TE.next ?_
  refine TW.seq ?_
  refine TW.region ?_
  refine TO.y (Y.move rfl) rfl rfl rfl ?_
  refine TO.y (Y.field_box kf75_0 rfl rfl) rfl rfl rfl ?_
  refine TO.y (Y.load_box (v := strV a.Key) 0 kk9 rfl rfl rfl) rfl rfl rfl ?_
  refine TO.y (Y.slen ks9 rfl) rfl rfl rfl ?_
  refine TO.y (Y.sub rfl rfl) rfl rfl rfl ?_
  refine TO.y (Y.assign rfl) rfl rfl rfl ?_
  refine TO.nil ?_
  refine TE.next ?_
  refine TW.seq ?_
  refine TW.seq ?_
  refine TW.region ?_
  refine TO.y (Y.move rfl) rfl rfl rfl ?_
  refine TO.y (Y.lss rfl rfl) rfl rfl rfl ?_
  refine TO.nil ?_
  refine TE.next ?_
  refine TW.cond rfl (fun H2 => ?_) (fun H2 => ?_)
  · refine TW.seq ?_
    refine TW.region ?_
    refine TO.y (Y.assign rfl) rfl rfl rfl ?_
    refine TO.nil ?_
    refine TE.next ?_
    refine TW.ret ?_
    refine TE.then_ret ?_
    exact TE.leaf fun _ _ hf_ hs_ => ret_any (rs := [.tmp 4]) (vs := [.int .i64 (-1 : Int)]) (.inl rfl) rfl ⟨rfl, trivial⟩ hf_ hs_ ⟨(), rfl, hs_.pulls [] rfl⟩
  · refine TW.skip ?_
    refine TE.next ?_
    refine TW.seq ?_
    refine TW.region ?_
    refine TO.y (Y.move rfl) rfl rfl rfl ?_
    refine TO.y (Y.field_box kf75_1 rfl rfl) rfl rfl rfl ?_
    refine TO.y (Y.load_box (v := strV a.Val) 0 kk9 rfl rfl rfl) rfl rfl rfl ?_
    refine TO.y (Y.slen ks9 rfl) rfl rfl rfl ?_
    refine TO.y (Y.sub rfl rfl) rfl rfl rfl ?_
    refine TO.y (Y.assign rfl) rfl rfl rfl ?_
    refine TO.nil ?_
    refine TE.next ?_
    refine TW.seq ?_
    refine TW.seq ?_
    refine TW.region ?_
    refine TO.y (Y.move rfl) rfl rfl rfl ?_
    refine TO.y (Y.lss rfl rfl) rfl rfl rfl ?_
    refine TO.nil ?_
    refine TE.next ?_
    refine TW.cond rfl (fun H3 => ?_) (fun H3 => ?_)
    · refine TW.seq ?_
      refine TW.region ?_
      refine TO.y (Y.assign rfl) rfl rfl rfl ?_
      refine TO.nil ?_
      refine TE.next ?_
      refine TW.ret ?_
      refine TE.then_ret ?_
      exact TE.leaf fun _ _ hf_ hs_ => ret_any (rs := [.tmp 4]) (vs := [.int .i64 (-1 : Int)]) (.inl rfl) rfl ⟨rfl, trivial⟩ hf_ hs_ ⟨(), rfl, hs_.pulls [] rfl⟩
    · refine TW.skip ?_
      refine TE.next ?_
      refine TW.seq ?_
      refine TW.region ?_
      refine TO.y (Y.move rfl) rfl rfl rfl ?_
      refine TO.y (Y.assign rfl) rfl rfl rfl ?_
      refine TO.nil ?_
      refine TE.next ?_
      refine TW.ret ?_
      exact TE.leaf fun _ _ hf_ hs_ => ret_any (rs := [.tmp 4]) (vs := [.int .i64 (IntKind.i64.wrap (IntKind.i64.wrap (left - ((a.Key.length : Nat) : Int)) - ((a.Val.length : Nat) : Int)))]) (.inl rfl) rfl ⟨rfl, trivial⟩ hf_ hs_ ⟨(), rfl, hs_.pulls [] rfl⟩

/-- loop.example/g00950/laws.szKVS -/
noncomputable def laws_szKVS (a : List KV) (left : Int) : Option Int :=
  if (decide (IntKind.i64.wrap (left - ((a.length : Nat) : Int)) < (0 : Int))) = true then (some (-1 : Int))
  else (bindC (loopO (fun (S2 : Int × Int) => if (decide (S2.2 < ((a.length : Nat) : Int))) = true then ((idx a S2.2).bind fun E7 =>
  (laws_szKV E7 S2.1).bind fun R9 =>
  if (decide (R9 < (0 : Int))) = true then (some (.done (.done (-1 : Int))))
  else (some (.go (R9, IntKind.i64.wrap (S2.2 + (1 : Int))))))
  else (some (.done (.go S2.1))))
  (IntKind.i64.wrap (left - ((a.length : Nat) : Int)), (0 : Int)))
  (fun (T4 : Int) => some T4))

theorem laws_szKVS_con (a : List KV) (left : Int) (V_a0 : Value) (r : Int) (hm : laws_szKVS a left = some r) :
    Con Try.prog 35 [V_a0, .int .i64 left] [] [(V_a0, lc 75 a)] (fun _ : Unit => .int .i64 r) (fun _ => []) := by
  refine Con.intro (args := [V_a0, .int .i64 left]) (n := 27) (val := fun r (_ : Unit) => .int .i64 r) (post := fun _ _ => []) (m := laws_szKVS a left) Try.func35 rfl rfl rfl hm ?_
  intro w S hrd
  have HB_V_a0 := hrd _ (.head _)
  clear hrd
  unfold laws_szKVS
  refine TW.seq ?_
  refine TW.region ?_
  refine TO.y (Y.assign rfl) rfl rfl rfl ?_
  refine TO.nil ?_
  refine TE.next ?_
  refine TW.seq ?_
  refine TW.region ?_
  refine TO.y (Y.move rfl) rfl rfl rfl ?_
  refine TO.y (Y.move rfl) rfl rfl rfl ?_
  refine TO.y (Y.len (l := a) ke22 (Base.can HB_V_a0) rfl) rfl rfl rfl ?_
  refine TO.y (Y.sub rfl rfl) rfl rfl rfl ?_
  refine TO.y (Y.assign rfl) rfl rfl rfl ?_
  refine TO.nil ?_
  refine TE.next ?_
  refine TW.seq ?_
  refine TW.seq ?_
  refine TW.region ?_
  refine TO.y (Y.move rfl) rfl rfl rfl ?_
  refine TO.y (Y.lss rfl rfl) rfl rfl rfl ?_
  refine TO.nil ?_
  refine TE.next ?_
  refine TW.cond rfl (fun H1 => ?_) (fun H1 => ?_)
  · refine TW.seq ?_
    refine TW.region ?_
    refine TO.y (Y.assign rfl) rfl rfl rfl ?_
    refine TO.nil ?_
    refine TE.next ?_
    refine TW.ret ?_
    refine TE.then_ret ?_
    exact TE.leaf fun _ _ hf_ hs_ => ret_any (rs := [.tmp 4]) (vs := [.int .i64 (-1 : Int)]) (.inl rfl) rfl ⟨rfl, trivial⟩ hf_ hs_ ⟨(), rfl, hs_.pulls [] rfl⟩
  · refine TW.skip ?_
    refine TE.next ?_
    refine TW.seq ?_
    refine TW.seq ?_
    refine TW.region ?_
    refine TO.y (Y.assign rfl) rfl rfl rfl ?_
    refine TO.nil ?_
    refine TE.next ?_
    refine TW.joinX (τ := Int) (X := Unit) (fun T _ => [(1, .int .i64 T)]) (fun _ _ => []) ?_ (fun T4 X5 => ?_)
    · refine TW.block ?_
      refine TW.loopX (σ := Int × Int) (X := Unit) (fun T _ => [(0, V_a0), (1, .int .i64 T.1), (5, .int .i64 T.2)]) (fun _ _ => []) () [] ⟨rfl, rfl, rfl, trivial⟩ rfl (fun S2 X3 => ?_)
      refine TW.seq ?_
      refine TW.seq ?_
      refine TW.region ?_
      refine TO.y (Y.move rfl) rfl rfl rfl ?_
      refine TO.y (Y.move rfl) rfl rfl rfl ?_
      refine TO.y (Y.len (l := a) ke22 (Base.can HB_V_a0) rfl) rfl rfl rfl ?_
      refine TO.y (Y.lss rfl rfl) rfl rfl rfl ?_
      refine TO.nil ?_
      refine TE.next ?_
      refine TW.cond rfl (fun H6 => ?_) (fun H6 => ?_)
      · refine TW.skip ?_
        refine TE.next ?_
        refine TW.seq ?_
        refine TW.block ?_
        refine TW.seq ?_
        refine TW.region ?_
        refine TO.y (Y.move rfl) rfl rfl rfl ?_
        refine TO.y (Y.move rfl) rfl rfl rfl ?_
        refine TO.bind fun E7 H8 => ?_
        refine TO.y (Y.index ke22 (Base.can HB_V_a0) H8 rfl rfl) rfl rfl rfl ?_
        refine TO.y (Y.load_el (us := [strV E7.Key, strV E7.Val]) (u := .agg #[strV E7.Key, strV E7.Val]) kk75 rfl (Base.can HB_V_a0) (idx_get H8).2.2 rfl rfl rfl rfl rfl) rfl rfl rfl ?_
        refine TO.y (Y.move rfl) rfl rfl rfl ?_
        refine TO.bind fun R9 H10 => ?_
        refine TO.ef (Ef.call (rest := []) [] (laws_szKV_con E7 S2.1  R9 H10) kc56 rfl rfl trivial) rfl rfl rfl (fun _ => ?_)
        refine TO.y (Y.assign rfl) rfl rfl rfl ?_
        refine TO.nil ?_
        refine TE.next ?_
        refine TW.seq ?_
        refine TW.region ?_
        refine TO.y (Y.move rfl) rfl rfl rfl ?_
        refine TO.y (Y.lss rfl rfl) rfl rfl rfl ?_
        refine TO.nil ?_
        refine TE.next ?_
        refine TW.cond rfl (fun H12 => ?_) (fun H12 => ?_)
        · refine TW.seq ?_
          refine TW.region ?_
          refine TO.y (Y.assign rfl) rfl rfl rfl ?_
          refine TO.nil ?_
          refine TE.next ?_
          refine TW.ret ?_
          refine TE.block_ret ?_
          refine TE.then_ret ?_
          refine TE.lp_ret ?_
          refine TE.block_ret ?_
          refine TE.jn_done ?_
          refine TE.then_ret ?_
          exact TE.leaf fun _ _ hf_ hs_ => ret_any (rs := [.tmp 4]) (vs := [.int .i64 (-1 : Int)]) (.inl rfl) rfl ⟨rfl, trivial⟩ hf_ hs_ ⟨(), rfl, hs_.pulls [] rfl⟩
        · refine TW.skip ?_
          refine TE.block_normal ?_
          refine TE.next ?_
          refine TW.region ?_
          refine TO.y (Y.move rfl) rfl rfl rfl ?_
          refine TO.y (Y.add rfl rfl) rfl rfl rfl ?_
          refine TO.y (Y.assign rfl) rfl rfl rfl ?_
          refine TO.nil ?_
          exact TE.lp_go () [] ⟨rfl, rfl, rfl, trivial⟩ rfl
      · refine TW.exit ?_
        refine TE.then_exit ?_
        refine TE.lp_exit ?_
        refine TE.block_exit ?_
        exact TE.jn_go () [] ⟨rfl, trivial⟩ rfl
    · refine TE.next ?_
      refine TW.seq ?_
      refine TW.region ?_
      refine TO.y (Y.move rfl) rfl rfl rfl ?_
      refine TO.y (Y.assign rfl) rfl rfl rfl ?_
      refine TO.nil ?_
      refine TE.next ?_
      refine TW.ret ?_
      exact TE.leaf fun _ _ hf_ hs_ => ret_any (rs := [.tmp 4]) (vs := [.int .i64 T4]) (.inl rfl) rfl ⟨rfl, trivial⟩ hf_ hs_ ⟨(), rfl, hs_.pulls [] rfl⟩

/-- loop.example/g00950/laws.szIter -/
noncomputable def laws_szIter (a : Iter) (left : Int) : Option Int :=
  (laws_szKVS a.List left).bind fun R2 =>
  if (decide (R2 < (0 : Int))) = true then (some (-1 : Int))
  else (if (decide (IntKind.i64.wrap (R2 - ((a.From.length : Nat) : Int)) < (0 : Int))) = true then (some (-1 : Int))
  else (if (decide (IntKind.i64.wrap (IntKind.i64.wrap (R2 - ((a.From.length : Nat) : Int)) - ((a.To.length : Nat) : Int)) < (0 : Int))) = true then (some (-1 : Int))
  else (some (IntKind.i64.wrap (IntKind.i64.wrap (R2 - ((a.From.length : Nat) : Int)) - ((a.To.length : Nat) : Int))))))

theorem laws_szIter_con (a : Iter) (left : Int) (V_a0 : Value) (r : Int) (hm : laws_szIter a left = some r) :
    Con Try.prog 9 [.agg #[V_a0, strV a.From, strV a.To, .int .i64 a.At], .int .i64 left] [] [(V_a0, lc 75 a.List)] (fun _ : Unit => .int .i64 r) (fun _ => []) := by
  refine Con.intro (args := [.agg #[V_a0, strV a.From, strV a.To, .int .i64 a.At], .int .i64 left]) (n := 26) (val := fun r (_ : Unit) => .int .i64 r) (post := fun _ _ => []) (m := laws_szIter a left) Try.func9 rfl rfl rfl hm ?_
  intro w S hrd
  have HB_V_a0 := hrd _ (.head _)
  clear hrd
  unfold laws_szIter
  refine TW.seq ?_
  refine TW.region ?_
  refine TO.ef (Ef.box rfl (Cel.agg ⟨(One.can (Base.can HB_V_a0)), (One.plain rfl), (One.plain rfl), (One.plain rfl), trivial⟩)) rfl rfl rfl (fun B1 => ?_)
  refine TO.y (Y.assign rfl) rfl rfl rfl ?_
  refine TO.nil ?_
  refine TE.next ?_
  refine TW.seq ?_
  refine TW.region ?_
  refine TO.y (Y.field_box kf24_0 rfl rfl) rfl rfl rfl ?_
  refine TO.y (Y.load_box (v := V_a0) 0 kk22 rfl rfl rfl) rfl rfl rfl ?_
  refine TO.y (Y.move rfl) rfl rfl rfl ?_
  refine TO.bind fun R2 H3 => ?_
  refine TO.ef (Ef.call (rest := [.box B1 24 [V_a0, strV a.From, strV a.To, .int .i64 a.At]]) [0] (laws_szKVS_con a.List left V_a0 R2 H3) kc35 rfl rfl ⟨(Base.can HB_V_a0), trivial⟩) rfl rfl rfl (fun _ => ?_)
  refine TO.y (Y.assign rfl) rfl rfl rfl ?_
  refine TO.nil ?_
  refine TE.next ?_
  refine TW.seq ?_
  refine TW.seq ?_
  refine TW.region ?_
  refine TO.y (Y.move rfl) rfl rfl rfl ?_
  refine TO.y (Y.lss rfl rfl) rfl rfl rfl ?_
  refine TO.nil ?_
  refine TE.next ?_
  refine TW.cond rfl (fun H5 => ?_) (fun H5 => ?_)
  · refine TW.seq ?_
    refine TW.region ?_
    refine TO.y (Y.assign rfl) rfl rfl rfl ?_
    refine TO.nil ?_
    refine TE.next ?_
    refine TW.ret ?_
    refine TE.then_ret ?_
    exact TE.leaf fun _ _ hf_ hs_ => ret_any (rs := [.tmp 4]) (vs := [.int .i64 (-1 : Int)]) (.inl rfl) rfl ⟨rfl, trivial⟩ hf_ hs_ ⟨(), rfl, hs_.pulls [] rfl⟩
  · refine TW.skip ?_
    refine TE.next ?_
    refine TW.seq ?_
    refine TW.region ?_
    refine TO.y (Y.move rfl) rfl rfl rfl ?_
    refine TO.y (Y.field_box kf24_1 rfl rfl) rfl rfl rfl ?_
    refine TO.y (Y.load_box (v := strV a.From) 0 kk9 rfl rfl rfl) rfl rfl rfl ?_
    refine TO.y (Y.slen ks9 rfl) rfl rfl rfl ?_
    refine TO.y (Y.sub rfl rfl) rfl rfl rfl ?_
    refine TO.y (Y.assign rfl) rfl rfl rfl ?_
    refine TO.nil ?_
    refine TE.next ?_
    refine TW.seq ?_
    refine TW.seq ?_
    refine TW.region ?_
    refine TO.y (Y.move rfl) rfl rfl rfl ?_
    refine TO.y (Y.lss rfl rfl) rfl rfl rfl ?_
    refine TO.nil ?_
    refine TE.next ?_
    refine TW.cond rfl (fun H6 => ?_) (fun H6 => ?_)
    · refine TW.seq ?_
      refine TW.region ?_
      refine TO.y (Y.assign rfl) rfl rfl rfl ?_
      refine TO.nil ?_
      refine TE.next ?_
      refine TW.ret ?_
      refine TE.then_ret ?_
      exact TE.leaf fun _ _ hf_ hs_ => ret_any (rs := [.tmp 4]) (vs := [.int .i64 (-1 : Int)]) (.inl rfl) rfl ⟨rfl, trivial⟩ hf_ hs_ ⟨(), rfl, hs_.pulls [] rfl⟩
    · refine TW.skip ?_
      refine TE.next ?_
      refine TW.seq ?_
      refine TW.region ?_
      refine TO.y (Y.move rfl) rfl rfl rfl ?_
      refine TO.y (Y.field_box kf24_2 rfl rfl) rfl rfl rfl ?_
      refine TO.y (Y.load_box (v := strV a.To) 0 kk9 rfl rfl rfl) rfl rfl rfl ?_
      refine TO.y (Y.slen ks9 rfl) rfl rfl rfl ?_
      refine TO.y (Y.sub rfl rfl) rfl rfl rfl ?_
      refine TO.y (Y.assign rfl) rfl rfl rfl ?_
      refine TO.nil ?_
      refine TE.next ?_
      refine TW.seq ?_
      refine TW.seq ?_
      refine TW.region ?_
      refine TO.y (Y.move rfl) rfl rfl rfl ?_
      refine TO.y (Y.lss rfl rfl) rfl rfl rfl ?_
      refine TO.nil ?_
      refine TE.next ?_
      refine TW.cond rfl (fun H7 => ?_) (fun H7 => ?_)
      · refine TW.seq ?_
        refine TW.region ?_
        refine TO.y (Y.assign rfl) rfl rfl rfl ?_
        refine TO.nil ?_
        refine TE.next ?_
        refine TW.ret ?_
        refine TE.then_ret ?_
        exact TE.leaf fun _ _ hf_ hs_ => ret_any (rs := [.tmp 4]) (vs := [.int .i64 (-1 : Int)]) (.inl rfl) rfl ⟨rfl, trivial⟩ hf_ hs_ ⟨(), rfl, hs_.pulls [] rfl⟩
      · refine TW.skip ?_
        refine TE.next ?_
        refine TW.seq ?_
        refine TW.region ?_
        refine TO.y (Y.move rfl) rfl rfl rfl ?_
        refine TO.y (Y.assign rfl) rfl rfl rfl ?_
        refine TO.nil ?_
        refine TE.next ?_
        refine TW.ret ?_
        exact TE.leaf fun _ _ hf_ hs_ => ret_any (rs := [.tmp 4]) (vs := [.int .i64 (IntKind.i64.wrap (IntKind.i64.wrap (R2 - ((a.From.length : Nat) : Int)) - ((a.To.length : Nat) : Int)))]) (.inl rfl) rfl ⟨rfl, trivial⟩ hf_ hs_ ⟨(), rfl, hs_.pulls [] rfl⟩

/-- loop.example/g00950/laws.toKV -/
noncomputable def laws_toKV (a : KV) : Option KV :=
  some a

theorem laws_toKV_con (a : KV)  (r : KV) (hm : laws_toKV a = some r) :
    Con Try.prog 60 [.agg #[strV a.Key, strV a.Val]] [] [] (fun _ : Unit => .agg #[strV r.Key, strV r.Val]) (fun _ => []) := by
  refine Con.intro (args := [.agg #[strV a.Key, strV a.Val]]) (n := 11) (val := fun r (_ : Unit) => .agg #[strV r.Key, strV r.Val]) (post := fun _ _ => []) (m := laws_toKV a) Try.func60 rfl rfl rfl hm ?_
  intro w S _
  unfold laws_toKV
  refine TW.seq ?_
  refine TW.region ?_
  refine TO.ef (Ef.box rfl (Cel.plain rfl rfl)) rfl rfl rfl (fun B1 => ?_)
  refine TO.ef (Ef.alloc kz30 rfl) rfl rfl rfl (fun B2 => ?_)
  refine TO.nil ?_
  refine TE.next ?_
  refine TW.seq ?_
  refine TW.region ?_
  refine TO.ef (Ef.alloc kz30 rfl) rfl rfl rfl (fun B3 => ?_)
  refine TO.nil ?_
  refine TE.next ?_
  refine TW.seq ?_
  refine TW.region ?_
  refine TO.y (Y.field_box kf75_0 rfl rfl) rfl rfl rfl ?_
  refine TO.y (Y.load_box (v := strV a.Key) 2 kk9 rfl rfl rfl) rfl rfl rfl ?_
  refine TO.y (Y.field_box kf30_0 rfl rfl) rfl rfl rfl ?_
  refine TO.ef0 (Ef.store_box (us := [strV a.Key]) (vs' := [strV a.Key, strV ([])]) (is' := [.box B3 30 [strV a.Key, strV ([])], .box B2 30 [strV ([]), strV ([])], .box B1 75 [strV a.Key, strV a.Val]]) 0 kk9 rfl rfl rfl (Cel.plain rfl rfl) rfl rfl rfl rfl) rfl rfl (fun _ => ?_)
  refine TO.nil ?_
  refine TE.next ?_
  refine TW.seq ?_
  refine TW.region ?_
  refine TO.y (Y.field_box kf75_1 rfl rfl) rfl rfl rfl ?_
  refine TO.y (Y.load_box (v := strV a.Val) 2 kk9 rfl rfl rfl) rfl rfl rfl ?_
  refine TO.y (Y.field_box kf30_1 rfl rfl) rfl rfl rfl ?_
  refine TO.ef0 (Ef.store_box (us := [strV a.Val]) (vs' := [strV a.Key, strV a.Val]) (is' := [.box B3 30 [strV a.Key, strV a.Val], .box B2 30 [strV ([]), strV ([])], .box B1 75 [strV a.Key, strV a.Val]]) 0 kk9 rfl rfl rfl (Cel.plain rfl rfl) rfl rfl rfl rfl) rfl rfl (fun _ => ?_)
  refine TO.nil ?_
  refine TE.next ?_
  refine TW.seq ?_
  refine TW.region ?_
  refine TO.y (Y.load_box (v := .agg #[strV a.Key, strV a.Val]) 0 kk30 rfl rfl rfl) rfl rfl rfl ?_
  refine TO.ef0 (Ef.store_box (us := [strV a.Key, strV a.Val]) (vs' := [strV a.Key, strV a.Val]) (is' := [.box B3 30 [strV a.Key, strV a.Val], .box B2 30 [strV a.Key, strV a.Val], .box B1 75 [strV a.Key, strV a.Val]]) 1 kk30 rfl rfl rfl (Cel.plain rfl rfl) rfl rfl rfl rfl) rfl rfl (fun _ => ?_)
  refine TO.nil ?_
  refine TE.next ?_
  refine TW.ret ?_
  exact TE.leaf fun _ _ hf_ hs_ => ret_any (rs := [.cell 2 30]) (vs := [.agg #[strV a.Key, strV a.Val]]) (.inl rfl) rfl (RV.cell 1 rfl rfl kk30 rfl trivial) hf_ hs_ ⟨(), rfl, hs_.pulls [] rfl⟩

/-- loop.example/g00950/laws.toKVS -/
noncomputable def laws_toKVS (a : List KV) : Option (List KV) :=
  (mkLen 32 ((a.length : Nat) : Int)).bind fun E2 =>
  bindC (loopO (fun (S4 : Int × List KV) => if (decide (S4.1 < ((a.length : Nat) : Int))) = true then ((idx a S4.1).bind fun E9 =>
  (laws_toKV E9).bind fun R11 =>
  (idx S4.2 S4.1).bind fun E14 =>
  some (.go (IntKind.i64.wrap (S4.1 + (1 : Int)), (S4.2.set S4.1.toNat R11))))
  else (some (.done (.go S4.2))))
  ((0 : Int), (List.replicate E2 ({ Key := [], Val := [] : KV } : KV))))
  (fun (T6 : List KV) => some T6)

theorem laws_toKVS_con (a : List KV) (V_a0 : Value) (r : List KV) (hm : laws_toKVS a = some r) :
    Con Try.prog 38 [V_a0] [] [(V_a0, lc 75 a)] (fun X : Value => X) (fun X => [.own X (lc 30 r)]) := by
  refine Con.intro (args := [V_a0]) (n := 23) (val := fun _ (X : Value) => X) (post := fun r X => [.own X (lc 30 r)]) (m := laws_toKVS a) Try.func38 rfl rfl rfl hm ?_
  intro w S hrd
  have HB_V_a0 := hrd _ (.head _)
  clear hrd
  unfold laws_toKVS
  refine TW.seq ?_
  refine TW.region ?_
  refine TO.y (Y.assign rfl) rfl rfl rfl ?_
  refine TO.nil ?_
  refine TE.next ?_
  refine TW.seq ?_
  refine TW.region ?_
  refine TO.y (Y.move rfl) rfl rfl rfl ?_
  refine TO.y (Y.len (l := a) ke22 (Base.can HB_V_a0) rfl) rfl rfl rfl ?_
  refine TO.bind fun E2 H3 => ?_
  refine TO.ef (Ef.make (α := KV) (z := ({ Key := [], Val := [] : KV } : KV)) H3 ke26 kz30 rfl rfl rfl rfl) rfl rfl rfl (fun V1 => ?_)
  refine TO.y (Y.assign rfl) rfl rfl rfl ?_
  refine TO.nil ?_
  refine TE.next ?_
  refine TW.seq ?_
  refine TW.seq ?_
  refine TW.region ?_
  refine TO.y (Y.assign rfl) rfl rfl rfl ?_
  refine TO.nil ?_
  refine TE.next ?_
  refine TW.joinX (τ := List KV) (X := Unit) (fun _ _ => [(3, V1)]) (fun T _ => [.own V1 (lc 30 T)]) ?_ (fun T6 X7 => ?_)
  · refine TW.block ?_
    refine TW.loopX (σ := Int × List KV) (X := Unit) (fun T _ => [(0, V_a0), (3, V1), (4, .int .i64 T.1)]) (fun T _ => [.own V1 (lc 30 T.2)]) () [0] ⟨rfl, rfl, rfl, trivial⟩ rfl (fun S4 X5 => ?_)
    refine TW.seq ?_
    refine TW.seq ?_
    refine TW.region ?_
    refine TO.y (Y.move rfl) rfl rfl rfl ?_
    refine TO.y (Y.move rfl) rfl rfl rfl ?_
    refine TO.y (Y.len (l := a) ke22 (Base.can HB_V_a0) rfl) rfl rfl rfl ?_
    refine TO.y (Y.lss rfl rfl) rfl rfl rfl ?_
    refine TO.nil ?_
    refine TE.next ?_
    refine TW.cond rfl (fun H8 => ?_) (fun H8 => ?_)
    · refine TW.skip ?_
      refine TE.next ?_
      refine TW.seq ?_
      refine TW.block ?_
      refine TW.region ?_
      refine TO.y (Y.move rfl) rfl rfl rfl ?_
      refine TO.y (Y.move rfl) rfl rfl rfl ?_
      refine TO.y (Y.move rfl) rfl rfl rfl ?_
      refine TO.y (Y.move rfl) rfl rfl rfl ?_
      refine TO.bind fun E9 H10 => ?_
      refine TO.y (Y.index ke22 (Base.can HB_V_a0) H10 rfl rfl) rfl rfl rfl ?_
      refine TO.y (Y.load_el (us := [strV E9.Key, strV E9.Val]) (u := .agg #[strV E9.Key, strV E9.Val]) kk75 rfl (Base.can HB_V_a0) (idx_get H10).2.2 rfl rfl rfl rfl rfl) rfl rfl rfl ?_
      refine TO.bind fun R11 H12 => ?_
      refine TO.ef (Ef.call (rest := [.own V1 (lc 30 S4.2)]) [0] (laws_toKV_con E9  R11 H12) kc60 rfl rfl trivial) rfl rfl rfl (fun _ => ?_)
      refine TO.bind fun E14 H15 => ?_
      refine TO.y (Y.index ke26 (Can.own 0 rfl) H15 rfl rfl) rfl rfl rfl ?_
      refine TO.ef0 (Ef.store_el (us := [strV R11.Key, strV R11.Val]) (is' := [.own V1 (lc 30 (S4.2.set S4.1.toNat R11))]) R11 0 kk30 rfl rfl (idx_get H15).2.2 rfl rfl (Cel.plain rfl rfl) rfl rfl rfl rfl) rfl rfl (fun _ => ?_)
      refine TO.nil ?_
      refine TE.block_normal ?_
      refine TE.next ?_
      refine TW.region ?_
      refine TO.y (Y.move rfl) rfl rfl rfl ?_
      refine TO.y (Y.add rfl rfl) rfl rfl rfl ?_
      refine TO.y (Y.assign rfl) rfl rfl rfl ?_
      refine TO.nil ?_
      exact TE.lp_go () [0] ⟨rfl, rfl, rfl, trivial⟩ rfl
    · refine TW.exit ?_
      refine TE.then_exit ?_
      refine TE.lp_exit ?_
      refine TE.block_exit ?_
      exact TE.jn_go () [0] ⟨rfl, trivial⟩ rfl
  · refine TE.next ?_
    refine TW.seq ?_
    refine TW.region ?_
    refine TO.y (Y.move rfl) rfl rfl rfl ?_
    refine TO.y (Y.assign rfl) rfl rfl rfl ?_
    refine TO.nil ?_
    refine TE.next ?_
    refine TW.ret ?_
    exact TE.leaf fun _ _ hf_ hs_ => ret_any (rs := [.tmp 2]) (vs := [V1]) (.inl rfl) rfl ⟨rfl, trivial⟩ hf_ hs_ ⟨V1, rfl, hs_.pulls [0] rfl⟩

/-- loop.example/g00950/laws.toIter -/
noncomputable def laws_toIter (a : Iter) : Option Iter :=
  (laws_toKVS a.List).bind fun R4 =>
  some ({ List := R4, From := a.From, To := a.To, At := a.At : Iter })

theorem laws_toIter_con (a : Iter) (V_a0 : Value) (r : Iter) (hm : laws_toIter a = some r) :
    Con Try.prog 11 [.agg #[V_a0, strV a.From, strV a.To, .int .i64 a.At]] [] [(V_a0, lc 75 a.List)] (fun X : Value => .agg #[X, strV r.From, strV r.To, .int .i64 r.At]) (fun X => [.own X (lc 30 r.List)]) := by
  refine Con.intro (args := [.agg #[V_a0, strV a.From, strV a.To, .int .i64 a.At]]) (n := 18) (val := fun r (X : Value) => .agg #[X, strV r.From, strV r.To, .int .i64 r.At]) (post := fun r X => [.own X (lc 30 r.List)]) (m := laws_toIter a) Try.func11 rfl rfl rfl hm ?_
  intro w S hrd
  have HB_V_a0 := hrd _ (.head _)
  clear hrd
  unfold laws_toIter
  refine TW.seq ?_
  refine TW.region ?_
  refine TO.ef (Ef.box rfl (Cel.agg ⟨(One.can (Base.can HB_V_a0)), (One.plain rfl), (One.plain rfl), (One.plain rfl), trivial⟩)) rfl rfl rfl (fun B1 => ?_)
  refine TO.ef (Ef.alloc kz28 rfl) rfl rfl rfl (fun B2 => ?_)
  refine TO.nil ?_
  refine TE.next ?_
  refine TW.seq ?_
  refine TW.region ?_
  refine TO.ef (Ef.alloc kz28 rfl) rfl rfl rfl (fun B3 => ?_)
  refine TO.nil ?_
  refine TE.next ?_
  refine TW.seq ?_
  refine TW.region ?_
  refine TO.y (Y.field_box kf24_0 rfl rfl) rfl rfl rfl ?_
  refine TO.y (Y.load_box (v := V_a0) 2 kk22 rfl rfl rfl) rfl rfl rfl ?_
  refine TO.bind fun R4 H5 => ?_
  refine TO.ef (Ef.call (rest := [.box B3 28 [.slice none 0 0, strV ([]), strV ([]), .int .i64 (0 : Int)], .box B2 28 [.slice none 0 0, strV ([]), strV ([]), .int .i64 (0 : Int)], .box B1 24 [V_a0, strV a.From, strV a.To, .int .i64 a.At]]) [0, 0, 0] (laws_toKVS_con a.List V_a0 R4 H5) kc38 rfl rfl ⟨(Base.can HB_V_a0), trivial⟩) rfl rfl rfl (fun Y6 => ?_)
  refine TO.y (Y.field_box kf28_0 rfl rfl) rfl rfl rfl ?_
  refine TO.ef0 (Ef.store_box (us := [Y6]) (vs' := [Y6, strV ([]), strV ([]), .int .i64 (0 : Int)]) (is' := [.own Y6 (lc 30 R4), .box B3 28 [Y6, strV ([]), strV ([]), .int .i64 (0 : Int)], .box B2 28 [.slice none 0 0, strV ([]), strV ([]), .int .i64 (0 : Int)], .box B1 24 [V_a0, strV a.From, strV a.To, .int .i64 a.At]]) 1 kk26 rfl rfl rfl (Cel.one (One.can (Can.own 0 rfl))) rfl rfl rfl rfl) rfl rfl (fun _ => ?_)
  refine TO.nil ?_
  refine TE.next ?_
  refine TW.seq ?_
  refine TW.region ?_
  refine TO.y (Y.field_box kf24_1 rfl rfl) rfl rfl rfl ?_
  refine TO.y (Y.load_box (v := strV a.From) 3 kk9 rfl rfl rfl) rfl rfl rfl ?_
  refine TO.y (Y.field_box kf28_1 rfl rfl) rfl rfl rfl ?_
  refine TO.ef0 (Ef.store_box (us := [strV a.From]) (vs' := [Y6, strV a.From, strV ([]), .int .i64 (0 : Int)]) (is' := [.own Y6 (lc 30 R4), .box B3 28 [Y6, strV a.From, strV ([]), .int .i64 (0 : Int)], .box B2 28 [.slice none 0 0, strV ([]), strV ([]), .int .i64 (0 : Int)], .box B1 24 [V_a0, strV a.From, strV a.To, .int .i64 a.At]]) 1 kk9 rfl rfl rfl (Cel.plain rfl rfl) rfl rfl rfl rfl) rfl rfl (fun _ => ?_)
  refine TO.nil ?_
  refine TE.next ?_
  refine TW.seq ?_
  refine TW.region ?_
  refine TO.y (Y.field_box kf24_2 rfl rfl) rfl rfl rfl ?_
  refine TO.y (Y.load_box (v := strV a.To) 3 kk9 rfl rfl rfl) rfl rfl rfl ?_
  refine TO.y (Y.field_box kf28_2 rfl rfl) rfl rfl rfl ?_
  refine TO.ef0 (Ef.store_box (us := [strV a.To]) (vs' := [Y6, strV a.From, strV a.To, .int .i64 (0 : Int)]) (is' := [.own Y6 (lc 30 R4), .box B3 28 [Y6, strV a.From, strV a.To, .int .i64 (0 : Int)], .box B2 28 [.slice none 0 0, strV ([]), strV ([]), .int .i64 (0 : Int)], .box B1 24 [V_a0, strV a.From, strV a.To, .int .i64 a.At]]) 1 kk9 rfl rfl rfl (Cel.plain rfl rfl) rfl rfl rfl rfl) rfl rfl (fun _ => ?_)
  refine TO.nil ?_
  refine TE.next ?_
  refine TW.seq ?_
  refine TW.region ?_
  refine TO.y (Y.field_box kf24_3 rfl rfl) rfl rfl rfl ?_
  refine TO.y (Y.load_box (v := .int .i64 a.At) 3 kk3 rfl rfl rfl) rfl rfl rfl ?_
  refine TO.y (Y.field_box kf28_3 rfl rfl) rfl rfl rfl ?_
  refine TO.ef0 (Ef.store_box (us := [.int .i64 a.At]) (vs' := [Y6, strV a.From, strV a.To, .int .i64 a.At]) (is' := [.own Y6 (lc 30 R4), .box B3 28 [Y6, strV a.From, strV a.To, .int .i64 a.At], .box B2 28 [.slice none 0 0, strV ([]), strV ([]), .int .i64 (0 : Int)], .box B1 24 [V_a0, strV a.From, strV a.To, .int .i64 a.At]]) 1 kk3 rfl rfl rfl (Cel.plain rfl rfl) rfl rfl rfl rfl) rfl rfl (fun _ => ?_)
  refine TO.nil ?_
  refine TE.next ?_
  refine TW.seq ?_
  refine TW.region ?_
  refine TO.y (Y.load_box (v := .agg #[Y6, strV a.From, strV a.To, .int .i64 a.At]) 1 kk28 rfl rfl rfl) rfl rfl rfl ?_
  refine TO.ef0 (Ef.store_box (us := [Y6, strV a.From, strV a.To, .int .i64 a.At]) (vs' := [Y6, strV a.From, strV a.To, .int .i64 a.At]) (is' := [.own Y6 (lc 30 R4), .box B3 28 [Y6, strV a.From, strV a.To, .int .i64 a.At], .box B2 28 [Y6, strV a.From, strV a.To, .int .i64 a.At], .box B1 24 [V_a0, strV a.From, strV a.To, .int .i64 a.At]]) 2 kk28 rfl rfl rfl (Cel.agg ⟨(One.can (Can.own 0 rfl)), (One.plain rfl), (One.plain rfl), (One.plain rfl), trivial⟩) rfl rfl rfl rfl) rfl rfl (fun _ => ?_)
  refine TO.nil ?_
  refine TE.next ?_
  refine TW.ret ?_
  exact TE.leaf fun _ _ hf_ hs_ => ret_any (rs := [.cell 2 28]) (vs := [.agg #[Y6, strV a.From, strV a.To, .int .i64 a.At]]) (.inl rfl) rfl (RV.cell 2 rfl rfl kk28 rfl trivial) hf_ hs_ ⟨Y6, rfl, hs_.pulls [0] rfl⟩

/-- loop.example/g00950/spec.l1In -/
noncomputable def spec_l1In (x : Int) (low : Int) (high : Int) : Option Bool :=
  (if (decide (x ≥ low)) = true then (some (decide (x ≤ high)))
  else (some false)).bind (fun (T1 : Bool) =>
  some T1)

theorem spec_l1In_con (x : Int) (low : Int) (high : Int)  (r : Bool) (hm : spec_l1In x low high = some r) :
    Con Try.prog 54 [.int .i64 x, .int .i64 low, .int .i64 high] [] [] (fun _ : Unit => .bool r) (fun _ => []) := by
  refine Con.intro (args := [.int .i64 x, .int .i64 low, .int .i64 high]) (n := 15) (val := fun r (_ : Unit) => .bool r) (post := fun _ _ => []) (m := spec_l1In x low high) Try.func54 rfl rfl rfl hm ?_
  intro w S _
  unfold spec_l1In
  refine TW.seq ?_
  refine TW.region ?_
  refine TO.y (Y.assign rfl) rfl rfl rfl ?_
  refine TO.nil ?_
  refine TE.next ?_
  refine TW.seq ?_
  refine TW.joinBX (τ := Bool) (X := Unit) (fun T _ => [(6, .bool T)]) (fun _ _ => []) ?_ (fun T1 X2 => ?_)
  · refine TW.region ?_
    refine TO.y (Y.move rfl) rfl rfl rfl ?_
    refine TO.y (Y.move rfl) rfl rfl rfl ?_
    refine TO.y (Y.geq rfl rfl) rfl rfl rfl ?_
    refine TO.y (Y.move rfl) rfl rfl rfl ?_
    refine TO.ite (b := decide (x ≥ low)) (fun H3 => ?_) (fun H3 => ?_)
    · refine TO.y (Y.move rfl) (Gd.at 3 true 10 (decide (x ≥ low)) rfl rfl rfl (beq_tt H3)) rfl rfl ?_
      refine TO.y (Y.move rfl) (Gd.at 3 true 10 (decide (x ≥ low)) rfl rfl rfl (beq_tt H3)) rfl rfl ?_
      refine TO.y (Y.leq rfl rfl) (Gd.at 3 true 10 (decide (x ≥ low)) rfl rfl rfl (beq_tt H3)) rfl rfl ?_
      refine TO.y (Y.pick_t H3 rfl rfl) rfl rfl rfl ?_
      refine TO.y (Y.assign rfl) rfl rfl rfl ?_
      refine TO.nil ?_
      exact TE.jb_go () [] ⟨rfl, trivial⟩ rfl
    · refine TO.off (Gd.at 3 true 10 (decide (x ≥ low)) rfl rfl rfl (beq_ft H3)) rfl rfl ?_
      refine TO.off (Gd.at 3 true 10 (decide (x ≥ low)) rfl rfl rfl (beq_ft H3)) rfl rfl ?_
      refine TO.off (Gd.at 3 true 10 (decide (x ≥ low)) rfl rfl rfl (beq_ft H3)) rfl rfl ?_
      refine TO.y (Y.pick_f H3 rfl rfl) rfl rfl rfl ?_
      refine TO.y (Y.assign rfl) rfl rfl rfl ?_
      refine TO.nil ?_
      exact TE.jb_go () [] ⟨rfl, trivial⟩ rfl
  · refine TE.next ?_
    refine TW.ret ?_
    exact TE.leaf fun _ _ hf_ hs_ => ret_any (rs := [.tmp 6]) (vs := [.bool T1]) (.inl rfl) rfl ⟨rfl, trivial⟩ hf_ hs_ ⟨(), rfl, hs_.pulls [] rfl⟩

/-- loop.example/g00950/spec.l7Op -/
noncomputable def spec_l7Op (o : Op) : Option Bool :=
  ((spec_l1In ((o.Key.length : Nat) : Int) (1 : Int) (10 : Int)).bind fun R4 =>
  if R4 = true then (if (decide (((o.Val.length : Nat) : Int) ≤ (16 : Int))) = true then (if (!o.Del) = true then (some true)
  else (some (decide (o.Val = ([])))))
  else (some false))
  else (some false)).bind (fun (T2 : Bool) =>
  some T2)

theorem spec_l7Op_con (o : Op)  (r : Bool) (hm : spec_l7Op o = some r) :
    Con Try.prog 70 [.agg #[strV o.Key, .bool o.Del, strV o.Val]] [] [] (fun _ : Unit => .bool r) (fun _ => []) := by
  refine Con.intro (args := [.agg #[strV o.Key, .bool o.Del, strV o.Val]]) (n := 23) (val := fun r (_ : Unit) => .bool r) (post := fun _ _ => []) (m := spec_l7Op o) Try.func70 rfl rfl rfl hm ?_
  intro w S _
  unfold spec_l7Op
  refine TW.seq ?_
  refine TW.region ?_
  refine TO.ef (Ef.box rfl (Cel.plain rfl rfl)) rfl rfl rfl (fun B1 => ?_)
  refine TO.y (Y.assign rfl) rfl rfl rfl ?_
  refine TO.nil ?_
  refine TE.next ?_
  refine TW.seq ?_
  refine TW.joinBX (τ := Bool) (X := Unit) (fun T _ => [(2, .bool T)]) (fun _ _ => []) ?_ (fun T2 X3 => ?_)
  · refine TW.region ?_
    refine TO.y (Y.field_box kf88_0 rfl rfl) rfl rfl rfl ?_
    refine TO.y (Y.load_box (v := strV o.Key) 0 kk9 rfl rfl rfl) rfl rfl rfl ?_
    refine TO.y (Y.slen ks9 rfl) rfl rfl rfl ?_
    refine TO.bind fun R4 H5 => ?_
    refine TO.ef (Ef.call (rest := [.box B1 88 [strV o.Key, .bool o.Del, strV o.Val]]) [0] (spec_l1In_con ((o.Key.length : Nat) : Int) (1 : Int) (10 : Int)  R4 H5) kc54 rfl rfl trivial) rfl rfl rfl (fun _ => ?_)
    refine TO.y (Y.move rfl) rfl rfl rfl ?_
    refine TO.ite (b := R4) (fun H7 => ?_) (fun H7 => ?_)
    · refine TO.y (Y.field_box kf88_2 rfl rfl) (Gd.at 4 true 7 R4 rfl rfl rfl (beq_tt H7)) rfl rfl ?_
      refine TO.y (Y.load_box (v := strV o.Val) 0 kk9 rfl rfl rfl) (Gd.at 4 true 7 R4 rfl rfl rfl (beq_tt H7)) rfl rfl ?_
      refine TO.y (Y.slen ks9 rfl) (Gd.at 4 true 7 R4 rfl rfl rfl (beq_tt H7)) rfl rfl ?_
      refine TO.y (Y.leq rfl rfl) (Gd.at 4 true 7 R4 rfl rfl rfl (beq_tt H7)) rfl rfl ?_
      refine TO.y (Y.pick_t H7 rfl rfl) rfl rfl rfl ?_
      refine TO.y (Y.move rfl) rfl rfl rfl ?_
      refine TO.ite (b := decide (((o.Val.length : Nat) : Int) ≤ (16 : Int))) (fun H8 => ?_) (fun H8 => ?_)
      · refine TO.y (Y.field_box kf88_1 rfl rfl) (Gd.at 10 true 13 (decide (((o.Val.length : Nat) : Int) ≤ (16 : Int))) rfl rfl rfl (beq_tt H8)) rfl rfl ?_
        refine TO.y (Y.load_box (v := .bool o.Del) 0 kk4 rfl rfl rfl) (Gd.at 10 true 13 (decide (((o.Val.length : Nat) : Int) ≤ (16 : Int))) rfl rfl rfl (beq_tt H8)) rfl rfl ?_
        refine TO.y (Y.not rfl) (Gd.at 10 true 13 (decide (((o.Val.length : Nat) : Int) ≤ (16 : Int))) rfl rfl rfl (beq_tt H8)) rfl rfl ?_
        refine TO.y (Y.move rfl) (Gd.at 10 true 13 (decide (((o.Val.length : Nat) : Int) ≤ (16 : Int))) rfl rfl rfl (beq_tt H8)) rfl rfl ?_
        refine TO.ite (b := !o.Del) (fun H9 => ?_) (fun H9 => ?_)
        · refine TO.off (Gd.at 14 false 17 (!o.Del) rfl rfl rfl (beq_tf H9)) rfl rfl ?_
          refine TO.off (Gd.at 14 false 17 (!o.Del) rfl rfl rfl (beq_tf H9)) rfl rfl ?_
          refine TO.off (Gd.at 14 false 17 (!o.Del) rfl rfl rfl (beq_tf H9)) rfl rfl ?_
          refine TO.y (Y.pick_t H9 rfl rfl) (Gd.at 10 true 13 (decide (((o.Val.length : Nat) : Int) ≤ (16 : Int))) rfl rfl rfl (beq_tt H8)) rfl rfl ?_
          refine TO.y (Y.pick_t H8 rfl rfl) rfl rfl rfl ?_
          refine TO.y (Y.assign rfl) rfl rfl rfl ?_
          refine TO.nil ?_
          exact TE.jb_go () [] ⟨rfl, trivial⟩ rfl
        · refine TO.y (Y.field_box kf88_2 rfl rfl) (Gd.at 14 false 17 (!o.Del) rfl rfl rfl (beq_ff H9)) rfl rfl ?_
          refine TO.y (Y.load_box (v := strV o.Val) 0 kk9 rfl rfl rfl) (Gd.at 14 false 17 (!o.Del) rfl rfl rfl (beq_ff H9)) rfl rfl ?_
          refine TO.y (Y.seql rfl rfl) (Gd.at 14 false 17 (!o.Del) rfl rfl rfl (beq_ff H9)) rfl rfl ?_
          refine TO.y (Y.pick_f H9 rfl rfl) (Gd.at 10 true 13 (decide (((o.Val.length : Nat) : Int) ≤ (16 : Int))) rfl rfl rfl (beq_tt H8)) rfl rfl ?_
          refine TO.y (Y.pick_t H8 rfl rfl) rfl rfl rfl ?_
          refine TO.y (Y.assign rfl) rfl rfl rfl ?_
          refine TO.nil ?_
          exact TE.jb_go () [] ⟨rfl, trivial⟩ rfl
      · refine TO.off (Gd.at 10 true 13 (decide (((o.Val.length : Nat) : Int) ≤ (16 : Int))) rfl rfl rfl (beq_ft H8)) rfl rfl ?_
        refine TO.off (Gd.at 10 true 13 (decide (((o.Val.length : Nat) : Int) ≤ (16 : Int))) rfl rfl rfl (beq_ft H8)) rfl rfl ?_
        refine TO.off (Gd.at 10 true 13 (decide (((o.Val.length : Nat) : Int) ≤ (16 : Int))) rfl rfl rfl (beq_ft H8)) rfl rfl ?_
        refine TO.off (Gd.at 10 true 13 (decide (((o.Val.length : Nat) : Int) ≤ (16 : Int))) rfl rfl rfl (beq_ft H8)) rfl rfl ?_
        refine TO.off (Gd.un 14 false 17 rfl rfl rfl) rfl rfl ?_
        refine TO.off (Gd.un 14 false 17 rfl rfl rfl) rfl rfl ?_
        refine TO.off (Gd.un 14 false 17 rfl rfl rfl) rfl rfl ?_
        refine TO.off (Gd.at 10 true 13 (decide (((o.Val.length : Nat) : Int) ≤ (16 : Int))) rfl rfl rfl (beq_ft H8)) rfl rfl ?_
        refine TO.y (Y.pick_f H8 rfl rfl) rfl rfl rfl ?_
        refine TO.y (Y.assign rfl) rfl rfl rfl ?_
        refine TO.nil ?_
        exact TE.jb_go () [] ⟨rfl, trivial⟩ rfl
    · refine TO.off (Gd.at 4 true 7 R4 rfl rfl rfl (beq_ft H7)) rfl rfl ?_
      refine TO.off (Gd.at 4 true 7 R4 rfl rfl rfl (beq_ft H7)) rfl rfl ?_
      refine TO.off (Gd.at 4 true 7 R4 rfl rfl rfl (beq_ft H7)) rfl rfl ?_
      refine TO.off (Gd.at 4 true 7 R4 rfl rfl rfl (beq_ft H7)) rfl rfl ?_
      refine TO.y (Y.pick_f H7 rfl rfl) rfl rfl rfl ?_
      refine TO.y (Y.move rfl) rfl rfl rfl ?_
      refine TO.off (Gd.at 10 true 13 false rfl rfl rfl rfl) rfl rfl ?_
      refine TO.off (Gd.at 10 true 13 false rfl rfl rfl rfl) rfl rfl ?_
      refine TO.off (Gd.at 10 true 13 false rfl rfl rfl rfl) rfl rfl ?_
      refine TO.off (Gd.at 10 true 13 false rfl rfl rfl rfl) rfl rfl ?_
      refine TO.off (Gd.un 14 false 17 rfl rfl rfl) rfl rfl ?_
      refine TO.off (Gd.un 14 false 17 rfl rfl rfl) rfl rfl ?_
      refine TO.off (Gd.un 14 false 17 rfl rfl rfl) rfl rfl ?_
      refine TO.off (Gd.at 10 true 13 false rfl rfl rfl rfl) rfl rfl ?_
      refine TO.y (Y.pick_f rfl rfl rfl) rfl rfl rfl ?_
      refine TO.y (Y.assign rfl) rfl rfl rfl ?_
      refine TO.nil ?_
      exact TE.jb_go () [] ⟨rfl, trivial⟩ rfl
  · refine TE.next ?_
    refine TW.ret ?_
    exact TE.leaf fun _ _ hf_ hs_ => ret_any (rs := [.tmp 2]) (vs := [.bool T2]) (.inl rfl) rfl ⟨rfl, trivial⟩ hf_ hs_ ⟨(), rfl, hs_.pulls [] rfl⟩

/-- loop.example/g00950/spec.MapOk -/
noncomputable def spec_MapOk (m : List KV) : Option Bool :=
  bindC (loopO (fun (S1 : Int) => if (decide (S1 < ((m.length : Nat) : Int))) = true then (((idx m S1).bind fun E8 =>
  (spec_l7Op ({ Key := E8.Key, Del := false, Val := E8.Val : Op })).bind fun R10 =>
  if (!R10) = true then (some true)
  else (if (decide (S1 > (0 : Int))) = true then ((idx m (IntKind.i64.wrap (S1 - (1 : Int)))).bind fun E15 =>
  some (!(sLt E15.Key E8.Key)))
  else (some false))).bind (fun (T6 : Bool) =>
  if T6 = true then (some (.done (.done false)))
  else (some (.go (IntKind.i64.wrap (S1 + (1 : Int)))))))
  else (some (.done (.go ()))))
  (0 : Int))
  (fun (T3 : Unit) => some true)

theorem spec_MapOk_con (m : List KV) (V_m0 : Value) (r : Bool) (hm : spec_MapOk m = some r) :
    Con Try.prog 57 [V_m0] [] [(V_m0, lc 30 m)] (fun _ : Unit => .bool r) (fun _ => []) := by
  refine Con.intro (args := [V_m0]) (n := 41) (val := fun r (_ : Unit) => .bool r) (post := fun _ _ => []) (m := spec_MapOk m) Try.func57 rfl rfl rfl hm ?_
  intro w S hrd
  have HB_V_m0 := hrd _ (.head _)
  clear hrd
  unfold spec_MapOk
  refine TW.seq ?_
  refine TW.region ?_
  refine TO.y (Y.assign rfl) rfl rfl rfl ?_
  refine TO.nil ?_
  refine TE.next ?_
  refine TW.seq ?_
  refine TW.seq ?_
  refine TW.region ?_
  refine TO.y (Y.assign rfl) rfl rfl rfl ?_
  refine TO.nil ?_
  refine TE.next ?_
  refine TW.joinX (τ := Unit) (X := Unit) (fun _ _ => []) (fun _ _ => []) ?_ (fun T3 X4 => ?_)
  · refine TW.block ?_
    refine TW.loopX (σ := Int) (X := Unit) (fun T _ => [(0, V_m0), (3, .int .i64 T)]) (fun _ _ => []) () [] ⟨rfl, rfl, trivial⟩ rfl (fun S1 X2 => ?_)
    refine TW.seq ?_
    refine TW.seq ?_
    refine TW.region ?_
    refine TO.y (Y.move rfl) rfl rfl rfl ?_
    refine TO.y (Y.move rfl) rfl rfl rfl ?_
    refine TO.y (Y.len (l := m) ke26 (Base.can HB_V_m0) rfl) rfl rfl rfl ?_
    refine TO.y (Y.lss rfl rfl) rfl rfl rfl ?_
    refine TO.nil ?_
    refine TE.next ?_
    refine TW.cond rfl (fun H5 => ?_) (fun H5 => ?_)
    · refine TW.skip ?_
      refine TE.next ?_
      refine TW.seq ?_
      refine TW.block ?_
      refine TW.seq ?_
      refine TW.joinBX (τ := Bool) (X := Unit) (fun T _ => [(0, V_m0), (3, .int .i64 S1), (40, .bool T)]) (fun _ _ => []) ?_ (fun T6 X7 => ?_)
      · refine TW.draw (isH := []) hMix ?_
        refine TA.y (listed' := #[true, false, false, false, false, false, false, false, false, false, false, false, false, false, false, false, false, false, false, false, false, false, false, false, false, false, false, false, false, false, false]) 0 [] rfl (Y.move rfl) rfl rfl rfl (by kernel_rfl) (by kernel_rfl) (by kernel_rfl) rfl rfl ?_
        refine TA.y (listed' := #[true, true, false, false, false, false, false, false, false, false, false, false, false, false, false, false, false, false, false, false, false, false, false, false, false, false, false, false, false, false, false]) 1 [] rfl (Y.move rfl) rfl rfl rfl (by kernel_rfl) (by kernel_rfl) (by kernel_rfl) rfl rfl ?_
        refine TA.bind fun E8 H9 => ?_
        refine TA.y (listed' := #[true, true, true, false, false, false, false, false, false, false, false, false, false, false, false, false, false, false, false, false, false, false, false, false, false, false, false, false, false, false, false]) 2 [] rfl (Y.index ke26 (Base.can HB_V_m0) H9 rfl rfl) rfl rfl rfl (by kernel_rfl) (by kernel_rfl) (by kernel_rfl) rfl rfl ?_
        refine TA.y (listed' := #[true, true, true, true, false, false, false, false, false, false, false, false, false, false, false, false, false, false, false, false, false, false, false, false, false, false, false, false, false, false, false]) 3 [] rfl (Y.field_el kf30_0 (Base.can HB_V_m0) (idx_get H9).2.2 rfl rfl) rfl rfl rfl (by kernel_rfl) (by kernel_rfl) (by kernel_rfl) rfl rfl ?_
        refine TA.y (listed' := #[true, true, true, true, true, false, false, false, false, false, false, false, false, false, false, false, false, false, false, false, false, false, false, false, false, false, false, false, false, false, false]) 4 [] rfl (Y.load_el (us := [strV E8.Key]) (u := strV E8.Key) kk9 rfl (Base.can HB_V_m0) (idx_get H9).2.2 rfl rfl rfl rfl rfl) rfl rfl rfl (by kernel_rfl) (by kernel_rfl) (by kernel_rfl) rfl rfl ?_
        refine TA.y (listed' := #[true, true, true, true, true, true, false, false, false, false, false, false, false, false, false, false, false, false, false, false, false, false, false, false, false, false, false, false, false, false, false]) 5 [] rfl (Y.move rfl) rfl rfl rfl (by kernel_rfl) (by kernel_rfl) (by kernel_rfl) rfl rfl ?_
        refine TA.y (listed' := #[true, true, true, true, true, true, true, false, false, false, false, false, false, false, false, false, false, false, false, false, false, false, false, false, false, false, false, false, false, false, false]) 6 [] rfl (Y.move rfl) rfl rfl rfl (by kernel_rfl) (by kernel_rfl) (by kernel_rfl) rfl rfl ?_
        refine TA.y (listed' := #[true, true, true, true, true, true, true, true, false, false, false, false, false, false, false, false, false, false, false, false, false, false, false, false, false, false, false, false, false, false, false]) 7 [] rfl (Y.index ke26 (Base.can HB_V_m0) H9 rfl rfl) rfl rfl rfl (by kernel_rfl) (by kernel_rfl) (by kernel_rfl) rfl rfl ?_
        refine TA.y (listed' := #[true, true, true, true, true, true, true, true, true, false, false, false, false, false, false, false, false, false, false, false, false, false, false, false, false, false, false, false, false, false, false]) 8 [] rfl (Y.field_el kf30_1 (Base.can HB_V_m0) (idx_get H9).2.2 rfl rfl) rfl rfl rfl (by kernel_rfl) (by kernel_rfl) (by kernel_rfl) rfl rfl ?_
        refine TA.y (listed' := #[true, true, true, true, true, true, true, true, true, true, false, false, false, false, false, false, false, false, false, false, false, false, false, false, false, false, false, false, false, false, false]) 9 [] rfl (Y.load_el (us := [strV E8.Val]) (u := strV E8.Val) kk9 rfl (Base.can HB_V_m0) (idx_get H9).2.2 rfl rfl rfl rfl rfl) rfl rfl rfl (by kernel_rfl) (by kernel_rfl) (by kernel_rfl) rfl rfl ?_
        refine TA.y (listed' := #[true, true, true, true, true, true, true, true, true, true, true, false, false, false, false, false, false, false, false, false, false, false, false, false, false, false, false, false, false, false, false]) 10 [] rfl (Y.build (cells := [strV E8.Key, .bool false, strV E8.Val]) [(0, [strV E8.Key]), (2, [strV E8.Val])] kp88 kz88 ⟨rfl, ⟨_, rfl, (Cel.plain rfl rfl)⟩, ⟨rfl, ⟨_, rfl, (Cel.plain rfl rfl)⟩, trivial⟩⟩ rfl) rfl rfl rfl (by kernel_rfl) (by kernel_rfl) (by kernel_rfl) rfl rfl ?_
        refine TA.bind fun R10 H11 => ?_
        refine TA.one 11 (by kernel_rfl) ?_
        refine TX.ef (listed' := #[true, true, true, true, true, true, true, true, true, true, true, true, false, false, false, false, false, false, false, false, false, false, false, false, false, false, false, false, false, false, false]) [] rfl (Ef.call (rest := []) [] (spec_l7Op_con ({ Key := E8.Key, Del := false, Val := E8.Val : Op })  R10 H11) kc70 rfl rfl trivial) rfl rfl rfl rfl (fun _ => rfl) (fun _ => ?_)
        refine TA.y (listed' := #[true, true, true, true, true, true, true, true, true, true, true, true, true, false, false, false, false, false, false, false, false, false, false, false, false, false, false, false, false, false, false]) 12 [] rfl (Y.not rfl) rfl rfl rfl (by kernel_rfl) (by kernel_rfl) (by kernel_rfl) rfl rfl ?_
        refine TA.y (listed' := #[true, true, true, true, true, true, true, true, true, true, true, true, true, true, false, false, false, false, false, false, false, false, false, false, false, false, false, false, false, false, false]) 13 [] rfl (Y.move rfl) rfl rfl rfl (by kernel_rfl) (by kernel_rfl) (by kernel_rfl) rfl rfl ?_
        refine TA.ite (b := !R10) (fun H13 => ?_) (fun H13 => ?_)
        · refine TA.off (listed' := #[true, true, true, true, true, true, true, true, true, true, true, true, true, true, true, false, false, false, false, false, false, false, false, false, false, false, false, false, false, false, false]) 14 [] rfl (Gd.at 13 false 23 (!R10) rfl rfl rfl (beq_tf H13)) rfl rfl (by kernel_rfl) (by kernel_rfl) (by kernel_rfl) rfl rfl ?_
          refine TA.off (listed' := #[true, true, true, true, true, true, true, true, true, true, true, true, true, true, true, true, false, false, false, false, false, false, false, false, false, false, false, false, false, false, false]) 15 [] rfl (Gd.at 13 false 23 (!R10) rfl rfl rfl (beq_tf H13)) rfl rfl (by kernel_rfl) (by kernel_rfl) (by kernel_rfl) rfl rfl ?_
          refine TA.off (listed' := #[true, true, true, true, true, true, true, true, true, true, true, true, true, true, true, true, true, false, false, false, false, false, false, false, false, false, false, false, false, false, false]) 16 [] rfl (Gd.at 13 false 23 (!R10) rfl rfl rfl (beq_tf H13)) rfl rfl (by kernel_rfl) (by kernel_rfl) (by kernel_rfl) rfl rfl ?_
          refine TA.off (listed' := #[true, true, true, true, true, true, true, true, true, true, true, true, true, true, true, true, true, true, false, false, false, false, false, false, false, false, false, false, false, false, false]) 17 [] rfl (Gd.un 16 true 26 rfl rfl rfl) rfl rfl (by kernel_rfl) (by kernel_rfl) (by kernel_rfl) rfl rfl ?_
          refine TA.off (listed' := #[true, true, true, true, true, true, true, true, true, true, true, true, true, true, true, true, true, true, true, false, false, false, false, false, false, false, false, false, false, false, false]) 18 [] rfl (Gd.un 16 true 26 rfl rfl rfl) rfl rfl (by kernel_rfl) (by kernel_rfl) (by kernel_rfl) rfl rfl ?_
          refine TA.off (listed' := #[true, true, true, true, true, true, true, true, true, true, true, true, true, true, true, true, true, true, true, true, false, false, false, false, false, false, false, false, false, false, false]) 19 [] rfl (Gd.un 16 true 26 rfl rfl rfl) rfl rfl (by kernel_rfl) (by kernel_rfl) (by kernel_rfl) rfl rfl ?_
          refine TA.off (listed' := #[true, true, true, true, true, true, true, true, true, true, true, true, true, true, true, true, true, true, true, true, true, false, false, false, false, false, false, false, false, false, false]) 20 [] rfl (Gd.un 16 true 26 rfl rfl rfl) rfl rfl (by kernel_rfl) (by kernel_rfl) (by kernel_rfl) rfl rfl ?_
          refine TA.off (listed' := #[true, true, true, true, true, true, true, true, true, true, true, true, true, true, true, true, true, true, true, true, true, true, false, false, false, false, false, false, false, false, false]) 21 [] rfl (Gd.un 16 true 26 rfl rfl rfl) rfl rfl (by kernel_rfl) (by kernel_rfl) (by kernel_rfl) rfl rfl ?_
          refine TA.off (listed' := #[true, true, true, true, true, true, true, true, true, true, true, true, true, true, true, true, true, true, true, true, true, true, true, false, false, false, false, false, false, false, false]) 22 [] rfl (Gd.un 16 true 26 rfl rfl rfl) rfl rfl (by kernel_rfl) (by kernel_rfl) (by kernel_rfl) rfl rfl ?_
          refine TA.off (listed' := #[true, true, true, true, true, true, true, true, true, true, true, true, true, true, true, true, true, true, true, true, true, true, true, true, false, false, false, false, false, false, false]) 23 [] rfl (Gd.un 16 true 26 rfl rfl rfl) rfl rfl (by kernel_rfl) (by kernel_rfl) (by kernel_rfl) rfl rfl ?_
          refine TA.off (listed' := #[true, true, true, true, true, true, true, true, true, true, true, true, true, true, true, true, true, true, true, true, true, true, true, true, true, false, false, false, false, false, false]) 24 [] rfl (Gd.un 16 true 26 rfl rfl rfl) rfl rfl (by kernel_rfl) (by kernel_rfl) (by kernel_rfl) rfl rfl ?_
          refine TA.off (listed' := #[true, true, true, true, true, true, true, true, true, true, true, true, true, true, true, true, true, true, true, true, true, true, true, true, true, true, false, false, false, false, false]) 25 [] rfl (Gd.un 16 true 26 rfl rfl rfl) rfl rfl (by kernel_rfl) (by kernel_rfl) (by kernel_rfl) rfl rfl ?_
          refine TA.off (listed' := #[true, true, true, true, true, true, true, true, true, true, true, true, true, true, true, true, true, true, true, true, true, true, true, true, true, true, true, false, false, false, false]) 26 [] rfl (Gd.un 16 true 26 rfl rfl rfl) rfl rfl (by kernel_rfl) (by kernel_rfl) (by kernel_rfl) rfl rfl ?_
          refine TA.off (listed' := #[true, true, true, true, true, true, true, true, true, true, true, true, true, true, true, true, true, true, true, true, true, true, true, true, true, true, true, true, false, false, false]) 27 [] rfl (Gd.un 16 true 26 rfl rfl rfl) rfl rfl (by kernel_rfl) (by kernel_rfl) (by kernel_rfl) rfl rfl ?_
          refine TA.off (listed' := #[true, true, true, true, true, true, true, true, true, true, true, true, true, true, true, true, true, true, true, true, true, true, true, true, true, true, true, true, true, false, false]) 28 [] rfl (Gd.un 16 true 26 rfl rfl rfl) rfl rfl (by kernel_rfl) (by kernel_rfl) (by kernel_rfl) rfl rfl ?_
          refine TA.off (listed' := #[true, true, true, true, true, true, true, true, true, true, true, true, true, true, true, true, true, true, true, true, true, true, true, true, true, true, true, true, true, true, false]) 29 [] rfl (Gd.at 13 false 23 (!R10) rfl rfl rfl (beq_tf H13)) rfl rfl (by kernel_rfl) (by kernel_rfl) (by kernel_rfl) rfl rfl ?_
          refine TA.y (listed' := #[true, true, true, true, true, true, true, true, true, true, true, true, true, true, true, true, true, true, true, true, true, true, true, true, true, true, true, true, true, true, true]) 30 [] rfl (Y.pick_t H13 rfl rfl) rfl rfl rfl (by kernel_rfl) (by kernel_rfl) (by kernel_rfl) rfl rfl ?_
          refine TA.nil (by kernel_rfl) ?_
          exact TE.jb_go () [] ⟨rfl, rfl, rfl, trivial⟩ rfl
        · refine TA.y (listed' := #[true, true, true, true, true, true, true, true, true, true, true, true, true, true, true, false, false, false, false, false, false, false, false, false, false, false, false, false, false, false, false]) 14 [] rfl (Y.move rfl) (Gd.at 13 false 23 (!R10) rfl rfl rfl (beq_ff H13)) rfl rfl (by kernel_rfl) (by kernel_rfl) (by kernel_rfl) rfl rfl ?_
          refine TA.y (listed' := #[true, true, true, true, true, true, true, true, true, true, true, true, true, true, true, true, false, false, false, false, false, false, false, false, false, false, false, false, false, false, false]) 15 [] rfl (Y.gtr rfl rfl) (Gd.at 13 false 23 (!R10) rfl rfl rfl (beq_ff H13)) rfl rfl (by kernel_rfl) (by kernel_rfl) (by kernel_rfl) rfl rfl ?_
          refine TA.y (listed' := #[true, true, true, true, true, true, true, true, true, true, true, true, true, true, true, true, true, false, false, false, false, false, false, false, false, false, false, false, false, false, false]) 16 [] rfl (Y.move rfl) (Gd.at 13 false 23 (!R10) rfl rfl rfl (beq_ff H13)) rfl rfl (by kernel_rfl) (by kernel_rfl) (by kernel_rfl) rfl rfl ?_
          refine TA.ite (b := decide (S1 > (0 : Int))) (fun H14 => ?_) (fun H14 => ?_)
          · refine TA.y (listed' := #[true, true, true, true, true, true, true, true, true, true, true, true, true, true, true, true, true, true, false, false, false, false, false, false, false, false, false, false, false, false, false]) 17 [] rfl (Y.move rfl) (Gd.at 16 true 26 (decide (S1 > (0 : Int))) rfl rfl rfl (beq_tt H14)) rfl rfl (by kernel_rfl) (by kernel_rfl) (by kernel_rfl) rfl rfl ?_
            refine TA.y (listed' := #[true, true, true, true, true, true, true, true, true, true, true, true, true, true, true, true, true, true, true, false, false, false, false, false, false, false, false, false, false, false, false]) 18 [] rfl (Y.move rfl) (Gd.at 16 true 26 (decide (S1 > (0 : Int))) rfl rfl rfl (beq_tt H14)) rfl rfl (by kernel_rfl) (by kernel_rfl) (by kernel_rfl) rfl rfl ?_
            refine TA.y (listed' := #[true, true, true, true, true, true, true, true, true, true, true, true, true, true, true, true, true, true, true, true, false, false, false, false, false, false, false, false, false, false, false]) 19 [] rfl (Y.sub rfl rfl) (Gd.at 16 true 26 (decide (S1 > (0 : Int))) rfl rfl rfl (beq_tt H14)) rfl rfl (by kernel_rfl) (by kernel_rfl) (by kernel_rfl) rfl rfl ?_
            refine TA.bind fun E15 H16 => ?_
            refine TA.y (listed' := #[true, true, true, true, true, true, true, true, true, true, true, true, true, true, true, true, true, true, true, true, true, false, false, false, false, false, false, false, false, false, false]) 20 [] rfl (Y.index ke26 (Base.can HB_V_m0) H16 rfl rfl) (Gd.at 16 true 26 (decide (S1 > (0 : Int))) rfl rfl rfl (beq_tt H14)) rfl rfl (by kernel_rfl) (by kernel_rfl) (by kernel_rfl) rfl rfl ?_
            refine TA.y (listed' := #[true, true, true, true, true, true, true, true, true, true, true, true, true, true, true, true, true, true, true, true, true, true, false, false, false, false, false, false, false, false, false]) 21 [] rfl (Y.field_el kf30_0 (Base.can HB_V_m0) (idx_get H16).2.2 rfl rfl) (Gd.at 16 true 26 (decide (S1 > (0 : Int))) rfl rfl rfl (beq_tt H14)) rfl rfl (by kernel_rfl) (by kernel_rfl) (by kernel_rfl) rfl rfl ?_
            refine TA.y (listed' := #[true, true, true, true, true, true, true, true, true, true, true, true, true, true, true, true, true, true, true, true, true, true, true, false, false, false, false, false, false, false, false]) 22 [] rfl (Y.load_el (us := [strV E15.Key]) (u := strV E15.Key) kk9 rfl (Base.can HB_V_m0) (idx_get H16).2.2 rfl rfl rfl rfl rfl) (Gd.at 16 true 26 (decide (S1 > (0 : Int))) rfl rfl rfl (beq_tt H14)) rfl rfl (by kernel_rfl) (by kernel_rfl) (by kernel_rfl) rfl rfl ?_
            refine TA.y (listed' := #[true, true, true, true, true, true, true, true, true, true, true, true, true, true, true, true, true, true, true, true, true, true, true, true, false, false, false, false, false, false, false]) 23 [] rfl (Y.move rfl) (Gd.at 16 true 26 (decide (S1 > (0 : Int))) rfl rfl rfl (beq_tt H14)) rfl rfl (by kernel_rfl) (by kernel_rfl) (by kernel_rfl) rfl rfl ?_
            refine TA.y (listed' := #[true, true, true, true, true, true, true, true, true, true, true, true, true, true, true, true, true, true, true, true, true, true, true, true, true, false, false, false, false, false, false]) 24 [] rfl (Y.move rfl) (Gd.at 16 true 26 (decide (S1 > (0 : Int))) rfl rfl rfl (beq_tt H14)) rfl rfl (by kernel_rfl) (by kernel_rfl) (by kernel_rfl) rfl rfl ?_
            refine TA.y (listed' := #[true, true, true, true, true, true, true, true, true, true, true, true, true, true, true, true, true, true, true, true, true, true, true, true, true, true, false, false, false, false, false]) 25 [] rfl (Y.index ke26 (Base.can HB_V_m0) H9 rfl rfl) (Gd.at 16 true 26 (decide (S1 > (0 : Int))) rfl rfl rfl (beq_tt H14)) rfl rfl (by kernel_rfl) (by kernel_rfl) (by kernel_rfl) rfl rfl ?_
            refine TA.y (listed' := #[true, true, true, true, true, true, true, true, true, true, true, true, true, true, true, true, true, true, true, true, true, true, true, true, true, true, true, false, false, false, false]) 26 [] rfl (Y.field_el kf30_0 (Base.can HB_V_m0) (idx_get H9).2.2 rfl rfl) (Gd.at 16 true 26 (decide (S1 > (0 : Int))) rfl rfl rfl (beq_tt H14)) rfl rfl (by kernel_rfl) (by kernel_rfl) (by kernel_rfl) rfl rfl ?_
            refine TA.y (listed' := #[true, true, true, true, true, true, true, true, true, true, true, true, true, true, true, true, true, true, true, true, true, true, true, true, true, true, true, true, false, false, false]) 27 [] rfl (Y.load_el (us := [strV E8.Key]) (u := strV E8.Key) kk9 rfl (Base.can HB_V_m0) (idx_get H9).2.2 rfl rfl rfl rfl rfl) (Gd.at 16 true 26 (decide (S1 > (0 : Int))) rfl rfl rfl (beq_tt H14)) rfl rfl (by kernel_rfl) (by kernel_rfl) (by kernel_rfl) rfl rfl ?_
            refine TA.y (listed' := #[true, true, true, true, true, true, true, true, true, true, true, true, true, true, true, true, true, true, true, true, true, true, true, true, true, true, true, true, true, false, false]) 28 [] rfl (Y.sgeq rfl rfl) (Gd.at 16 true 26 (decide (S1 > (0 : Int))) rfl rfl rfl (beq_tt H14)) rfl rfl (by kernel_rfl) (by kernel_rfl) (by kernel_rfl) rfl rfl ?_
            refine TA.y (listed' := #[true, true, true, true, true, true, true, true, true, true, true, true, true, true, true, true, true, true, true, true, true, true, true, true, true, true, true, true, true, true, false]) 29 [] rfl (Y.pick_t H14 rfl rfl) (Gd.at 13 false 23 (!R10) rfl rfl rfl (beq_ff H13)) rfl rfl (by kernel_rfl) (by kernel_rfl) (by kernel_rfl) rfl rfl ?_
            refine TA.y (listed' := #[true, true, true, true, true, true, true, true, true, true, true, true, true, true, true, true, true, true, true, true, true, true, true, true, true, true, true, true, true, true, true]) 30 [] rfl (Y.pick_f H13 rfl rfl) rfl rfl rfl (by kernel_rfl) (by kernel_rfl) (by kernel_rfl) rfl rfl ?_
            refine TA.nil (by kernel_rfl) ?_
            exact TE.jb_go () [] ⟨rfl, rfl, rfl, trivial⟩ rfl
          · refine TA.off (listed' := #[true, true, true, true, true, true, true, true, true, true, true, true, true, true, true, true, true, true, false, false, false, false, false, false, false, false, false, false, false, false, false]) 17 [] rfl (Gd.at 16 true 26 (decide (S1 > (0 : Int))) rfl rfl rfl (beq_ft H14)) rfl rfl (by kernel_rfl) (by kernel_rfl) (by kernel_rfl) rfl rfl ?_
            refine TA.off (listed' := #[true, true, true, true, true, true, true, true, true, true, true, true, true, true, true, true, true, true, true, false, false, false, false, false, false, false, false, false, false, false, false]) 18 [] rfl (Gd.at 16 true 26 (decide (S1 > (0 : Int))) rfl rfl rfl (beq_ft H14)) rfl rfl (by kernel_rfl) (by kernel_rfl) (by kernel_rfl) rfl rfl ?_
            refine TA.off (listed' := #[true, true, true, true, true, true, true, true, true, true, true, true, true, true, true, true, true, true, true, true, false, false, false, false, false, false, false, false, false, false, false]) 19 [] rfl (Gd.at 16 true 26 (decide (S1 > (0 : Int))) rfl rfl rfl (beq_ft H14)) rfl rfl (by kernel_rfl) (by kernel_rfl) (by kernel_rfl) rfl rfl ?_
            refine TA.off (listed' := #[true, true, true, true, true, true, true, true, true, true, true, true, true, true, true, true, true, true, true, true, true, false, false, false, false, false, false, false, false, false, false]) 20 [] rfl (Gd.at 16 true 26 (decide (S1 > (0 : Int))) rfl rfl rfl (beq_ft H14)) rfl rfl (by kernel_rfl) (by kernel_rfl) (by kernel_rfl) rfl rfl ?_
            refine TA.off (listed' := #[true, true, true, true, true, true, true, true, true, true, true, true, true, true, true, true, true, true, true, true, true, true, false, false, false, false, false, false, false, false, false]) 21 [] rfl (Gd.at 16 true 26 (decide (S1 > (0 : Int))) rfl rfl rfl (beq_ft H14)) rfl rfl (by kernel_rfl) (by kernel_rfl) (by kernel_rfl) rfl rfl ?_
            refine TA.off (listed' := #[true, true, true, true, true, true, true, true, true, true, true, true, true, true, true, true, true, true, true, true, true, true, true, false, false, false, false, false, false, false, false]) 22 [] rfl (Gd.at 16 true 26 (decide (S1 > (0 : Int))) rfl rfl rfl (beq_ft H14)) rfl rfl (by kernel_rfl) (by kernel_rfl) (by kernel_rfl) rfl rfl ?_
            refine TA.off (listed' := #[true, true, true, true, true, true, true, true, true, true, true, true, true, true, true, true, true, true, true, true, true, true, true, true, false, false, false, false, false, false, false]) 23 [] rfl (Gd.at 16 true 26 (decide (S1 > (0 : Int))) rfl rfl rfl (beq_ft H14)) rfl rfl (by kernel_rfl) (by kernel_rfl) (by kernel_rfl) rfl rfl ?_
            refine TA.off (listed' := #[true, true, true, true, true, true, true, true, true, true, true, true, true, true, true, true, true, true, true, true, true, true, true, true, true, false, false, false, false, false, false]) 24 [] rfl (Gd.at 16 true 26 (decide (S1 > (0 : Int))) rfl rfl rfl (beq_ft H14)) rfl rfl (by kernel_rfl) (by kernel_rfl) (by kernel_rfl) rfl rfl ?_
            refine TA.off (listed' := #[true, true, true, true, true, true, true, true, true, true, true, true, true, true, true, true, true, true, true, true, true, true, true, true, true, true, false, false, false, false, false]) 25 [] rfl (Gd.at 16 true 26 (decide (S1 > (0 : Int))) rfl rfl rfl (beq_ft H14)) rfl rfl (by kernel_rfl) (by kernel_rfl) (by kernel_rfl) rfl rfl ?_
            refine TA.off (listed' := #[true, true, true, true, true, true, true, true, true, true, true, true, true, true, true, true, true, true, true, true, true, true, true, true, true, true, true, false, false, false, false]) 26 [] rfl (Gd.at 16 true 26 (decide (S1 > (0 : Int))) rfl rfl rfl (beq_ft H14)) rfl rfl (by kernel_rfl) (by kernel_rfl) (by kernel_rfl) rfl rfl ?_
            refine TA.off (listed' := #[true, true, true, true, true, true, true, true, true, true, true, true, true, true, true, true, true, true, true, true, true, true, true, true, true, true, true, true, false, false, false]) 27 [] rfl (Gd.at 16 true 26 (decide (S1 > (0 : Int))) rfl rfl rfl (beq_ft H14)) rfl rfl (by kernel_rfl) (by kernel_rfl) (by kernel_rfl) rfl rfl ?_
            refine TA.off (listed' := #[true, true, true, true, true, true, true, true, true, true, true, true, true, true, true, true, true, true, true, true, true, true, true, true, true, true, true, true, true, false, false]) 28 [] rfl (Gd.at 16 true 26 (decide (S1 > (0 : Int))) rfl rfl rfl (beq_ft H14)) rfl rfl (by kernel_rfl) (by kernel_rfl) (by kernel_rfl) rfl rfl ?_
            refine TA.y (listed' := #[true, true, true, true, true, true, true, true, true, true, true, true, true, true, true, true, true, true, true, true, true, true, true, true, true, true, true, true, true, true, false]) 29 [] rfl (Y.pick_f H14 rfl rfl) (Gd.at 13 false 23 (!R10) rfl rfl rfl (beq_ff H13)) rfl rfl (by kernel_rfl) (by kernel_rfl) (by kernel_rfl) rfl rfl ?_
            refine TA.y (listed' := #[true, true, true, true, true, true, true, true, true, true, true, true, true, true, true, true, true, true, true, true, true, true, true, true, true, true, true, true, true, true, true]) 30 [] rfl (Y.pick_f H13 rfl rfl) rfl rfl rfl (by kernel_rfl) (by kernel_rfl) (by kernel_rfl) rfl rfl ?_
            refine TA.nil (by kernel_rfl) ?_
            exact TE.jb_go () [] ⟨rfl, rfl, rfl, trivial⟩ rfl
      · refine TE.next ?_
        refine TW.cond rfl (fun H17 => ?_) (fun H17 => ?_)
        · refine TW.seq ?_
          refine TW.region ?_
          refine TO.y (Y.assign rfl) rfl rfl rfl ?_
          refine TO.nil ?_
          refine TE.next ?_
          refine TW.ret ?_
          refine TE.block_ret ?_
          refine TE.then_ret ?_
          refine TE.lp_ret ?_
          refine TE.block_ret ?_
          refine TE.jn_done ?_
          refine TE.then_ret ?_
          exact TE.leaf fun _ _ hf_ hs_ => ret_any (rs := [.tmp 2]) (vs := [.bool false]) (.inl rfl) rfl ⟨rfl, trivial⟩ hf_ hs_ ⟨(), rfl, hs_.pulls [] rfl⟩
        · refine TW.skip ?_
          refine TE.block_normal ?_
          refine TE.next ?_
          refine TW.region ?_
          refine TO.y (Y.move rfl) rfl rfl rfl ?_
          refine TO.y (Y.add rfl rfl) rfl rfl rfl ?_
          refine TO.y (Y.assign rfl) rfl rfl rfl ?_
          refine TO.nil ?_
          exact TE.lp_go () [] ⟨rfl, rfl, trivial⟩ rfl
    · refine TW.exit ?_
      refine TE.then_exit ?_
      refine TE.lp_exit ?_
      refine TE.block_exit ?_
      exact TE.jn_go () [] trivial rfl
  · refine TE.next ?_
    refine TW.seq ?_
    refine TW.region ?_
    refine TO.y (Y.assign rfl) rfl rfl rfl ?_
    refine TO.nil ?_
    refine TE.next ?_
    refine TW.ret ?_
    exact TE.leaf fun _ _ hf_ hs_ => ret_any (rs := [.tmp 2]) (vs := [.bool true]) (.inl rfl) rfl ⟨rfl, trivial⟩ hf_ hs_ ⟨(), rfl, hs_.pulls [] rfl⟩

/-- loop.example/g00950/spec.IterOk -/
noncomputable def spec_IterOk (x : Iter) : Option Bool :=
  ((spec_MapOk x.List).bind fun R4 =>
  if R4 = true then ((spec_l1In x.At (-1 : Int) ((x.List.length : Nat) : Int)).bind fun R8 =>
  some R8)
  else (some false)).bind (fun (T2 : Bool) =>
  some T2)

theorem spec_IterOk_con (x : Iter) (V_x0 : Value) (r : Bool) (hm : spec_IterOk x = some r) :
    Con Try.prog 36 [.agg #[V_x0, strV x.From, strV x.To, .int .i64 x.At]] [] [(V_x0, lc 30 x.List)] (fun _ : Unit => .bool r) (fun _ => []) := by
  refine Con.intro (args := [.agg #[V_x0, strV x.From, strV x.To, .int .i64 x.At]]) (n := 14) (val := fun r (_ : Unit) => .bool r) (post := fun _ _ => []) (m := spec_IterOk x) Try.func36 rfl rfl rfl hm ?_
  intro w S hrd
  have HB_V_x0 := hrd _ (.head _)
  clear hrd
  unfold spec_IterOk
  refine TW.seq ?_
  refine TW.region ?_
  refine TO.ef (Ef.box rfl (Cel.agg ⟨(One.can (Base.can HB_V_x0)), (One.plain rfl), (One.plain rfl), (One.plain rfl), trivial⟩)) rfl rfl rfl (fun B1 => ?_)
  refine TO.y (Y.assign rfl) rfl rfl rfl ?_
  refine TO.nil ?_
  refine TE.next ?_
  refine TW.seq ?_
  refine TW.joinBX (τ := Bool) (X := Unit) (fun T _ => [(2, .bool T)]) (fun _ _ => []) ?_ (fun T2 X3 => ?_)
  · refine TW.region ?_
    refine TO.y (Y.field_box kf28_0 rfl rfl) rfl rfl rfl ?_
    refine TO.y (Y.load_box (v := V_x0) 0 kk26 rfl rfl rfl) rfl rfl rfl ?_
    refine TO.bind fun R4 H5 => ?_
    refine TO.ef (Ef.call (rest := [.box B1 28 [V_x0, strV x.From, strV x.To, .int .i64 x.At]]) [0] (spec_MapOk_con x.List V_x0 R4 H5) kc57 rfl rfl ⟨(Base.can HB_V_x0), trivial⟩) rfl rfl rfl (fun _ => ?_)
    refine TO.y (Y.move rfl) rfl rfl rfl ?_
    refine TO.ite (b := R4) (fun H7 => ?_) (fun H7 => ?_)
    · refine TO.y (Y.field_box kf28_3 rfl rfl) (Gd.at 3 true 6 R4 rfl rfl rfl (beq_tt H7)) rfl rfl ?_
      refine TO.y (Y.load_box (v := .int .i64 x.At) 0 kk3 rfl rfl rfl) (Gd.at 3 true 6 R4 rfl rfl rfl (beq_tt H7)) rfl rfl ?_
      refine TO.y (Y.field_box kf28_0 rfl rfl) (Gd.at 3 true 6 R4 rfl rfl rfl (beq_tt H7)) rfl rfl ?_
      refine TO.y (Y.load_box (v := V_x0) 0 kk26 rfl rfl rfl) (Gd.at 3 true 6 R4 rfl rfl rfl (beq_tt H7)) rfl rfl ?_
      refine TO.y (Y.len (l := x.List) ke26 (Base.can HB_V_x0) rfl) (Gd.at 3 true 6 R4 rfl rfl rfl (beq_tt H7)) rfl rfl ?_
      refine TO.bind fun R8 H9 => ?_
      refine TO.ef (Ef.call (rest := [.box B1 28 [V_x0, strV x.From, strV x.To, .int .i64 x.At]]) [0] (spec_l1In_con x.At (-1 : Int) ((x.List.length : Nat) : Int)  R8 H9) kc54 rfl rfl trivial) (Gd.at 3 true 6 R4 rfl rfl rfl (beq_tt H7)) rfl rfl (fun _ => ?_)
      refine TO.y (Y.pick_t H7 rfl rfl) rfl rfl rfl ?_
      refine TO.y (Y.assign rfl) rfl rfl rfl ?_
      refine TO.nil ?_
      exact TE.jb_go () [] ⟨rfl, trivial⟩ rfl
    · refine TO.off (Gd.at 3 true 6 R4 rfl rfl rfl (beq_ft H7)) rfl rfl ?_
      refine TO.off (Gd.at 3 true 6 R4 rfl rfl rfl (beq_ft H7)) rfl rfl ?_
      refine TO.off (Gd.at 3 true 6 R4 rfl rfl rfl (beq_ft H7)) rfl rfl ?_
      refine TO.off (Gd.at 3 true 6 R4 rfl rfl rfl (beq_ft H7)) rfl rfl ?_
      refine TO.off (Gd.at 3 true 6 R4 rfl rfl rfl (beq_ft H7)) rfl rfl ?_
      refine TO.off (Gd.at 3 true 6 R4 rfl rfl rfl (beq_ft H7)) rfl rfl ?_
      refine TO.y (Y.pick_f H7 rfl rfl) rfl rfl rfl ?_
      refine TO.y (Y.assign rfl) rfl rfl rfl ?_
      refine TO.nil ?_
      exact TE.jb_go () [] ⟨rfl, trivial⟩ rfl
  · refine TE.next ?_
    refine TW.ret ?_
    exact TE.leaf fun _ _ hf_ hs_ => ret_any (rs := [.tmp 2]) (vs := [.bool T2]) (.inl rfl) rfl ⟨rfl, trivial⟩ hf_ hs_ ⟨(), rfl, hs_.pulls [] rfl⟩

/-- loop.example/g00950/spec.l14Copy -/
noncomputable def spec_l14Copy (x : Iter) : Option Iter :=
  (app 32 ([] : List KV) x.List).bind fun E5 =>
  some ({ List := E5, From := x.From, To := x.To, At := x.At : Iter })

theorem spec_l14Copy_con (x : Iter) (V_x0 : Value) (r : Iter) (hm : spec_l14Copy x = some r) :
    Con Try.prog 58 [.agg #[V_x0, strV x.From, strV x.To, .int .i64 x.At]] [] [(V_x0, lc 30 x.List)] (fun X : Value => .agg #[X, strV r.From, strV r.To, .int .i64 r.At]) (fun X => [.own X (lc 30 r.List)]) := by
  refine Con.intro (args := [.agg #[V_x0, strV x.From, strV x.To, .int .i64 x.At]]) (n := 9) (val := fun r (X : Value) => .agg #[X, strV r.From, strV r.To, .int .i64 r.At]) (post := fun r X => [.own X (lc 30 r.List)]) (m := spec_l14Copy x) Try.func58 rfl rfl rfl hm ?_
  intro w S hrd
  have HB_V_x0 := hrd _ (.head _)
  clear hrd
  unfold spec_l14Copy
  refine TW.seq ?_
  refine TW.region ?_
  refine TO.ef (Ef.box rfl (Cel.agg ⟨(One.can (Base.can HB_V_x0)), (One.plain rfl), (One.plain rfl), (One.plain rfl), trivial⟩)) rfl rfl rfl (fun B1 => ?_)
  refine TO.ef (Ef.alloc kz28 rfl) rfl rfl rfl (fun B2 => ?_)
  refine TO.nil ?_
  refine TE.next ?_
  refine TW.seq ?_
  refine TW.region ?_
  refine TO.ef (Ef.buildSlice (α := KV) (Vs := []) ([] : List KV) ke26 kz30 rfl rfl rfl rfl rfl) rfl rfl rfl (fun B3 => ?_)
  refine TO.y (Y.field_box kf28_0 rfl rfl) rfl rfl rfl ?_
  refine TO.y (Y.load_box (v := V_x0) 2 kk26 rfl rfl rfl) rfl rfl rfl ?_
  refine TO.bind fun E5 H6 => ?_
  refine TO.ef (Ef.append (α := KV) (is' := [.box B2 28 [.slice none 0 0, strV ([]), strV ([]), .int .i64 (0 : Int)], .box B1 28 [V_x0, strV x.From, strV x.To, .int .i64 x.At]]) [0, 0, 0] H6 ke26 kz30 rfl rfl rfl rfl rfl (Base.can HB_V_x0)) rfl rfl rfl (fun V4 => ?_)
  refine TO.y (Y.field_box kf28_0 rfl rfl) rfl rfl rfl ?_
  refine TO.ef0 (Ef.store_box (us := [V4]) (vs' := [V4, strV x.From, strV x.To, .int .i64 x.At]) (is' := [.own V4 (lc 30 E5), .box B2 28 [.slice none 0 0, strV ([]), strV ([]), .int .i64 (0 : Int)], .box B1 28 [V4, strV x.From, strV x.To, .int .i64 x.At]]) 2 kk26 rfl rfl rfl (Cel.one (One.can (Can.own 0 rfl))) rfl rfl rfl rfl) rfl rfl (fun _ => ?_)
  refine TO.nil ?_
  refine TE.next ?_
  refine TW.seq ?_
  refine TW.region ?_
  refine TO.y (Y.load_box (v := .agg #[V4, strV x.From, strV x.To, .int .i64 x.At]) 2 kk28 rfl rfl rfl) rfl rfl rfl ?_
  refine TO.ef0 (Ef.store_box (us := [V4, strV x.From, strV x.To, .int .i64 x.At]) (vs' := [V4, strV x.From, strV x.To, .int .i64 x.At]) (is' := [.own V4 (lc 30 E5), .box B2 28 [V4, strV x.From, strV x.To, .int .i64 x.At], .box B1 28 [V4, strV x.From, strV x.To, .int .i64 x.At]]) 1 kk28 rfl rfl rfl (Cel.agg ⟨(One.can (Can.own 0 rfl)), (One.plain rfl), (One.plain rfl), (One.plain rfl), trivial⟩) rfl rfl rfl rfl) rfl rfl (fun _ => ?_)
  refine TO.nil ?_
  refine TE.next ?_
  refine TW.ret ?_
  exact TE.leaf fun _ _ hf_ hs_ => ret_any (rs := [.cell 2 28]) (vs := [.agg #[V4, strV x.From, strV x.To, .int .i64 x.At]]) (.inl rfl) rfl (RV.cell 1 rfl rfl kk28 rfl trivial) hf_ hs_ ⟨V4, rfl, hs_.pulls [0] rfl⟩

/-- loop.example/g00950/spec.l9Within -/
noncomputable def spec_l9Within (key : List UInt8) (from_ : List UInt8) (to : List UInt8) : Option Bool :=
  (if (!(sLt key from_)) = true then (if (decide (to = ([]))) = true then (some true)
  else (some (sLt key to)))
  else (some false)).bind (fun (T1 : Bool) =>
  some T1)

theorem spec_l9Within_con (key : List UInt8) (from_ : List UInt8) (to : List UInt8)  (r : Bool) (hm : spec_l9Within key from_ to = some r) :
    Con Try.prog 59 [strV key, strV from_, strV to] [] [] (fun _ : Unit => .bool r) (fun _ => []) := by
  refine Con.intro (args := [strV key, strV from_, strV to]) (n := 19) (val := fun r (_ : Unit) => .bool r) (post := fun _ _ => []) (m := spec_l9Within key from_ to) Try.func59 rfl rfl rfl hm ?_
  intro w S _
  unfold spec_l9Within
  refine TW.seq ?_
  refine TW.region ?_
  refine TO.y (Y.assign rfl) rfl rfl rfl ?_
  refine TO.nil ?_
  refine TE.next ?_
  refine TW.seq ?_
  refine TW.joinBX (τ := Bool) (X := Unit) (fun T _ => [(6, .bool T)]) (fun _ _ => []) ?_ (fun T1 X2 => ?_)
  · refine TW.region ?_
    refine TO.y (Y.move rfl) rfl rfl rfl ?_
    refine TO.y (Y.move rfl) rfl rfl rfl ?_
    refine TO.y (Y.sgeq rfl rfl) rfl rfl rfl ?_
    refine TO.y (Y.move rfl) rfl rfl rfl ?_
    refine TO.ite (b := !(sLt key from_)) (fun H3 => ?_) (fun H3 => ?_)
    · refine TO.y (Y.move rfl) (Gd.at 3 true 10 (!(sLt key from_)) rfl rfl rfl (beq_tt H3)) rfl rfl ?_
      refine TO.y (Y.seql rfl rfl) (Gd.at 3 true 10 (!(sLt key from_)) rfl rfl rfl (beq_tt H3)) rfl rfl ?_
      refine TO.y (Y.move rfl) (Gd.at 3 true 10 (!(sLt key from_)) rfl rfl rfl (beq_tt H3)) rfl rfl ?_
      refine TO.ite (b := decide (to = ([]))) (fun H4 => ?_) (fun H4 => ?_)
      · refine TO.off (Gd.at 6 false 13 (decide (to = ([]))) rfl rfl rfl (beq_tf H4)) rfl rfl ?_
        refine TO.off (Gd.at 6 false 13 (decide (to = ([]))) rfl rfl rfl (beq_tf H4)) rfl rfl ?_
        refine TO.off (Gd.at 6 false 13 (decide (to = ([]))) rfl rfl rfl (beq_tf H4)) rfl rfl ?_
        refine TO.y (Y.pick_t H4 rfl rfl) (Gd.at 3 true 10 (!(sLt key from_)) rfl rfl rfl (beq_tt H3)) rfl rfl ?_
        refine TO.y (Y.pick_t H3 rfl rfl) rfl rfl rfl ?_
        refine TO.y (Y.assign rfl) rfl rfl rfl ?_
        refine TO.nil ?_
        exact TE.jb_go () [] ⟨rfl, trivial⟩ rfl
      · refine TO.y (Y.move rfl) (Gd.at 6 false 13 (decide (to = ([]))) rfl rfl rfl (beq_ff H4)) rfl rfl ?_
        refine TO.y (Y.move rfl) (Gd.at 6 false 13 (decide (to = ([]))) rfl rfl rfl (beq_ff H4)) rfl rfl ?_
        refine TO.y (Y.slss rfl rfl) (Gd.at 6 false 13 (decide (to = ([]))) rfl rfl rfl (beq_ff H4)) rfl rfl ?_
        refine TO.y (Y.pick_f H4 rfl rfl) (Gd.at 3 true 10 (!(sLt key from_)) rfl rfl rfl (beq_tt H3)) rfl rfl ?_
        refine TO.y (Y.pick_t H3 rfl rfl) rfl rfl rfl ?_
        refine TO.y (Y.assign rfl) rfl rfl rfl ?_
        refine TO.nil ?_
        exact TE.jb_go () [] ⟨rfl, trivial⟩ rfl
    · refine TO.off (Gd.at 3 true 10 (!(sLt key from_)) rfl rfl rfl (beq_ft H3)) rfl rfl ?_
      refine TO.off (Gd.at 3 true 10 (!(sLt key from_)) rfl rfl rfl (beq_ft H3)) rfl rfl ?_
      refine TO.off (Gd.at 3 true 10 (!(sLt key from_)) rfl rfl rfl (beq_ft H3)) rfl rfl ?_
      refine TO.off (Gd.un 6 false 13 rfl rfl rfl) rfl rfl ?_
      refine TO.off (Gd.un 6 false 13 rfl rfl rfl) rfl rfl ?_
      refine TO.off (Gd.un 6 false 13 rfl rfl rfl) rfl rfl ?_
      refine TO.off (Gd.at 3 true 10 (!(sLt key from_)) rfl rfl rfl (beq_ft H3)) rfl rfl ?_
      refine TO.y (Y.pick_f H3 rfl rfl) rfl rfl rfl ?_
      refine TO.y (Y.assign rfl) rfl rfl rfl ?_
      refine TO.nil ?_
      exact TE.jb_go () [] ⟨rfl, trivial⟩ rfl
  · refine TE.next ?_
    refine TW.ret ?_
    exact TE.leaf fun _ _ hf_ hs_ => ret_any (rs := [.tmp 6]) (vs := [.bool T1]) (.inl rfl) rfl ⟨rfl, trivial⟩ hf_ hs_ ⟨(), rfl, hs_.pulls [] rfl⟩

/-- loop.example/g00950/spec.l14Go -/
noncomputable def spec_l14Go (x : Iter) (at_ : Int) (step : Int) (key : List UInt8) : Option (Iter × KV × Bool) :=
  (spec_l14Copy x).bind fun R4 =>
  bindC (loopO (fun (S7 : Int) => (if (decide (S7 ≥ (0 : Int))) = true then (some (decide (S7 < ((R4.List.length : Nat) : Int))))
  else (some false)).bind (fun (T11 : Bool) =>
  if T11 = true then (((idx R4.List S7).bind fun E17 =>
  (spec_l9Within E17.Key R4.From R4.To).bind fun R19 =>
  if R19 = true then (some (!(sLt E17.Key key)))
  else (some false)).bind (fun (T15 : Bool) =>
  if T15 = true then ((idx R4.List S7).bind fun E24 =>
  some (.done (.done ({ List := R4.List, From := R4.From, To := R4.To, At := S7 : Iter }, E24, true))))
  else (some (.go (IntKind.i64.wrap (S7 + step))))))
  else (some (.done (.go ())))))
  at_)
  (fun (T9 : Unit) => bindC (if (decide (step > (0 : Int))) = true then (some (.go ((R4.List.length : Nat) : Int)))
  else (some (.go (-1 : Int))))
  (fun (T26 : Int) => some ({ List := R4.List, From := R4.From, To := R4.To, At := T26 : Iter }, { Key := [], Val := [] : KV }, false)))

theorem spec_l14Go_con (x : Iter) (at_ : Int) (step : Int) (key : List UInt8) (V_x0 : Value) (r : Iter × KV × Bool) (hm : spec_l14Go x at_ step key = some r) :
    Con Try.prog 37 [.agg #[V_x0, strV x.From, strV x.To, .int .i64 x.At], .int .i64 at_, .int .i64 step, strV key] [] [(V_x0, lc 30 x.List)] (fun X : Value => .tuple #[.agg #[X, strV r.1.From, strV r.1.To, .int .i64 r.1.At], .agg #[strV r.2.1.Key, strV r.2.1.Val], .bool r.2.2]) (fun X => [.own X (lc 30 r.1.List)]) := by
  refine Con.intro (args := [.agg #[V_x0, strV x.From, strV x.To, .int .i64 x.At], .int .i64 at_, .int .i64 step, strV key]) (n := 65) (val := fun r (X : Value) => .tuple #[.agg #[X, strV r.1.From, strV r.1.To, .int .i64 r.1.At], .agg #[strV r.2.1.Key, strV r.2.1.Val], .bool r.2.2]) (post := fun r X => [.own X (lc 30 r.1.List)]) (m := spec_l14Go x at_ step key) Try.func37 rfl rfl rfl hm ?_
  intro w S hrd
  have HB_V_x0 := hrd _ (.head _)
  clear hrd
  unfold spec_l14Go
  refine TW.seq ?_
  refine TW.region ?_
  refine TO.ef (Ef.box rfl (Cel.agg ⟨(One.can (Base.can HB_V_x0)), (One.plain rfl), (One.plain rfl), (One.plain rfl), trivial⟩)) rfl rfl rfl (fun B1 => ?_)
  refine TO.ef (Ef.alloc kz28 rfl) rfl rfl rfl (fun B2 => ?_)
  refine TO.ef (Ef.alloc kz30 rfl) rfl rfl rfl (fun B3 => ?_)
  refine TO.y (Y.assign rfl) rfl rfl rfl ?_
  refine TO.nil ?_
  refine TE.next ?_
  refine TW.seq ?_
  refine TW.region ?_
  refine TO.y (Y.load_box (v := .agg #[V_x0, strV x.From, strV x.To, .int .i64 x.At]) 2 kk28 rfl rfl rfl) rfl rfl rfl ?_
  refine TO.bind fun R4 H5 => ?_
  refine TO.ef (Ef.call (rest := [.box B3 30 [strV ([]), strV ([])], .box B2 28 [.slice none 0 0, strV ([]), strV ([]), .int .i64 (0 : Int)], .box B1 28 [V_x0, strV x.From, strV x.To, .int .i64 x.At]]) [0, 0, 0] (spec_l14Copy_con x V_x0 R4 H5) kc58 rfl rfl ⟨(Base.can HB_V_x0), trivial⟩) rfl rfl rfl (fun Y6 => ?_)
  refine TO.ef0 (Ef.store_box (us := [Y6, strV R4.From, strV R4.To, .int .i64 R4.At]) (vs' := [Y6, strV R4.From, strV R4.To, .int .i64 R4.At]) (is' := [.own Y6 (lc 30 R4.List), .box B3 30 [strV ([]), strV ([])], .box B2 28 [.slice none 0 0, strV ([]), strV ([]), .int .i64 (0 : Int)], .box B1 28 [Y6, strV R4.From, strV R4.To, .int .i64 R4.At]]) 3 kk28 rfl rfl rfl (Cel.agg ⟨(One.can (Can.own 0 rfl)), (One.plain rfl), (One.plain rfl), (One.plain rfl), trivial⟩) rfl rfl rfl rfl) rfl rfl (fun _ => ?_)
  refine TO.nil ?_
  refine TE.next ?_
  refine TW.seq ?_
  refine TW.seq ?_
  refine TW.region ?_
  refine TO.y (Y.move rfl) rfl rfl rfl ?_
  refine TO.y (Y.assign rfl) rfl rfl rfl ?_
  refine TO.nil ?_
  refine TE.next ?_
  refine TW.joinX (τ := Unit) (X := Unit) (fun _ _ => [(2, .int .i64 step), (4, .pointer (some ⟨B1, 0, none⟩)), (8, .pointer (some ⟨B2, 0, none⟩)), (9, .pointer (some ⟨B3, 0, none⟩))]) (fun _ _ => [.box B1 28 [Y6, strV R4.From, strV R4.To, .int .i64 R4.At], .box B2 28 [.slice none 0 0, strV ([]), strV ([]), .int .i64 (0 : Int)], .box B3 30 [strV ([]), strV ([])], .own Y6 (lc 30 R4.List)]) ?_ (fun T9 X10 => ?_)
  · refine TW.block ?_
    refine TW.loopX (σ := Int) (X := Unit) (fun T _ => [(2, .int .i64 step), (3, strV key), (4, .pointer (some ⟨B1, 0, none⟩)), (8, .pointer (some ⟨B2, 0, none⟩)), (9, .pointer (some ⟨B3, 0, none⟩)), (11, .int .i64 T)]) (fun _ _ => [.box B1 28 [Y6, strV R4.From, strV R4.To, .int .i64 R4.At], .box B2 28 [.slice none 0 0, strV ([]), strV ([]), .int .i64 (0 : Int)], .box B3 30 [strV ([]), strV ([])], .own Y6 (lc 30 R4.List)]) () [3, 2, 1, 0] ⟨rfl, rfl, rfl, rfl, rfl, rfl, trivial⟩ rfl (fun S7 X8 => ?_)
    refine TW.seq ?_
    refine TW.seq ?_
    refine TW.joinBX (τ := Bool) (X := Unit) (fun T _ => [(2, .int .i64 step), (3, strV key), (4, .pointer (some ⟨B1, 0, none⟩)), (8, .pointer (some ⟨B2, 0, none⟩)), (9, .pointer (some ⟨B3, 0, none⟩)), (11, .int .i64 S7), (23, .bool T)]) (fun _ _ => [.box B1 28 [Y6, strV R4.From, strV R4.To, .int .i64 R4.At], .box B2 28 [.slice none 0 0, strV ([]), strV ([]), .int .i64 (0 : Int)], .box B3 30 [strV ([]), strV ([])], .own Y6 (lc 30 R4.List)]) ?_ (fun T11 X12 => ?_)
    · refine TW.region ?_
      refine TO.y (Y.move rfl) rfl rfl rfl ?_
      refine TO.y (Y.geq rfl rfl) rfl rfl rfl ?_
      refine TO.y (Y.move rfl) rfl rfl rfl ?_
      refine TO.ite (b := decide (S7 ≥ (0 : Int))) (fun H13 => ?_) (fun H13 => ?_)
      · refine TO.y (Y.move rfl) (Gd.at 2 true 17 (decide (S7 ≥ (0 : Int))) rfl rfl rfl (beq_tt H13)) rfl rfl ?_
        refine TO.y (Y.field_box kf28_0 rfl rfl) (Gd.at 2 true 17 (decide (S7 ≥ (0 : Int))) rfl rfl rfl (beq_tt H13)) rfl rfl ?_
        refine TO.y (Y.load_box (v := Y6) 0 kk26 rfl rfl rfl) (Gd.at 2 true 17 (decide (S7 ≥ (0 : Int))) rfl rfl rfl (beq_tt H13)) rfl rfl ?_
        refine TO.y (Y.len (l := R4.List) ke26 (Can.own 3 rfl) rfl) (Gd.at 2 true 17 (decide (S7 ≥ (0 : Int))) rfl rfl rfl (beq_tt H13)) rfl rfl ?_
        refine TO.y (Y.lss rfl rfl) (Gd.at 2 true 17 (decide (S7 ≥ (0 : Int))) rfl rfl rfl (beq_tt H13)) rfl rfl ?_
        refine TO.y (Y.pick_t H13 rfl rfl) rfl rfl rfl ?_
        refine TO.nil ?_
        exact TE.jb_go () [0, 0, 0, 0] ⟨rfl, rfl, rfl, rfl, rfl, rfl, rfl, trivial⟩ rfl
      · refine TO.off (Gd.at 2 true 17 (decide (S7 ≥ (0 : Int))) rfl rfl rfl (beq_ft H13)) rfl rfl ?_
        refine TO.off (Gd.at 2 true 17 (decide (S7 ≥ (0 : Int))) rfl rfl rfl (beq_ft H13)) rfl rfl ?_
        refine TO.off (Gd.at 2 true 17 (decide (S7 ≥ (0 : Int))) rfl rfl rfl (beq_ft H13)) rfl rfl ?_
        refine TO.off (Gd.at 2 true 17 (decide (S7 ≥ (0 : Int))) rfl rfl rfl (beq_ft H13)) rfl rfl ?_
        refine TO.off (Gd.at 2 true 17 (decide (S7 ≥ (0 : Int))) rfl rfl rfl (beq_ft H13)) rfl rfl ?_
        refine TO.y (Y.pick_f H13 rfl rfl) rfl rfl rfl ?_
        refine TO.nil ?_
        exact TE.jb_go () [0, 0, 0, 0] ⟨rfl, rfl, rfl, rfl, rfl, rfl, rfl, trivial⟩ rfl
    · refine TE.next ?_
      refine TW.cond rfl (fun H14 => ?_) (fun H14 => ?_)
      · refine TW.skip ?_
        refine TE.next ?_
        refine TW.seq ?_
        refine TW.block ?_
        refine TW.seq ?_
        refine TW.joinBX (τ := Bool) (X := Unit) (fun T _ => [(2, .int .i64 step), (3, strV key), (4, .pointer (some ⟨B1, 0, none⟩)), (8, .pointer (some ⟨B2, 0, none⟩)), (9, .pointer (some ⟨B3, 0, none⟩)), (11, .int .i64 S7), (47, .bool T)]) (fun _ _ => [.box B1 28 [Y6, strV R4.From, strV R4.To, .int .i64 R4.At], .box B2 28 [.slice none 0 0, strV ([]), strV ([]), .int .i64 (0 : Int)], .box B3 30 [strV ([]), strV ([])], .own Y6 (lc 30 R4.List)]) ?_ (fun T15 X16 => ?_)
        · refine TW.draw (isH := [.box B1 28 [Y6, strV R4.From, strV R4.To, .int .i64 R4.At], .box B2 28 [.slice none 0 0, strV ([]), strV ([]), .int .i64 (0 : Int)], .box B3 30 [strV ([]), strV ([])], .own Y6 (lc 30 R4.List)]) hMix ?_
          refine TA.y (listed' := #[true, false, false, false, false, false, false, false, false, false, false, false, false, false, false, false, false, false, false, false, false]) 0 [0, 0, 0, 0] rfl (Y.field_box kf28_0 rfl rfl) rfl rfl rfl (by kernel_rfl) (by kernel_rfl) (by kernel_rfl) rfl rfl ?_
          refine TA.y (listed' := #[true, true, false, false, false, false, false, false, false, false, false, false, false, false, false, false, false, false, false, false, false]) 1 [0, 0, 0, 0] rfl (Y.load_box (v := Y6) 0 kk26 rfl rfl rfl) rfl rfl rfl (by kernel_rfl) (by kernel_rfl) (by kernel_rfl) rfl rfl ?_
          refine TA.y (listed' := #[true, true, true, false, false, false, false, false, false, false, false, false, false, false, false, false, false, false, false, false, false]) 2 [0, 0, 0, 0] rfl (Y.move rfl) rfl rfl rfl (by kernel_rfl) (by kernel_rfl) (by kernel_rfl) rfl rfl ?_
          refine TA.bind fun E17 H18 => ?_
          refine TA.y (listed' := #[true, true, true, true, false, false, false, false, false, false, false, false, false, false, false, false, false, false, false, false, false]) 3 [0, 0, 0, 0] rfl (Y.index ke26 (Can.own 3 rfl) H18 rfl rfl) rfl rfl rfl (by kernel_rfl) (by kernel_rfl) (by kernel_rfl) rfl rfl ?_
          refine TA.y (listed' := #[true, true, true, true, true, false, false, false, false, false, false, false, false, false, false, false, false, false, false, false, false]) 4 [0, 0, 0, 0] rfl (Y.field_el kf30_0 (Can.own 3 rfl) (idx_get H18).2.2 rfl rfl) rfl rfl rfl (by kernel_rfl) (by kernel_rfl) (by kernel_rfl) rfl rfl ?_
          refine TA.y (listed' := #[true, true, true, true, true, true, false, false, false, false, false, false, false, false, false, false, false, false, false, false, false]) 5 [0, 0, 0, 0] rfl (Y.load_el (us := [strV E17.Key]) (u := strV E17.Key) kk9 rfl (Can.own 3 rfl) (idx_get H18).2.2 rfl rfl rfl rfl rfl) rfl rfl rfl (by kernel_rfl) (by kernel_rfl) (by kernel_rfl) rfl rfl ?_
          refine TA.y (listed' := #[true, true, true, true, true, true, true, false, false, false, false, false, false, false, false, false, false, false, false, false, false]) 6 [0, 0, 0, 0] rfl (Y.field_box kf28_1 rfl rfl) rfl rfl rfl (by kernel_rfl) (by kernel_rfl) (by kernel_rfl) rfl rfl ?_
          refine TA.y (listed' := #[true, true, true, true, true, true, true, true, false, false, false, false, false, false, false, false, false, false, false, false, false]) 7 [0, 0, 0, 0] rfl (Y.load_box (v := strV R4.From) 0 kk9 rfl rfl rfl) rfl rfl rfl (by kernel_rfl) (by kernel_rfl) (by kernel_rfl) rfl rfl ?_
          refine TA.y (listed' := #[true, true, true, true, true, true, true, true, true, false, false, false, false, false, false, false, false, false, false, false, false]) 8 [0, 0, 0, 0] rfl (Y.field_box kf28_2 rfl rfl) rfl rfl rfl (by kernel_rfl) (by kernel_rfl) (by kernel_rfl) rfl rfl ?_
          refine TA.y (listed' := #[true, true, true, true, true, true, true, true, true, true, false, false, false, false, false, false, false, false, false, false, false]) 9 [0, 0, 0, 0] rfl (Y.load_box (v := strV R4.To) 0 kk9 rfl rfl rfl) rfl rfl rfl (by kernel_rfl) (by kernel_rfl) (by kernel_rfl) rfl rfl ?_
          refine TA.bind fun R19 H20 => ?_
          refine TA.one 10 (by kernel_rfl) ?_
          refine TX.ef (listed' := #[true, true, true, true, true, true, true, true, true, true, true, false, false, false, false, false, false, false, false, false, false]) [0, 0, 0, 0] rfl (Ef.call (rest := [.box B1 28 [Y6, strV R4.From, strV R4.To, .int .i64 R4.At], .box B2 28 [.slice none 0 0, strV ([]), strV ([]), .int .i64 (0 : Int)], .box B3 30 [strV ([]), strV ([])], .own Y6 (lc 30 R4.List)]) [0, 0, 0, 0] (spec_l9Within_con E17.Key R4.From R4.To  R19 H20) kc59 rfl rfl trivial) rfl rfl rfl rfl (fun _ => rfl) (fun _ => ?_)
          refine TA.y (listed' := #[true, true, true, true, true, true, true, true, true, true, true, true, false, false, false, false, false, false, false, false, false]) 11 [0, 0, 0, 0] rfl (Y.move rfl) rfl rfl rfl (by kernel_rfl) (by kernel_rfl) (by kernel_rfl) rfl rfl ?_
          refine TA.ite (b := R19) (fun H22 => ?_) (fun H22 => ?_)
          · refine TA.y (listed' := #[true, true, true, true, true, true, true, true, true, true, true, true, true, false, false, false, false, false, false, false, false]) 12 [0, 0, 0, 0] rfl (Y.field_box kf28_0 rfl rfl) (Gd.at 11 true 38 R19 rfl rfl rfl (beq_tt H22)) rfl rfl (by kernel_rfl) (by kernel_rfl) (by kernel_rfl) rfl rfl ?_
            refine TA.y (listed' := #[true, true, true, true, true, true, true, true, true, true, true, true, true, true, false, false, false, false, false, false, false]) 13 [0, 0, 0, 0] rfl (Y.load_box (v := Y6) 0 kk26 rfl rfl rfl) (Gd.at 11 true 38 R19 rfl rfl rfl (beq_tt H22)) rfl rfl (by kernel_rfl) (by kernel_rfl) (by kernel_rfl) rfl rfl ?_
            refine TA.y (listed' := #[true, true, true, true, true, true, true, true, true, true, true, true, true, true, true, false, false, false, false, false, false]) 14 [0, 0, 0, 0] rfl (Y.move rfl) (Gd.at 11 true 38 R19 rfl rfl rfl (beq_tt H22)) rfl rfl (by kernel_rfl) (by kernel_rfl) (by kernel_rfl) rfl rfl ?_
            refine TA.y (listed' := #[true, true, true, true, true, true, true, true, true, true, true, true, true, true, true, true, false, false, false, false, false]) 15 [0, 0, 0, 0] rfl (Y.index ke26 (Can.own 3 rfl) H18 rfl rfl) (Gd.at 11 true 38 R19 rfl rfl rfl (beq_tt H22)) rfl rfl (by kernel_rfl) (by kernel_rfl) (by kernel_rfl) rfl rfl ?_
            refine TA.y (listed' := #[true, true, true, true, true, true, true, true, true, true, true, true, true, true, true, true, true, false, false, false, false]) 16 [0, 0, 0, 0] rfl (Y.field_el kf30_0 (Can.own 3 rfl) (idx_get H18).2.2 rfl rfl) (Gd.at 11 true 38 R19 rfl rfl rfl (beq_tt H22)) rfl rfl (by kernel_rfl) (by kernel_rfl) (by kernel_rfl) rfl rfl ?_
            refine TA.y (listed' := #[true, true, true, true, true, true, true, true, true, true, true, true, true, true, true, true, true, true, false, false, false]) 17 [0, 0, 0, 0] rfl (Y.load_el (us := [strV E17.Key]) (u := strV E17.Key) kk9 rfl (Can.own 3 rfl) (idx_get H18).2.2 rfl rfl rfl rfl rfl) (Gd.at 11 true 38 R19 rfl rfl rfl (beq_tt H22)) rfl rfl (by kernel_rfl) (by kernel_rfl) (by kernel_rfl) rfl rfl ?_
            refine TA.y (listed' := #[true, true, true, true, true, true, true, true, true, true, true, true, true, true, true, true, true, true, true, false, false]) 18 [0, 0, 0, 0] rfl (Y.move rfl) (Gd.at 11 true 38 R19 rfl rfl rfl (beq_tt H22)) rfl rfl (by kernel_rfl) (by kernel_rfl) (by kernel_rfl) rfl rfl ?_
            refine TA.y (listed' := #[true, true, true, true, true, true, true, true, true, true, true, true, true, true, true, true, true, true, true, true, false]) 19 [0, 0, 0, 0] rfl (Y.sgeq rfl rfl) (Gd.at 11 true 38 R19 rfl rfl rfl (beq_tt H22)) rfl rfl (by kernel_rfl) (by kernel_rfl) (by kernel_rfl) rfl rfl ?_
            refine TA.y (listed' := #[true, true, true, true, true, true, true, true, true, true, true, true, true, true, true, true, true, true, true, true, true]) 20 [0, 0, 0, 0] rfl (Y.pick_t H22 rfl rfl) rfl rfl rfl (by kernel_rfl) (by kernel_rfl) (by kernel_rfl) rfl rfl ?_
            refine TA.nil (by kernel_rfl) ?_
            exact TE.jb_go () [0, 0, 0, 0] ⟨rfl, rfl, rfl, rfl, rfl, rfl, rfl, trivial⟩ rfl
          · refine TA.off (listed' := #[true, true, true, true, true, true, true, true, true, true, true, true, true, false, false, false, false, false, false, false, false]) 12 [0, 0, 0, 0] rfl (Gd.at 11 true 38 R19 rfl rfl rfl (beq_ft H22)) rfl rfl (by kernel_rfl) (by kernel_rfl) (by kernel_rfl) rfl rfl ?_
            refine TA.off (listed' := #[true, true, true, true, true, true, true, true, true, true, true, true, true, true, false, false, false, false, false, false, false]) 13 [0, 0, 0, 0] rfl (Gd.at 11 true 38 R19 rfl rfl rfl (beq_ft H22)) rfl rfl (by kernel_rfl) (by kernel_rfl) (by kernel_rfl) rfl rfl ?_
            refine TA.off (listed' := #[true, true, true, true, true, true, true, true, true, true, true, true, true, true, true, false, false, false, false, false, false]) 14 [0, 0, 0, 0] rfl (Gd.at 11 true 38 R19 rfl rfl rfl (beq_ft H22)) rfl rfl (by kernel_rfl) (by kernel_rfl) (by kernel_rfl) rfl rfl ?_
            refine TA.off (listed' := #[true, true, true, true, true, true, true, true, true, true, true, true, true, true, true, true, false, false, false, false, false]) 15 [0, 0, 0, 0] rfl (Gd.at 11 true 38 R19 rfl rfl rfl (beq_ft H22)) rfl rfl (by kernel_rfl) (by kernel_rfl) (by kernel_rfl) rfl rfl ?_
            refine TA.off (listed' := #[true, true, true, true, true, true, true, true, true, true, true, true, true, true, true, true, true, false, false, false, false]) 16 [0, 0, 0, 0] rfl (Gd.at 11 true 38 R19 rfl rfl rfl (beq_ft H22)) rfl rfl (by kernel_rfl) (by kernel_rfl) (by kernel_rfl) rfl rfl ?_
            refine TA.off (listed' := #[true, true, true, true, true, true, true, true, true, true, true, true, true, true, true, true, true, true, false, false, false]) 17 [0, 0, 0, 0] rfl (Gd.at 11 true 38 R19 rfl rfl rfl (beq_ft H22)) rfl rfl (by kernel_rfl) (by kernel_rfl) (by kernel_rfl) rfl rfl ?_
            refine TA.off (listed' := #[true, true, true, true, true, true, true, true, true, true, true, true, true, true, true, true, true, true, true, false, false]) 18 [0, 0, 0, 0] rfl (Gd.at 11 true 38 R19 rfl rfl rfl (beq_ft H22)) rfl rfl (by kernel_rfl) (by kernel_rfl) (by kernel_rfl) rfl rfl ?_
            refine TA.off (listed' := #[true, true, true, true, true, true, true, true, true, true, true, true, true, true, true, true, true, true, true, true, false]) 19 [0, 0, 0, 0] rfl (Gd.at 11 true 38 R19 rfl rfl rfl (beq_ft H22)) rfl rfl (by kernel_rfl) (by kernel_rfl) (by kernel_rfl) rfl rfl ?_
            refine TA.y (listed' := #[true, true, true, true, true, true, true, true, true, true, true, true, true, true, true, true, true, true, true, true, true]) 20 [0, 0, 0, 0] rfl (Y.pick_f H22 rfl rfl) rfl rfl rfl (by kernel_rfl) (by kernel_rfl) (by kernel_rfl) rfl rfl ?_
            refine TA.nil (by kernel_rfl) ?_
            exact TE.jb_go () [0, 0, 0, 0] ⟨rfl, rfl, rfl, rfl, rfl, rfl, rfl, trivial⟩ rfl
        · refine TE.next ?_
          refine TW.cond rfl (fun H23 => ?_) (fun H23 => ?_)
          · refine TW.seq ?_
            refine TW.region ?_
            refine TO.y (Y.move rfl) rfl rfl rfl ?_
            refine TO.y (Y.field_box kf28_3 rfl rfl) rfl rfl rfl ?_
            refine TO.ef0 (Ef.store_box (us := [.int .i64 S7]) (vs' := [Y6, strV R4.From, strV R4.To, .int .i64 S7]) (is' := [.box B1 28 [Y6, strV R4.From, strV R4.To, .int .i64 S7], .box B2 28 [.slice none 0 0, strV ([]), strV ([]), .int .i64 (0 : Int)], .box B3 30 [strV ([]), strV ([])], .own Y6 (lc 30 R4.List)]) 0 kk3 rfl rfl rfl (Cel.plain rfl rfl) rfl rfl rfl rfl) rfl rfl (fun _ => ?_)
            refine TO.nil ?_
            refine TE.next ?_
            refine TW.seq ?_
            refine TW.draw (isH := [.box B1 28 [Y6, strV R4.From, strV R4.To, .int .i64 S7], .own Y6 (lc 30 R4.List)]) hMix ?_
            refine TA.y (listed' := #[true, false, false, false, false, false, false, false, false]) 0 [0, 2] rfl (Y.load_box (v := .agg #[Y6, strV R4.From, strV R4.To, .int .i64 S7]) 0 kk28 rfl rfl rfl) rfl rfl rfl (by kernel_rfl) (by kernel_rfl) (by kernel_rfl) rfl rfl ?_
            refine TA.y (listed' := #[true, true, false, false, false, false, false, false, false]) 1 [0, 2] rfl (Y.field_box kf28_0 rfl rfl) rfl rfl rfl (by kernel_rfl) (by kernel_rfl) (by kernel_rfl) rfl rfl ?_
            refine TA.y (listed' := #[true, true, true, false, false, false, false, false, false]) 2 [0, 2] rfl (Y.load_box (v := Y6) 0 kk26 rfl rfl rfl) rfl rfl rfl (by kernel_rfl) (by kernel_rfl) (by kernel_rfl) rfl rfl ?_
            refine TA.y (listed' := #[true, true, true, true, false, false, false, false, false]) 3 [0, 2] rfl (Y.move rfl) rfl rfl rfl (by kernel_rfl) (by kernel_rfl) (by kernel_rfl) rfl rfl ?_
            refine TA.bind fun E24 H25 => ?_
            refine TA.y (listed' := #[true, true, true, true, true, false, false, false, false]) 4 [0, 2] rfl (Y.index ke26 (Can.own 1 rfl) H25 rfl rfl) rfl rfl rfl (by kernel_rfl) (by kernel_rfl) (by kernel_rfl) rfl rfl ?_
            refine TA.y (listed' := #[true, true, true, true, true, true, false, false, false]) 5 [0, 2] rfl (Y.load_el (us := [strV E24.Key, strV E24.Val]) (u := .agg #[strV E24.Key, strV E24.Val]) kk30 rfl (Can.own 1 rfl) (idx_get H25).2.2 rfl rfl rfl rfl rfl) rfl rfl rfl (by kernel_rfl) (by kernel_rfl) (by kernel_rfl) rfl rfl ?_
            refine TA.one 6 (by kernel_rfl) ?_
            refine TX.ef0 (listed' := #[true, true, true, true, true, true, true, false, false]) [0, 2] rfl (Ef.store_box (us := [Y6, strV R4.From, strV R4.To, .int .i64 S7]) (vs' := [Y6, strV R4.From, strV R4.To, .int .i64 S7]) (is' := [.box B1 28 [Y6, strV R4.From, strV R4.To, .int .i64 S7], .box B2 28 [Y6, strV R4.From, strV R4.To, .int .i64 S7], .box B3 30 [strV ([]), strV ([])], .own Y6 (lc 30 R4.List)]) 1 kk28 rfl rfl rfl (Cel.agg ⟨(One.can (Can.own 3 rfl)), (One.plain rfl), (One.plain rfl), (One.plain rfl), trivial⟩) rfl rfl rfl rfl) rfl rfl rfl (fun _ => rfl) (fun _ => ?_)
            refine TA.one 7 (by kernel_rfl) ?_
            refine TX.ef0 (listed' := #[true, true, true, true, true, true, true, true, false]) [0, 2] rfl (Ef.store_box (us := [strV E24.Key, strV E24.Val]) (vs' := [strV E24.Key, strV E24.Val]) (is' := [.box B1 28 [Y6, strV R4.From, strV R4.To, .int .i64 S7], .box B2 28 [Y6, strV R4.From, strV R4.To, .int .i64 S7], .box B3 30 [strV E24.Key, strV E24.Val], .own Y6 (lc 30 R4.List)]) 2 kk30 rfl rfl rfl (Cel.plain rfl rfl) rfl rfl rfl rfl) rfl rfl rfl (fun _ => rfl) (fun _ => ?_)
            refine TA.y (listed' := #[true, true, true, true, true, true, true, true, true]) 8 [0, 2] rfl (Y.assign rfl) rfl rfl rfl (by kernel_rfl) (by kernel_rfl) (by kernel_rfl) rfl rfl ?_
            refine TA.nil (by kernel_rfl) ?_
            refine TE.next ?_
            refine TW.ret ?_
            refine TE.block_ret ?_
            refine TE.then_ret ?_
            refine TE.lp_ret ?_
            refine TE.block_ret ?_
            refine TE.jn_done ?_
            refine TE.then_ret ?_
            exact TE.leaf fun _ _ hf_ hs_ => ret_any (rs := [.cell 8 28, .cell 9 30, .tmp 10]) (vs := [.agg #[Y6, strV R4.From, strV R4.To, .int .i64 S7], .agg #[strV E24.Key, strV E24.Val], .bool true]) (.inl rfl) rfl (RV.cell 1 rfl rfl kk28 rfl (RV.cell 2 rfl rfl kk30 rfl ⟨rfl, trivial⟩)) hf_ hs_ ⟨Y6, rfl, hs_.pulls [3] rfl⟩
          · refine TW.skip ?_
            refine TE.block_normal ?_
            refine TE.next ?_
            refine TW.region ?_
            refine TO.y (Y.move rfl) rfl rfl rfl ?_
            refine TO.y (Y.move rfl) rfl rfl rfl ?_
            refine TO.y (Y.add rfl rfl) rfl rfl rfl ?_
            refine TO.y (Y.assign rfl) rfl rfl rfl ?_
            refine TO.nil ?_
            exact TE.lp_go () [0, 0, 0, 0] ⟨rfl, rfl, rfl, rfl, rfl, rfl, trivial⟩ rfl
      · refine TW.exit ?_
        refine TE.then_exit ?_
        refine TE.lp_exit ?_
        refine TE.block_exit ?_
        exact TE.jn_go () [0, 0, 0, 0] ⟨rfl, rfl, rfl, rfl, trivial⟩ rfl
  · refine TE.next ?_
    refine TW.seq ?_
    refine TW.region ?_
    refine TO.y (Y.field_box kf28_3 rfl rfl) rfl rfl rfl ?_
    refine TO.ef0 (Ef.store_box (us := [.int .i64 (-1 : Int)]) (vs' := [Y6, strV R4.From, strV R4.To, .int .i64 (-1 : Int)]) (is' := [.box B1 28 [Y6, strV R4.From, strV R4.To, .int .i64 (-1 : Int)], .box B2 28 [.slice none 0 0, strV ([]), strV ([]), .int .i64 (0 : Int)], .box B3 30 [strV ([]), strV ([])], .own Y6 (lc 30 R4.List)]) 0 kk3 rfl rfl rfl (Cel.plain rfl rfl) rfl rfl rfl rfl) rfl rfl (fun _ => ?_)
    refine TO.nil ?_
    refine TE.next ?_
    refine TW.seq ?_
    refine TW.seq ?_
    refine TW.region ?_
    refine TO.y (Y.move rfl) rfl rfl rfl ?_
    refine TO.y (Y.gtr rfl rfl) rfl rfl rfl ?_
    refine TO.nil ?_
    refine TE.next ?_
    refine TW.joinX (τ := Int) (X := Unit) (fun _ _ => [(4, .pointer (some ⟨B1, 0, none⟩)), (8, .pointer (some ⟨B2, 0, none⟩)), (9, .pointer (some ⟨B3, 0, none⟩))]) (fun T _ => [.box B1 28 [Y6, strV R4.From, strV R4.To, .int .i64 T], .box B2 28 [.slice none 0 0, strV ([]), strV ([]), .int .i64 (0 : Int)], .box B3 30 [strV ([]), strV ([])], .own Y6 (lc 30 R4.List)]) ?_ (fun T26 X27 => ?_)
    · refine TW.cond rfl (fun H28 => ?_) (fun H28 => ?_)
      · refine TW.region ?_
        refine TO.y (Y.field_box kf28_0 rfl rfl) rfl rfl rfl ?_
        refine TO.y (Y.load_box (v := Y6) 0 kk26 rfl rfl rfl) rfl rfl rfl ?_
        refine TO.y (Y.len (l := R4.List) ke26 (Can.own 3 rfl) rfl) rfl rfl rfl ?_
        refine TO.y (Y.field_box kf28_3 rfl rfl) rfl rfl rfl ?_
        refine TO.ef0 (Ef.store_box (us := [.int .i64 ((R4.List.length : Nat) : Int)]) (vs' := [Y6, strV R4.From, strV R4.To, .int .i64 ((R4.List.length : Nat) : Int)]) (is' := [.box B1 28 [Y6, strV R4.From, strV R4.To, .int .i64 ((R4.List.length : Nat) : Int)], .box B2 28 [.slice none 0 0, strV ([]), strV ([]), .int .i64 (0 : Int)], .box B3 30 [strV ([]), strV ([])], .own Y6 (lc 30 R4.List)]) 0 kk3 rfl rfl rfl (Cel.plain rfl rfl) rfl rfl rfl rfl) rfl rfl (fun _ => ?_)
        refine TO.nil ?_
        exact TE.jn_go () [0, 0, 0, 0] ⟨rfl, rfl, rfl, trivial⟩ rfl
      · refine TW.skip ?_
        exact TE.jn_go () [0, 0, 0, 0] ⟨rfl, rfl, rfl, trivial⟩ rfl
    · refine TE.next ?_
      refine TW.seq ?_
      refine TW.region ?_
      refine TO.y (Y.load_box (v := .agg #[Y6, strV R4.From, strV R4.To, .int .i64 T26]) 0 kk28 rfl rfl rfl) rfl rfl rfl ?_
      refine TO.y (Y.build (cells := [strV ([]), strV ([])]) [] kp30 kz30 trivial rfl) rfl rfl rfl ?_
      refine TO.ef0 (Ef.store_box (us := [Y6, strV R4.From, strV R4.To, .int .i64 T26]) (vs' := [Y6, strV R4.From, strV R4.To, .int .i64 T26]) (is' := [.box B1 28 [Y6, strV R4.From, strV R4.To, .int .i64 T26], .box B2 28 [Y6, strV R4.From, strV R4.To, .int .i64 T26], .box B3 30 [strV ([]), strV ([])], .own Y6 (lc 30 R4.List)]) 1 kk28 rfl rfl rfl (Cel.agg ⟨(One.can (Can.own 3 rfl)), (One.plain rfl), (One.plain rfl), (One.plain rfl), trivial⟩) rfl rfl rfl rfl) rfl rfl (fun _ => ?_)
      refine TO.ef0 (Ef.store_box (us := [strV ([]), strV ([])]) (vs' := [strV ([]), strV ([])]) (is' := [.box B1 28 [Y6, strV R4.From, strV R4.To, .int .i64 T26], .box B2 28 [Y6, strV R4.From, strV R4.To, .int .i64 T26], .box B3 30 [strV ([]), strV ([])], .own Y6 (lc 30 R4.List)]) 2 kk30 rfl rfl rfl (Cel.plain rfl rfl) rfl rfl rfl rfl) rfl rfl (fun _ => ?_)
      refine TO.y (Y.assign rfl) rfl rfl rfl ?_
      refine TO.nil ?_
      refine TE.next ?_
      refine TW.ret ?_
      exact TE.leaf fun _ _ hf_ hs_ => ret_any (rs := [.cell 8 28, .cell 9 30, .tmp 10]) (vs := [.agg #[Y6, strV R4.From, strV R4.To, .int .i64 T26], .agg #[strV ([]), strV ([])], .bool false]) (.inl rfl) rfl (RV.cell 1 rfl rfl kk28 rfl (RV.cell 2 rfl rfl kk30 rfl ⟨rfl, trivial⟩)) hf_ hs_ ⟨Y6, rfl, hs_.pulls [3] rfl⟩

/-- loop.example/g00950/spec.IterNext -/
noncomputable def spec_IterNext (x : Iter) : Option (Iter × KV × Bool) :=
  (spec_IterOk x).bind fun R4 =>
  if (!R4) = true then (some ({ List := ([] : List KV), From := [], To := [], At := (0 : Int) : Iter }, { Key := [], Val := [] : KV }, false))
  else ((spec_l14Go x (IntKind.i64.wrap (x.At + (1 : Int))) (1 : Int) ([])).bind fun R9 =>
  some (R9.1, R9.2.1, R9.2.2))

theorem spec_IterNext_con (x : Iter) (V_x0 : Value) (r : Iter × KV × Bool) (hm : spec_IterNext x = some r) :
    Con Try.prog 10 [.agg #[V_x0, strV x.From, strV x.To, .int .i64 x.At]] [] [(V_x0, lc 30 x.List)] (fun X : Value => .tuple #[.agg #[X, strV r.1.From, strV r.1.To, .int .i64 r.1.At], .agg #[strV r.2.1.Key, strV r.2.1.Val], .bool r.2.2]) (fun X => [.own X (lc 30 r.1.List)]) := by
  refine Con.intro (args := [.agg #[V_x0, strV x.From, strV x.To, .int .i64 x.At]]) (n := 25) (val := fun r (X : Value) => .tuple #[.agg #[X, strV r.1.From, strV r.1.To, .int .i64 r.1.At], .agg #[strV r.2.1.Key, strV r.2.1.Val], .bool r.2.2]) (post := fun r X => [.own X (lc 30 r.1.List)]) (m := spec_IterNext x) Try.func10 rfl rfl rfl hm ?_
  intro w S hrd
  have HB_V_x0 := hrd _ (.head _)
  clear hrd
  unfold spec_IterNext
  refine TW.seq ?_
  refine TW.region ?_
  refine TO.ef (Ef.box rfl (Cel.agg ⟨(One.can (Base.can HB_V_x0)), (One.plain rfl), (One.plain rfl), (One.plain rfl), trivial⟩)) rfl rfl rfl (fun B1 => ?_)
  refine TO.ef (Ef.alloc kz28 rfl) rfl rfl rfl (fun B2 => ?_)
  refine TO.ef (Ef.alloc kz30 rfl) rfl rfl rfl (fun B3 => ?_)
  refine TO.y (Y.assign rfl) rfl rfl rfl ?_
  refine TO.nil ?_
  refine TE.next ?_
  refine TW.seq ?_
  refine TW.seq ?_
  refine TW.region ?_
  refine TO.y (Y.load_box (v := .agg #[V_x0, strV x.From, strV x.To, .int .i64 x.At]) 2 kk28 rfl rfl rfl) rfl rfl rfl ?_
  refine TO.bind fun R4 H5 => ?_
  refine TO.ef (Ef.call (rest := [.box B3 30 [strV ([]), strV ([])], .box B2 28 [.slice none 0 0, strV ([]), strV ([]), .int .i64 (0 : Int)], .box B1 28 [V_x0, strV x.From, strV x.To, .int .i64 x.At]]) [0, 0, 0] (spec_IterOk_con x V_x0 R4 H5) kc36 rfl rfl ⟨(Base.can HB_V_x0), trivial⟩) rfl rfl rfl (fun _ => ?_)
  refine TO.y (Y.not rfl) rfl rfl rfl ?_
  refine TO.nil ?_
  refine TE.next ?_
  refine TW.cond rfl (fun H7 => ?_) (fun H7 => ?_)
  · refine TW.seq ?_
    refine TW.region ?_
    refine TO.y (Y.build (cells := [.slice none 0 0, strV ([]), strV ([]), .int .i64 (0 : Int)]) [] kp28 kz28 trivial rfl) rfl rfl rfl ?_
    refine TO.y (Y.build (cells := [strV ([]), strV ([])]) [] kp30 kz30 trivial rfl) rfl rfl rfl ?_
    refine TO.ef0 (Ef.store_box (us := [.slice none 0 0, strV ([]), strV ([]), .int .i64 (0 : Int)]) (vs' := [.slice none 0 0, strV ([]), strV ([]), .int .i64 (0 : Int)]) (is' := [.box B3 30 [strV ([]), strV ([])], .box B2 28 [.slice none 0 0, strV ([]), strV ([]), .int .i64 (0 : Int)], .box B1 28 [V_x0, strV x.From, strV x.To, .int .i64 x.At]]) 1 kk28 rfl rfl rfl (Cel.plain rfl rfl) rfl rfl rfl rfl) rfl rfl (fun _ => ?_)
    refine TO.ef0 (Ef.store_box (us := [strV ([]), strV ([])]) (vs' := [strV ([]), strV ([])]) (is' := [.box B3 30 [strV ([]), strV ([])], .box B2 28 [.slice none 0 0, strV ([]), strV ([]), .int .i64 (0 : Int)], .box B1 28 [V_x0, strV x.From, strV x.To, .int .i64 x.At]]) 0 kk30 rfl rfl rfl (Cel.plain rfl rfl) rfl rfl rfl rfl) rfl rfl (fun _ => ?_)
    refine TO.y (Y.assign rfl) rfl rfl rfl ?_
    refine TO.nil ?_
    refine TE.next ?_
    refine TW.ret ?_
    refine TE.then_ret ?_
    exact TE.leaf fun _ _ hf_ hs_ => ret_any (rs := [.cell 2 28, .cell 3 30, .tmp 4]) (vs := [.agg #[.slice none 0 0, strV ([]), strV ([]), .int .i64 (0 : Int)], .agg #[strV ([]), strV ([])], .bool false]) (.inl rfl) rfl (RV.cell 1 rfl rfl kk28 rfl (RV.cell 0 rfl rfl kk30 rfl ⟨rfl, trivial⟩)) hf_ hs_ ⟨(.slice none 0 0), rfl, (hs_.nilItem 30 2).pulls [0] rfl⟩
  · refine TW.skip ?_
    refine TE.next ?_
    refine TW.seq ?_
    refine TW.region ?_
    refine TO.y (Y.load_box (v := .agg #[V_x0, strV x.From, strV x.To, .int .i64 x.At]) 2 kk28 rfl rfl rfl) rfl rfl rfl ?_
    refine TO.y (Y.field_box kf28_3 rfl rfl) rfl rfl rfl ?_
    refine TO.y (Y.load_box (v := .int .i64 x.At) 2 kk3 rfl rfl rfl) rfl rfl rfl ?_
    refine TO.y (Y.add rfl rfl) rfl rfl rfl ?_
    refine TO.bind fun R9 H10 => ?_
    refine TO.ef (Ef.call (rest := [.box B3 30 [strV ([]), strV ([])], .box B2 28 [.slice none 0 0, strV ([]), strV ([]), .int .i64 (0 : Int)], .box B1 28 [V_x0, strV x.From, strV x.To, .int .i64 x.At]]) [0, 0, 0] (spec_l14Go_con x (IntKind.i64.wrap (x.At + (1 : Int))) (1 : Int) ([]) V_x0 R9 H10) kc37 rfl rfl ⟨(Base.can HB_V_x0), trivial⟩) rfl rfl rfl (fun Y11 => ?_)
    refine TO.y (Y.move rfl) rfl rfl rfl ?_
    refine TO.y (Y.extract rfl rfl) rfl rfl rfl ?_
    refine TO.y (Y.extract rfl rfl) rfl rfl rfl ?_
    refine TO.y (Y.extract rfl rfl) rfl rfl rfl ?_
    refine TO.ef (Ef.alloc kz28 rfl) rfl rfl rfl (fun B12 => ?_)
    refine TO.ef (Ef.alloc kz30 rfl) rfl rfl rfl (fun B13 => ?_)
    refine TO.ef0 (Ef.store_box (us := [Y11, strV R9.1.From, strV R9.1.To, .int .i64 R9.1.At]) (vs' := [Y11, strV R9.1.From, strV R9.1.To, .int .i64 R9.1.At]) (is' := [.box B13 30 [strV ([]), strV ([])], .box B12 28 [Y11, strV R9.1.From, strV R9.1.To, .int .i64 R9.1.At], .own Y11 (lc 30 R9.1.List), .box B3 30 [strV ([]), strV ([])], .box B2 28 [.slice none 0 0, strV ([]), strV ([]), .int .i64 (0 : Int)], .box B1 28 [V_x0, strV x.From, strV x.To, .int .i64 x.At]]) 1 kk28 rfl rfl rfl (Cel.agg ⟨(One.can (Can.own 2 rfl)), (One.plain rfl), (One.plain rfl), (One.plain rfl), trivial⟩) rfl rfl rfl rfl) rfl rfl (fun _ => ?_)
    refine TO.ef0 (Ef.store_box (us := [strV R9.2.1.Key, strV R9.2.1.Val]) (vs' := [strV R9.2.1.Key, strV R9.2.1.Val]) (is' := [.box B13 30 [strV R9.2.1.Key, strV R9.2.1.Val], .box B12 28 [Y11, strV R9.1.From, strV R9.1.To, .int .i64 R9.1.At], .own Y11 (lc 30 R9.1.List), .box B3 30 [strV ([]), strV ([])], .box B2 28 [.slice none 0 0, strV ([]), strV ([]), .int .i64 (0 : Int)], .box B1 28 [V_x0, strV x.From, strV x.To, .int .i64 x.At]]) 0 kk30 rfl rfl rfl (Cel.plain rfl rfl) rfl rfl rfl rfl) rfl rfl (fun _ => ?_)
    refine TO.y (Y.assign rfl) rfl rfl rfl ?_
    refine TO.nil ?_
    refine TE.next ?_
    refine TW.seq ?_
    refine TW.draw (isH := [.box B13 30 [strV R9.2.1.Key, strV R9.2.1.Val], .box B12 28 [Y11, strV R9.1.From, strV R9.1.To, .int .i64 R9.1.At], .own Y11 (lc 30 R9.1.List), .box B1 28 [V_x0, strV x.From, strV x.To, .int .i64 x.At]]) hMix ?_
    refine TA.y (listed' := #[true, false, false, false, false, false]) 0 [0, 0, 0, 2] rfl (Y.load_box (v := .agg #[Y11, strV R9.1.From, strV R9.1.To, .int .i64 R9.1.At]) 1 kk28 rfl rfl rfl) rfl rfl rfl (by kernel_rfl) (by kernel_rfl) (by kernel_rfl) rfl rfl ?_
    refine TA.y (listed' := #[true, true, false, false, false, false]) 1 [0, 0, 0, 2] rfl (Y.load_box (v := .agg #[strV R9.2.1.Key, strV R9.2.1.Val]) 0 kk30 rfl rfl rfl) rfl rfl rfl (by kernel_rfl) (by kernel_rfl) (by kernel_rfl) rfl rfl ?_
    refine TA.y (listed' := #[true, true, true, false, false, false]) 2 [0, 0, 0, 2] rfl (Y.move rfl) rfl rfl rfl (by kernel_rfl) (by kernel_rfl) (by kernel_rfl) rfl rfl ?_
    refine TA.one 3 (by kernel_rfl) ?_
    refine TX.ef0 (listed' := #[true, true, true, true, false, false]) [0, 0, 0, 2] rfl (Ef.store_box (us := [Y11, strV R9.1.From, strV R9.1.To, .int .i64 R9.1.At]) (vs' := [Y11, strV R9.1.From, strV R9.1.To, .int .i64 R9.1.At]) (is' := [.box B13 30 [strV R9.2.1.Key, strV R9.2.1.Val], .box B12 28 [Y11, strV R9.1.From, strV R9.1.To, .int .i64 R9.1.At], .own Y11 (lc 30 R9.1.List), .box B3 30 [strV ([]), strV ([])], .box B2 28 [Y11, strV R9.1.From, strV R9.1.To, .int .i64 R9.1.At], .box B1 28 [V_x0, strV x.From, strV x.To, .int .i64 x.At]]) 4 kk28 rfl rfl rfl (Cel.agg ⟨(One.can (Can.own 2 rfl)), (One.plain rfl), (One.plain rfl), (One.plain rfl), trivial⟩) rfl rfl rfl rfl) rfl rfl rfl (fun _ => rfl) (fun _ => ?_)
    refine TA.one 4 (by kernel_rfl) ?_
    refine TX.ef0 (listed' := #[true, true, true, true, true, false]) [0, 0, 0, 2] rfl (Ef.store_box (us := [strV R9.2.1.Key, strV R9.2.1.Val]) (vs' := [strV R9.2.1.Key, strV R9.2.1.Val]) (is' := [.box B13 30 [strV R9.2.1.Key, strV R9.2.1.Val], .box B12 28 [Y11, strV R9.1.From, strV R9.1.To, .int .i64 R9.1.At], .own Y11 (lc 30 R9.1.List), .box B3 30 [strV R9.2.1.Key, strV R9.2.1.Val], .box B2 28 [Y11, strV R9.1.From, strV R9.1.To, .int .i64 R9.1.At], .box B1 28 [V_x0, strV x.From, strV x.To, .int .i64 x.At]]) 3 kk30 rfl rfl rfl (Cel.plain rfl rfl) rfl rfl rfl rfl) rfl rfl rfl (fun _ => rfl) (fun _ => ?_)
    refine TA.y (listed' := #[true, true, true, true, true, true]) 5 [0, 0, 0, 2] rfl (Y.assign rfl) rfl rfl rfl (by kernel_rfl) (by kernel_rfl) (by kernel_rfl) rfl rfl ?_
    refine TA.nil (by kernel_rfl) ?_
    refine TE.next ?_
    refine TW.ret ?_
    exact TE.leaf fun _ _ hf_ hs_ => ret_any (rs := [.cell 2 28, .cell 3 30, .tmp 4]) (vs := [.agg #[Y11, strV R9.1.From, strV R9.1.To, .int .i64 R9.1.At], .agg #[strV R9.2.1.Key, strV R9.2.1.Val], .bool R9.2.2]) (.inl rfl) rfl (RV.cell 4 rfl rfl kk28 rfl (RV.cell 3 rfl rfl kk30 rfl ⟨rfl, trivial⟩)) hf_ hs_ ⟨Y11, rfl, hs_.pulls [2] rfl⟩

/-- loop.example/g00950/impl.inRange -/
noncomputable def impl_inRange (n : Int) (least : Int) (most : Int) : Option Bool :=
  (if (decide (n ≥ least)) = true then (some (decide (n ≤ most)))
  else (some false)).bind (fun (T1 : Bool) =>
  some T1)

theorem impl_inRange_con (n : Int) (least : Int) (most : Int)  (r : Bool) (hm : impl_inRange n least most = some r) :
    Con Try.prog 55 [.int .i64 n, .int .i64 least, .int .i64 most] [] [] (fun _ : Unit => .bool r) (fun _ => []) := by
  refine Con.intro (args := [.int .i64 n, .int .i64 least, .int .i64 most]) (n := 15) (val := fun r (_ : Unit) => .bool r) (post := fun _ _ => []) (m := impl_inRange n least most) Try.func55 rfl rfl rfl hm ?_
  intro w S _
  unfold impl_inRange
  refine TW.seq ?_
  refine TW.region ?_
  refine TO.y (Y.assign rfl) rfl rfl rfl ?_
  refine TO.nil ?_
  refine TE.next ?_
  refine TW.seq ?_
  refine TW.joinBX (τ := Bool) (X := Unit) (fun T _ => [(6, .bool T)]) (fun _ _ => []) ?_ (fun T1 X2 => ?_)
  · refine TW.region ?_
    refine TO.y (Y.move rfl) rfl rfl rfl ?_
    refine TO.y (Y.move rfl) rfl rfl rfl ?_
    refine TO.y (Y.geq rfl rfl) rfl rfl rfl ?_
    refine TO.y (Y.move rfl) rfl rfl rfl ?_
    refine TO.ite (b := decide (n ≥ least)) (fun H3 => ?_) (fun H3 => ?_)
    · refine TO.y (Y.move rfl) (Gd.at 3 true 10 (decide (n ≥ least)) rfl rfl rfl (beq_tt H3)) rfl rfl ?_
      refine TO.y (Y.move rfl) (Gd.at 3 true 10 (decide (n ≥ least)) rfl rfl rfl (beq_tt H3)) rfl rfl ?_
      refine TO.y (Y.leq rfl rfl) (Gd.at 3 true 10 (decide (n ≥ least)) rfl rfl rfl (beq_tt H3)) rfl rfl ?_
      refine TO.y (Y.pick_t H3 rfl rfl) rfl rfl rfl ?_
      refine TO.y (Y.assign rfl) rfl rfl rfl ?_
      refine TO.nil ?_
      exact TE.jb_go () [] ⟨rfl, trivial⟩ rfl
    · refine TO.off (Gd.at 3 true 10 (decide (n ≥ least)) rfl rfl rfl (beq_ft H3)) rfl rfl ?_
      refine TO.off (Gd.at 3 true 10 (decide (n ≥ least)) rfl rfl rfl (beq_ft H3)) rfl rfl ?_
      refine TO.off (Gd.at 3 true 10 (decide (n ≥ least)) rfl rfl rfl (beq_ft H3)) rfl rfl ?_
      refine TO.y (Y.pick_f H3 rfl rfl) rfl rfl rfl ?_
      refine TO.y (Y.assign rfl) rfl rfl rfl ?_
      refine TO.nil ?_
      exact TE.jb_go () [] ⟨rfl, trivial⟩ rfl
  · refine TE.next ?_
    refine TW.ret ?_
    exact TE.leaf fun _ _ hf_ hs_ => ret_any (rs := [.tmp 6]) (vs := [.bool T1]) (.inl rfl) rfl ⟨rfl, trivial⟩ hf_ hs_ ⟨(), rfl, hs_.pulls [] rfl⟩

/-- loop.example/g00950/impl.isKey -/
noncomputable def impl_isKey (s : List UInt8) : Option Bool :=
  (impl_inRange ((s.length : Nat) : Int) (1 : Int) (10 : Int)).bind fun R1 =>
  some R1

theorem impl_isKey_con (s : List UInt8)  (r : Bool) (hm : impl_isKey s = some r) :
    Con Try.prog 71 [strV s] [] [] (fun _ : Unit => .bool r) (fun _ => []) := by
  refine Con.intro (args := [strV s]) (n := 6) (val := fun r (_ : Unit) => .bool r) (post := fun _ _ => []) (m := impl_isKey s) Try.func71 rfl rfl rfl hm ?_
  intro w S _
  unfold impl_isKey
  refine TW.seq ?_
  refine TW.region ?_
  refine TO.y (Y.assign rfl) rfl rfl rfl ?_
  refine TO.nil ?_
  refine TE.next ?_
  refine TW.seq ?_
  refine TW.region ?_
  refine TO.y (Y.move rfl) rfl rfl rfl ?_
  refine TO.y (Y.slen ks9 rfl) rfl rfl rfl ?_
  refine TO.bind fun R1 H2 => ?_
  refine TO.ef (Ef.call (rest := []) [] (impl_inRange_con ((s.length : Nat) : Int) (1 : Int) (10 : Int)  R1 H2) kc55 rfl rfl trivial) rfl rfl rfl (fun _ => ?_)
  refine TO.y (Y.assign rfl) rfl rfl rfl ?_
  refine TO.nil ?_
  refine TE.next ?_
  refine TW.ret ?_
  exact TE.leaf fun _ _ hf_ hs_ => ret_any (rs := [.tmp 2]) (vs := [.bool R1]) (.inl rfl) rfl ⟨rfl, trivial⟩ hf_ hs_ ⟨(), rfl, hs_.pulls [] rfl⟩

/-- loop.example/g00950/impl.MapOk -/
noncomputable def impl_MapOk (m : List KV) : Option Bool :=
  bindC (loopO (fun (S1 : Int) => if (decide (S1 < ((m.length : Nat) : Int))) = true then ((idx m S1).bind fun E6 =>
  ((impl_isKey E6.Key).bind fun R11 =>
  if (!R11) = true then (some true)
  else (if (decide (((E6.Val.length : Nat) : Int) > (16 : Int))) = true then (some true)
  else (if (decide (S1 > (0 : Int))) = true then ((idx m (IntKind.i64.wrap (S1 - (1 : Int)))).bind fun E17 =>
  some (sLt E6.Key E17.Key || decide (E6.Key = E17.Key)))
  else (some false)))).bind (fun (T9 : Bool) =>
  if T9 = true then (some (.done (.done false)))
  else (some (.go (IntKind.i64.wrap (S1 + (1 : Int)))))))
  else (some (.done (.go ()))))
  (0 : Int))
  (fun (T3 : Unit) => some true)

theorem impl_MapOk_con (m : List KV) (V_m0 : Value) (r : Bool) (hm : impl_MapOk m = some r) :
    Con Try.prog 61 [V_m0] [] [(V_m0, lc 30 m)] (fun _ : Unit => .bool r) (fun _ => []) := by
  refine Con.intro (args := [V_m0]) (n := 38) (val := fun r (_ : Unit) => .bool r) (post := fun _ _ => []) (m := impl_MapOk m) Try.func61 rfl rfl rfl hm ?_
  intro w S hrd
  have HB_V_m0 := hrd _ (.head _)
  clear hrd
  unfold impl_MapOk
  refine TW.seq ?_
  refine TW.region ?_
  refine TO.y (Y.assign rfl) rfl rfl rfl ?_
  refine TO.nil ?_
  refine TE.next ?_
  refine TW.seq ?_
  refine TW.seq ?_
  refine TW.region ?_
  refine TO.y (Y.move rfl) rfl rfl rfl ?_
  refine TO.y (Y.len (l := m) ke26 (Base.can HB_V_m0) rfl) rfl rfl rfl ?_
  refine TO.y (Y.move rfl) rfl rfl rfl ?_
  refine TO.nil ?_
  refine TE.next ?_
  refine TW.joinX (τ := Unit) (X := Unit) (fun _ _ => []) (fun _ _ => []) ?_ (fun T3 X4 => ?_)
  · refine TW.block ?_
    refine TW.loopX (σ := Int) (X := Unit) (fun T _ => [(0, V_m0), (5, V_m0), (6, .int .i64 ((m.length : Nat) : Int)), (7, .int .i64 T)]) (fun _ _ => []) () [] ⟨rfl, rfl, rfl, rfl, trivial⟩ rfl (fun S1 X2 => ?_)
    refine TW.seq ?_
    refine TW.region ?_
    refine TO.y (Y.lss rfl rfl) rfl rfl rfl ?_
    refine TO.nil ?_
    refine TE.next ?_
    refine TW.seq ?_
    refine TW.cond rfl (fun H5 => ?_) (fun H5 => ?_)
    · refine TW.skip ?_
      refine TE.next ?_
      refine TW.seq ?_
      refine TW.block ?_
      refine TW.seq ?_
      refine TW.region ?_
      refine TO.y (Y.move rfl) rfl rfl rfl ?_
      refine TO.bind fun E6 H7 => ?_
      refine TO.y (Y.index ke26 (Base.can HB_V_m0) H7 rfl rfl) rfl rfl rfl ?_
      refine TO.y (Y.load_el (us := [strV E6.Key, strV E6.Val]) (u := .agg #[strV E6.Key, strV E6.Val]) kk30 rfl (Base.can HB_V_m0) (idx_get H7).2.2 rfl rfl rfl rfl rfl) rfl rfl rfl ?_
      refine TO.ef (Ef.alloc kz30 rfl) rfl rfl rfl (fun B8 => ?_)
      refine TO.y (Y.assign rfl) rfl rfl rfl ?_
      refine TO.ef0 (Ef.store_box (us := [strV E6.Key, strV E6.Val]) (vs' := [strV E6.Key, strV E6.Val]) (is' := [.box B8 30 [strV E6.Key, strV E6.Val]]) 0 kk30 rfl rfl rfl (Cel.plain rfl rfl) rfl rfl rfl rfl) rfl rfl (fun _ => ?_)
      refine TO.nil ?_
      refine TE.next ?_
      refine TW.seq ?_
      refine TW.joinBX (τ := Bool) (X := Unit) (fun T _ => [(0, V_m0), (5, V_m0), (6, .int .i64 ((m.length : Nat) : Int)), (7, .int .i64 S1), (36, .bool T)]) (fun _ _ => []) ?_ (fun T9 X10 => ?_)
      · refine TW.draw (isH := [.box B8 30 [strV E6.Key, strV E6.Val]]) hMix ?_
        refine TA.y (listed' := #[true, false, false, false, false, false, false, false, false, false, false, false, false, false, false, false, false, false, false, false, false, false, false, false, false]) 0 [0] rfl (Y.field_box kf30_0 rfl rfl) rfl rfl rfl (by kernel_rfl) (by kernel_rfl) (by kernel_rfl) rfl rfl ?_
        refine TA.y (listed' := #[true, true, false, false, false, false, false, false, false, false, false, false, false, false, false, false, false, false, false, false, false, false, false, false, false]) 1 [0] rfl (Y.load_box (v := strV E6.Key) 0 kk9 rfl rfl rfl) rfl rfl rfl (by kernel_rfl) (by kernel_rfl) (by kernel_rfl) rfl rfl ?_
        refine TA.bind fun R11 H12 => ?_
        refine TA.one 2 (by kernel_rfl) ?_
        refine TX.ef (listed' := #[true, true, true, false, false, false, false, false, false, false, false, false, false, false, false, false, false, false, false, false, false, false, false, false, false]) [0] rfl (Ef.call (rest := [.box B8 30 [strV E6.Key, strV E6.Val]]) [0] (impl_isKey_con E6.Key  R11 H12) kc71 rfl rfl trivial) rfl rfl rfl rfl (fun _ => rfl) (fun _ => ?_)
        refine TA.y (listed' := #[true, true, true, true, false, false, false, false, false, false, false, false, false, false, false, false, false, false, false, false, false, false, false, false, false]) 3 [0] rfl (Y.not rfl) rfl rfl rfl (by kernel_rfl) (by kernel_rfl) (by kernel_rfl) rfl rfl ?_
        refine TA.y (listed' := #[true, true, true, true, true, false, false, false, false, false, false, false, false, false, false, false, false, false, false, false, false, false, false, false, false]) 4 [0] rfl (Y.move rfl) rfl rfl rfl (by kernel_rfl) (by kernel_rfl) (by kernel_rfl) rfl rfl ?_
        refine TA.ite (b := !R11) (fun H14 => ?_) (fun H14 => ?_)
        · refine TA.off (listed' := #[true, true, true, true, true, true, false, false, false, false, false, false, false, false, false, false, false, false, false, false, false, false, false, false, false]) 5 [0] rfl (Gd.at 4 false 16 (!R11) rfl rfl rfl (beq_tf H14)) rfl rfl (by kernel_rfl) (by kernel_rfl) (by kernel_rfl) rfl rfl ?_
          refine TA.off (listed' := #[true, true, true, true, true, true, true, false, false, false, false, false, false, false, false, false, false, false, false, false, false, false, false, false, false]) 6 [0] rfl (Gd.at 4 false 16 (!R11) rfl rfl rfl (beq_tf H14)) rfl rfl (by kernel_rfl) (by kernel_rfl) (by kernel_rfl) rfl rfl ?_
          refine TA.off (listed' := #[true, true, true, true, true, true, true, true, false, false, false, false, false, false, false, false, false, false, false, false, false, false, false, false, false]) 7 [0] rfl (Gd.at 4 false 16 (!R11) rfl rfl rfl (beq_tf H14)) rfl rfl (by kernel_rfl) (by kernel_rfl) (by kernel_rfl) rfl rfl ?_
          refine TA.off (listed' := #[true, true, true, true, true, true, true, true, true, false, false, false, false, false, false, false, false, false, false, false, false, false, false, false, false]) 8 [0] rfl (Gd.at 4 false 16 (!R11) rfl rfl rfl (beq_tf H14)) rfl rfl (by kernel_rfl) (by kernel_rfl) (by kernel_rfl) rfl rfl ?_
          refine TA.y (listed' := #[true, true, true, true, true, true, true, true, true, true, false, false, false, false, false, false, false, false, false, false, false, false, false, false, false]) 9 [0] rfl (Y.pick_t H14 rfl rfl) rfl rfl rfl (by kernel_rfl) (by kernel_rfl) (by kernel_rfl) rfl rfl ?_
          refine TA.y (listed' := #[true, true, true, true, true, true, true, true, true, true, true, false, false, false, false, false, false, false, false, false, false, false, false, false, false]) 10 [0] rfl (Y.move rfl) rfl rfl rfl (by kernel_rfl) (by kernel_rfl) (by kernel_rfl) rfl rfl ?_
          refine TA.off (listed' := #[true, true, true, true, true, true, true, true, true, true, true, true, false, false, false, false, false, false, false, false, false, false, false, false, false]) 11 [0] rfl (Gd.at 10 false 22 true rfl rfl rfl rfl) rfl rfl (by kernel_rfl) (by kernel_rfl) (by kernel_rfl) rfl rfl ?_
          refine TA.off (listed' := #[true, true, true, true, true, true, true, true, true, true, true, true, true, false, false, false, false, false, false, false, false, false, false, false, false]) 12 [0] rfl (Gd.at 10 false 22 true rfl rfl rfl rfl) rfl rfl (by kernel_rfl) (by kernel_rfl) (by kernel_rfl) rfl rfl ?_
          refine TA.off (listed' := #[true, true, true, true, true, true, true, true, true, true, true, true, true, true, false, false, false, false, false, false, false, false, false, false, false]) 13 [0] rfl (Gd.at 10 false 22 true rfl rfl rfl rfl) rfl rfl (by kernel_rfl) (by kernel_rfl) (by kernel_rfl) rfl rfl ?_
          refine TA.off (listed' := #[true, true, true, true, true, true, true, true, true, true, true, true, true, true, true, false, false, false, false, false, false, false, false, false, false]) 14 [0] rfl (Gd.un 13 true 25 rfl rfl rfl) rfl rfl (by kernel_rfl) (by kernel_rfl) (by kernel_rfl) rfl rfl ?_
          refine TA.off (listed' := #[true, true, true, true, true, true, true, true, true, true, true, true, true, true, true, true, false, false, false, false, false, false, false, false, false]) 15 [0] rfl (Gd.un 13 true 25 rfl rfl rfl) rfl rfl (by kernel_rfl) (by kernel_rfl) (by kernel_rfl) rfl rfl ?_
          refine TA.off (listed' := #[true, true, true, true, true, true, true, true, true, true, true, true, true, true, true, true, true, false, false, false, false, false, false, false, false]) 16 [0] rfl (Gd.un 13 true 25 rfl rfl rfl) rfl rfl (by kernel_rfl) (by kernel_rfl) (by kernel_rfl) rfl rfl ?_
          refine TA.off (listed' := #[true, true, true, true, true, true, true, true, true, true, true, true, true, true, true, true, true, true, false, false, false, false, false, false, false]) 17 [0] rfl (Gd.un 13 true 25 rfl rfl rfl) rfl rfl (by kernel_rfl) (by kernel_rfl) (by kernel_rfl) rfl rfl ?_
          refine TA.off (listed' := #[true, true, true, true, true, true, true, true, true, true, true, true, true, true, true, true, true, true, true, false, false, false, false, false, false]) 18 [0] rfl (Gd.un 13 true 25 rfl rfl rfl) rfl rfl (by kernel_rfl) (by kernel_rfl) (by kernel_rfl) rfl rfl ?_
          refine TA.off (listed' := #[true, true, true, true, true, true, true, true, true, true, true, true, true, true, true, true, true, true, true, true, false, false, false, false, false]) 19 [0] rfl (Gd.un 13 true 25 rfl rfl rfl) rfl rfl (by kernel_rfl) (by kernel_rfl) (by kernel_rfl) rfl rfl ?_
          refine TA.off (listed' := #[true, true, true, true, true, true, true, true, true, true, true, true, true, true, true, true, true, true, true, true, true, false, false, false, false]) 20 [0] rfl (Gd.un 13 true 25 rfl rfl rfl) rfl rfl (by kernel_rfl) (by kernel_rfl) (by kernel_rfl) rfl rfl ?_
          refine TA.off (listed' := #[true, true, true, true, true, true, true, true, true, true, true, true, true, true, true, true, true, true, true, true, true, true, false, false, false]) 21 [0] rfl (Gd.un 13 true 25 rfl rfl rfl) rfl rfl (by kernel_rfl) (by kernel_rfl) (by kernel_rfl) rfl rfl ?_
          refine TA.off (listed' := #[true, true, true, true, true, true, true, true, true, true, true, true, true, true, true, true, true, true, true, true, true, true, true, false, false]) 22 [0] rfl (Gd.un 13 true 25 rfl rfl rfl) rfl rfl (by kernel_rfl) (by kernel_rfl) (by kernel_rfl) rfl rfl ?_
          refine TA.off (listed' := #[true, true, true, true, true, true, true, true, true, true, true, true, true, true, true, true, true, true, true, true, true, true, true, true, false]) 23 [0] rfl (Gd.at 10 false 22 true rfl rfl rfl rfl) rfl rfl (by kernel_rfl) (by kernel_rfl) (by kernel_rfl) rfl rfl ?_
          refine TA.y (listed' := #[true, true, true, true, true, true, true, true, true, true, true, true, true, true, true, true, true, true, true, true, true, true, true, true, true]) 24 [0] rfl (Y.pick_t rfl rfl rfl) rfl rfl rfl (by kernel_rfl) (by kernel_rfl) (by kernel_rfl) rfl rfl ?_
          refine TA.nil (by kernel_rfl) ?_
          exact TE.jb_go () [] ⟨rfl, rfl, rfl, rfl, rfl, trivial⟩ rfl
        · refine TA.y (listed' := #[true, true, true, true, true, true, false, false, false, false, false, false, false, false, false, false, false, false, false, false, false, false, false, false, false]) 5 [0] rfl (Y.field_box kf30_1 rfl rfl) (Gd.at 4 false 16 (!R11) rfl rfl rfl (beq_ff H14)) rfl rfl (by kernel_rfl) (by kernel_rfl) (by kernel_rfl) rfl rfl ?_
          refine TA.y (listed' := #[true, true, true, true, true, true, true, false, false, false, false, false, false, false, false, false, false, false, false, false, false, false, false, false, false]) 6 [0] rfl (Y.load_box (v := strV E6.Val) 0 kk9 rfl rfl rfl) (Gd.at 4 false 16 (!R11) rfl rfl rfl (beq_ff H14)) rfl rfl (by kernel_rfl) (by kernel_rfl) (by kernel_rfl) rfl rfl ?_
          refine TA.y (listed' := #[true, true, true, true, true, true, true, true, false, false, false, false, false, false, false, false, false, false, false, false, false, false, false, false, false]) 7 [0] rfl (Y.slen ks9 rfl) (Gd.at 4 false 16 (!R11) rfl rfl rfl (beq_ff H14)) rfl rfl (by kernel_rfl) (by kernel_rfl) (by kernel_rfl) rfl rfl ?_
          refine TA.y (listed' := #[true, true, true, true, true, true, true, true, true, false, false, false, false, false, false, false, false, false, false, false, false, false, false, false, false]) 8 [0] rfl (Y.gtr rfl rfl) (Gd.at 4 false 16 (!R11) rfl rfl rfl (beq_ff H14)) rfl rfl (by kernel_rfl) (by kernel_rfl) (by kernel_rfl) rfl rfl ?_
          refine TA.y (listed' := #[true, true, true, true, true, true, true, true, true, true, false, false, false, false, false, false, false, false, false, false, false, false, false, false, false]) 9 [0] rfl (Y.pick_f H14 rfl rfl) rfl rfl rfl (by kernel_rfl) (by kernel_rfl) (by kernel_rfl) rfl rfl ?_
          refine TA.y (listed' := #[true, true, true, true, true, true, true, true, true, true, true, false, false, false, false, false, false, false, false, false, false, false, false, false, false]) 10 [0] rfl (Y.move rfl) rfl rfl rfl (by kernel_rfl) (by kernel_rfl) (by kernel_rfl) rfl rfl ?_
          refine TA.ite (b := decide (((E6.Val.length : Nat) : Int) > (16 : Int))) (fun H15 => ?_) (fun H15 => ?_)
          · refine TA.off (listed' := #[true, true, true, true, true, true, true, true, true, true, true, true, false, false, false, false, false, false, false, false, false, false, false, false, false]) 11 [0] rfl (Gd.at 10 false 22 (decide (((E6.Val.length : Nat) : Int) > (16 : Int))) rfl rfl rfl (beq_tf H15)) rfl rfl (by kernel_rfl) (by kernel_rfl) (by kernel_rfl) rfl rfl ?_
            refine TA.off (listed' := #[true, true, true, true, true, true, true, true, true, true, true, true, true, false, false, false, false, false, false, false, false, false, false, false, false]) 12 [0] rfl (Gd.at 10 false 22 (decide (((E6.Val.length : Nat) : Int) > (16 : Int))) rfl rfl rfl (beq_tf H15)) rfl rfl (by kernel_rfl) (by kernel_rfl) (by kernel_rfl) rfl rfl ?_
            refine TA.off (listed' := #[true, true, true, true, true, true, true, true, true, true, true, true, true, true, false, false, false, false, false, false, false, false, false, false, false]) 13 [0] rfl (Gd.at 10 false 22 (decide (((E6.Val.length : Nat) : Int) > (16 : Int))) rfl rfl rfl (beq_tf H15)) rfl rfl (by kernel_rfl) (by kernel_rfl) (by kernel_rfl) rfl rfl ?_
            refine TA.off (listed' := #[true, true, true, true, true, true, true, true, true, true, true, true, true, true, true, false, false, false, false, false, false, false, false, false, false]) 14 [0] rfl (Gd.un 13 true 25 rfl rfl rfl) rfl rfl (by kernel_rfl) (by kernel_rfl) (by kernel_rfl) rfl rfl ?_
            refine TA.off (listed' := #[true, true, true, true, true, true, true, true, true, true, true, true, true, true, true, true, false, false, false, false, false, false, false, false, false]) 15 [0] rfl (Gd.un 13 true 25 rfl rfl rfl) rfl rfl (by kernel_rfl) (by kernel_rfl) (by kernel_rfl) rfl rfl ?_
            refine TA.off (listed' := #[true, true, true, true, true, true, true, true, true, true, true, true, true, true, true, true, true, false, false, false, false, false, false, false, false]) 16 [0] rfl (Gd.un 13 true 25 rfl rfl rfl) rfl rfl (by kernel_rfl) (by kernel_rfl) (by kernel_rfl) rfl rfl ?_
            refine TA.off (listed' := #[true, true, true, true, true, true, true, true, true, true, true, true, true, true, true, true, true, true, false, false, false, false, false, false, false]) 17 [0] rfl (Gd.un 13 true 25 rfl rfl rfl) rfl rfl (by kernel_rfl) (by kernel_rfl) (by kernel_rfl) rfl rfl ?_
            refine TA.off (listed' := #[true, true, true, true, true, true, true, true, true, true, true, true, true, true, true, true, true, true, true, false, false, false, false, false, false]) 18 [0] rfl (Gd.un 13 true 25 rfl rfl rfl) rfl rfl (by kernel_rfl) (by kernel_rfl) (by kernel_rfl) rfl rfl ?_
            refine TA.off (listed' := #[true, true, true, true, true, true, true, true, true, true, true, true, true, true, true, true, true, true, true, true, false, false, false, false, false]) 19 [0] rfl (Gd.un 13 true 25 rfl rfl rfl) rfl rfl (by kernel_rfl) (by kernel_rfl) (by kernel_rfl) rfl rfl ?_
            refine TA.off (listed' := #[true, true, true, true, true, true, true, true, true, true, true, true, true, true, true, true, true, true, true, true, true, false, false, false, false]) 20 [0] rfl (Gd.un 13 true 25 rfl rfl rfl) rfl rfl (by kernel_rfl) (by kernel_rfl) (by kernel_rfl) rfl rfl ?_
            refine TA.off (listed' := #[true, true, true, true, true, true, true, true, true, true, true, true, true, true, true, true, true, true, true, true, true, true, false, false, false]) 21 [0] rfl (Gd.un 13 true 25 rfl rfl rfl) rfl rfl (by kernel_rfl) (by kernel_rfl) (by kernel_rfl) rfl rfl ?_
            refine TA.off (listed' := #[true, true, true, true, true, true, true, true, true, true, true, true, true, true, true, true, true, true, true, true, true, true, true, false, false]) 22 [0] rfl (Gd.un 13 true 25 rfl rfl rfl) rfl rfl (by kernel_rfl) (by kernel_rfl) (by kernel_rfl) rfl rfl ?_
            refine TA.off (listed' := #[true, true, true, true, true, true, true, true, true, true, true, true, true, true, true, true, true, true, true, true, true, true, true, true, false]) 23 [0] rfl (Gd.at 10 false 22 (decide (((E6.Val.length : Nat) : Int) > (16 : Int))) rfl rfl rfl (beq_tf H15)) rfl rfl (by kernel_rfl) (by kernel_rfl) (by kernel_rfl) rfl rfl ?_
            refine TA.y (listed' := #[true, true, true, true, true, true, true, true, true, true, true, true, true, true, true, true, true, true, true, true, true, true, true, true, true]) 24 [0] rfl (Y.pick_t H15 rfl rfl) rfl rfl rfl (by kernel_rfl) (by kernel_rfl) (by kernel_rfl) rfl rfl ?_
            refine TA.nil (by kernel_rfl) ?_
            exact TE.jb_go () [] ⟨rfl, rfl, rfl, rfl, rfl, trivial⟩ rfl
          · refine TA.y (listed' := #[true, true, true, true, true, true, true, true, true, true, true, true, false, false, false, false, false, false, false, false, false, false, false, false, false]) 11 [0] rfl (Y.move rfl) (Gd.at 10 false 22 (decide (((E6.Val.length : Nat) : Int) > (16 : Int))) rfl rfl rfl (beq_ff H15)) rfl rfl (by kernel_rfl) (by kernel_rfl) (by kernel_rfl) rfl rfl ?_
            refine TA.y (listed' := #[true, true, true, true, true, true, true, true, true, true, true, true, true, false, false, false, false, false, false, false, false, false, false, false, false]) 12 [0] rfl (Y.gtr rfl rfl) (Gd.at 10 false 22 (decide (((E6.Val.length : Nat) : Int) > (16 : Int))) rfl rfl rfl (beq_ff H15)) rfl rfl (by kernel_rfl) (by kernel_rfl) (by kernel_rfl) rfl rfl ?_
            refine TA.y (listed' := #[true, true, true, true, true, true, true, true, true, true, true, true, true, true, false, false, false, false, false, false, false, false, false, false, false]) 13 [0] rfl (Y.move rfl) (Gd.at 10 false 22 (decide (((E6.Val.length : Nat) : Int) > (16 : Int))) rfl rfl rfl (beq_ff H15)) rfl rfl (by kernel_rfl) (by kernel_rfl) (by kernel_rfl) rfl rfl ?_
            refine TA.ite (b := decide (S1 > (0 : Int))) (fun H16 => ?_) (fun H16 => ?_)
            · refine TA.y (listed' := #[true, true, true, true, true, true, true, true, true, true, true, true, true, true, true, false, false, false, false, false, false, false, false, false, false]) 14 [0] rfl (Y.field_box kf30_0 rfl rfl) (Gd.at 13 true 25 (decide (S1 > (0 : Int))) rfl rfl rfl (beq_tt H16)) rfl rfl (by kernel_rfl) (by kernel_rfl) (by kernel_rfl) rfl rfl ?_
              refine TA.y (listed' := #[true, true, true, true, true, true, true, true, true, true, true, true, true, true, true, true, false, false, false, false, false, false, false, false, false]) 15 [0] rfl (Y.load_box (v := strV E6.Key) 0 kk9 rfl rfl rfl) (Gd.at 13 true 25 (decide (S1 > (0 : Int))) rfl rfl rfl (beq_tt H16)) rfl rfl (by kernel_rfl) (by kernel_rfl) (by kernel_rfl) rfl rfl ?_
              refine TA.y (listed' := #[true, true, true, true, true, true, true, true, true, true, true, true, true, true, true, true, true, false, false, false, false, false, false, false, false]) 16 [0] rfl (Y.move rfl) (Gd.at 13 true 25 (decide (S1 > (0 : Int))) rfl rfl rfl (beq_tt H16)) rfl rfl (by kernel_rfl) (by kernel_rfl) (by kernel_rfl) rfl rfl ?_
              refine TA.y (listed' := #[true, true, true, true, true, true, true, true, true, true, true, true, true, true, true, true, true, true, false, false, false, false, false, false, false]) 17 [0] rfl (Y.move rfl) (Gd.at 13 true 25 (decide (S1 > (0 : Int))) rfl rfl rfl (beq_tt H16)) rfl rfl (by kernel_rfl) (by kernel_rfl) (by kernel_rfl) rfl rfl ?_
              refine TA.y (listed' := #[true, true, true, true, true, true, true, true, true, true, true, true, true, true, true, true, true, true, true, false, false, false, false, false, false]) 18 [0] rfl (Y.sub rfl rfl) (Gd.at 13 true 25 (decide (S1 > (0 : Int))) rfl rfl rfl (beq_tt H16)) rfl rfl (by kernel_rfl) (by kernel_rfl) (by kernel_rfl) rfl rfl ?_
              refine TA.bind fun E17 H18 => ?_
              refine TA.y (listed' := #[true, true, true, true, true, true, true, true, true, true, true, true, true, true, true, true, true, true, true, true, false, false, false, false, false]) 19 [0] rfl (Y.index ke26 (Base.can HB_V_m0) H18 rfl rfl) (Gd.at 13 true 25 (decide (S1 > (0 : Int))) rfl rfl rfl (beq_tt H16)) rfl rfl (by kernel_rfl) (by kernel_rfl) (by kernel_rfl) rfl rfl ?_
              refine TA.y (listed' := #[true, true, true, true, true, true, true, true, true, true, true, true, true, true, true, true, true, true, true, true, true, false, false, false, false]) 20 [0] rfl (Y.field_el kf30_0 (Base.can HB_V_m0) (idx_get H18).2.2 rfl rfl) (Gd.at 13 true 25 (decide (S1 > (0 : Int))) rfl rfl rfl (beq_tt H16)) rfl rfl (by kernel_rfl) (by kernel_rfl) (by kernel_rfl) rfl rfl ?_
              refine TA.y (listed' := #[true, true, true, true, true, true, true, true, true, true, true, true, true, true, true, true, true, true, true, true, true, true, false, false, false]) 21 [0] rfl (Y.load_el (us := [strV E17.Key]) (u := strV E17.Key) kk9 rfl (Base.can HB_V_m0) (idx_get H18).2.2 rfl rfl rfl rfl rfl) (Gd.at 13 true 25 (decide (S1 > (0 : Int))) rfl rfl rfl (beq_tt H16)) rfl rfl (by kernel_rfl) (by kernel_rfl) (by kernel_rfl) rfl rfl ?_
              refine TA.y (listed' := #[true, true, true, true, true, true, true, true, true, true, true, true, true, true, true, true, true, true, true, true, true, true, true, false, false]) 22 [0] rfl (Y.sleq rfl rfl) (Gd.at 13 true 25 (decide (S1 > (0 : Int))) rfl rfl rfl (beq_tt H16)) rfl rfl (by kernel_rfl) (by kernel_rfl) (by kernel_rfl) rfl rfl ?_
              refine TA.y (listed' := #[true, true, true, true, true, true, true, true, true, true, true, true, true, true, true, true, true, true, true, true, true, true, true, true, false]) 23 [0] rfl (Y.pick_t H16 rfl rfl) (Gd.at 10 false 22 (decide (((E6.Val.length : Nat) : Int) > (16 : Int))) rfl rfl rfl (beq_ff H15)) rfl rfl (by kernel_rfl) (by kernel_rfl) (by kernel_rfl) rfl rfl ?_
              refine TA.y (listed' := #[true, true, true, true, true, true, true, true, true, true, true, true, true, true, true, true, true, true, true, true, true, true, true, true, true]) 24 [0] rfl (Y.pick_f H15 rfl rfl) rfl rfl rfl (by kernel_rfl) (by kernel_rfl) (by kernel_rfl) rfl rfl ?_
              refine TA.nil (by kernel_rfl) ?_
              exact TE.jb_go () [] ⟨rfl, rfl, rfl, rfl, rfl, trivial⟩ rfl
            · refine TA.off (listed' := #[true, true, true, true, true, true, true, true, true, true, true, true, true, true, true, false, false, false, false, false, false, false, false, false, false]) 14 [0] rfl (Gd.at 13 true 25 (decide (S1 > (0 : Int))) rfl rfl rfl (beq_ft H16)) rfl rfl (by kernel_rfl) (by kernel_rfl) (by kernel_rfl) rfl rfl ?_
              refine TA.off (listed' := #[true, true, true, true, true, true, true, true, true, true, true, true, true, true, true, true, false, false, false, false, false, false, false, false, false]) 15 [0] rfl (Gd.at 13 true 25 (decide (S1 > (0 : Int))) rfl rfl rfl (beq_ft H16)) rfl rfl (by kernel_rfl) (by kernel_rfl) (by kernel_rfl) rfl rfl ?_
              refine TA.off (listed' := #[true, true, true, true, true, true, true, true, true, true, true, true, true, true, true, true, true, false, false, false, false, false, false, false, false]) 16 [0] rfl (Gd.at 13 true 25 (decide (S1 > (0 : Int))) rfl rfl rfl (beq_ft H16)) rfl rfl (by kernel_rfl) (by kernel_rfl) (by kernel_rfl) rfl rfl ?_
              refine TA.off (listed' := #[true, true, true, true, true, true, true, true, true, true, true, true, true, true, true, true, true, true, false, false, false, false, false, false, false]) 17 [0] rfl (Gd.at 13 true 25 (decide (S1 > (0 : Int))) rfl rfl rfl (beq_ft H16)) rfl rfl (by kernel_rfl) (by kernel_rfl) (by kernel_rfl) rfl rfl ?_
              refine TA.off (listed' := #[true, true, true, true, true, true, true, true, true, true, true, true, true, true, true, true, true, true, true, false, false, false, false, false, false]) 18 [0] rfl (Gd.at 13 true 25 (decide (S1 > (0 : Int))) rfl rfl rfl (beq_ft H16)) rfl rfl (by kernel_rfl) (by kernel_rfl) (by kernel_rfl) rfl rfl ?_
              refine TA.off (listed' := #[true, true, true, true, true, true, true, true, true, true, true, true, true, true, true, true, true, true, true, true, false, false, false, false, false]) 19 [0] rfl (Gd.at 13 true 25 (decide (S1 > (0 : Int))) rfl rfl rfl (beq_ft H16)) rfl rfl (by kernel_rfl) (by kernel_rfl) (by kernel_rfl) rfl rfl ?_
              refine TA.off (listed' := #[true, true, true, true, true, true, true, true, true, true, true, true, true, true, true, true, true, true, true, true, true, false, false, false, false]) 20 [0] rfl (Gd.at 13 true 25 (decide (S1 > (0 : Int))) rfl rfl rfl (beq_ft H16)) rfl rfl (by kernel_rfl) (by kernel_rfl) (by kernel_rfl) rfl rfl ?_
              refine TA.off (listed' := #[true, true, true, true, true, true, true, true, true, true, true, true, true, true, true, true, true, true, true, true, true, true, false, false, false]) 21 [0] rfl (Gd.at 13 true 25 (decide (S1 > (0 : Int))) rfl rfl rfl (beq_ft H16)) rfl rfl (by kernel_rfl) (by kernel_rfl) (by kernel_rfl) rfl rfl ?_
              refine TA.off (listed' := #[true, true, true, true, true, true, true, true, true, true, true, true, true, true, true, true, true, true, true, true, true, true, true, false, false]) 22 [0] rfl (Gd.at 13 true 25 (decide (S1 > (0 : Int))) rfl rfl rfl (beq_ft H16)) rfl rfl (by kernel_rfl) (by kernel_rfl) (by kernel_rfl) rfl rfl ?_
              refine TA.y (listed' := #[true, true, true, true, true, true, true, true, true, true, true, true, true, true, true, true, true, true, true, true, true, true, true, true, false]) 23 [0] rfl (Y.pick_f H16 rfl rfl) (Gd.at 10 false 22 (decide (((E6.Val.length : Nat) : Int) > (16 : Int))) rfl rfl rfl (beq_ff H15)) rfl rfl (by kernel_rfl) (by kernel_rfl) (by kernel_rfl) rfl rfl ?_
              refine TA.y (listed' := #[true, true, true, true, true, true, true, true, true, true, true, true, true, true, true, true, true, true, true, true, true, true, true, true, true]) 24 [0] rfl (Y.pick_f H15 rfl rfl) rfl rfl rfl (by kernel_rfl) (by kernel_rfl) (by kernel_rfl) rfl rfl ?_
              refine TA.nil (by kernel_rfl) ?_
              exact TE.jb_go () [] ⟨rfl, rfl, rfl, rfl, rfl, trivial⟩ rfl
      · refine TE.next ?_
        refine TW.cond rfl (fun H19 => ?_) (fun H19 => ?_)
        · refine TW.seq ?_
          refine TW.region ?_
          refine TO.y (Y.assign rfl) rfl rfl rfl ?_
          refine TO.nil ?_
          refine TE.next ?_
          refine TW.ret ?_
          refine TE.block_ret ?_
          refine TE.then_ret ?_
          refine TE.lp_ret ?_
          refine TE.block_ret ?_
          refine TE.jn_done ?_
          refine TE.then_ret ?_
          exact TE.leaf fun _ _ hf_ hs_ => ret_any (rs := [.tmp 2]) (vs := [.bool false]) (.inl rfl) rfl ⟨rfl, trivial⟩ hf_ hs_ ⟨(), rfl, hs_.pulls [] rfl⟩
        · refine TW.skip ?_
          refine TE.block_normal ?_
          refine TE.next ?_
          refine TW.region ?_
          refine TO.y (Y.add rfl rfl) rfl rfl rfl ?_
          refine TO.y (Y.move rfl) rfl rfl rfl ?_
          refine TO.nil ?_
          exact TE.lp_go () [] ⟨rfl, rfl, rfl, rfl, trivial⟩ rfl
    · refine TW.exit ?_
      refine TE.then_exit ?_
      refine TE.lp_exit ?_
      refine TE.block_exit ?_
      exact TE.jn_go () [] trivial rfl
  · refine TE.next ?_
    refine TW.seq ?_
    refine TW.region ?_
    refine TO.y (Y.assign rfl) rfl rfl rfl ?_
    refine TO.nil ?_
    refine TE.next ?_
    refine TW.ret ?_
    exact TE.leaf fun _ _ hf_ hs_ => ret_any (rs := [.tmp 2]) (vs := [.bool true]) (.inl rfl) rfl ⟨rfl, trivial⟩ hf_ hs_ ⟨(), rfl, hs_.pulls [] rfl⟩

/-- loop.example/g00950/impl.IterOk -/
noncomputable def impl_IterOk (x : Iter) : Option Bool :=
  ((impl_inRange x.At (-1 : Int) ((x.List.length : Nat) : Int)).bind fun R4 =>
  if R4 = true then ((impl_MapOk x.List).bind fun R8 =>
  some R8)
  else (some false)).bind (fun (T2 : Bool) =>
  some T2)

theorem impl_IterOk_con (x : Iter) (V_x0 : Value) (r : Bool) (hm : impl_IterOk x = some r) :
    Con Try.prog 39 [.agg #[V_x0, strV x.From, strV x.To, .int .i64 x.At]] [] [(V_x0, lc 30 x.List)] (fun _ : Unit => .bool r) (fun _ => []) := by
  refine Con.intro (args := [.agg #[V_x0, strV x.From, strV x.To, .int .i64 x.At]]) (n := 14) (val := fun r (_ : Unit) => .bool r) (post := fun _ _ => []) (m := impl_IterOk x) Try.func39 rfl rfl rfl hm ?_
  intro w S hrd
  have HB_V_x0 := hrd _ (.head _)
  clear hrd
  unfold impl_IterOk
  refine TW.seq ?_
  refine TW.region ?_
  refine TO.ef (Ef.box rfl (Cel.agg ⟨(One.can (Base.can HB_V_x0)), (One.plain rfl), (One.plain rfl), (One.plain rfl), trivial⟩)) rfl rfl rfl (fun B1 => ?_)
  refine TO.y (Y.assign rfl) rfl rfl rfl ?_
  refine TO.nil ?_
  refine TE.next ?_
  refine TW.seq ?_
  refine TW.joinBX (τ := Bool) (X := Unit) (fun T _ => [(2, .bool T)]) (fun _ _ => []) ?_ (fun T2 X3 => ?_)
  · refine TW.region ?_
    refine TO.y (Y.field_box kf28_3 rfl rfl) rfl rfl rfl ?_
    refine TO.y (Y.load_box (v := .int .i64 x.At) 0 kk3 rfl rfl rfl) rfl rfl rfl ?_
    refine TO.y (Y.field_box kf28_0 rfl rfl) rfl rfl rfl ?_
    refine TO.y (Y.load_box (v := V_x0) 0 kk26 rfl rfl rfl) rfl rfl rfl ?_
    refine TO.y (Y.len (l := x.List) ke26 (Base.can HB_V_x0) rfl) rfl rfl rfl ?_
    refine TO.bind fun R4 H5 => ?_
    refine TO.ef (Ef.call (rest := [.box B1 28 [V_x0, strV x.From, strV x.To, .int .i64 x.At]]) [0] (impl_inRange_con x.At (-1 : Int) ((x.List.length : Nat) : Int)  R4 H5) kc55 rfl rfl trivial) rfl rfl rfl (fun _ => ?_)
    refine TO.y (Y.move rfl) rfl rfl rfl ?_
    refine TO.ite (b := R4) (fun H7 => ?_) (fun H7 => ?_)
    · refine TO.y (Y.field_box kf28_0 rfl rfl) (Gd.at 6 true 9 R4 rfl rfl rfl (beq_tt H7)) rfl rfl ?_
      refine TO.y (Y.load_box (v := V_x0) 0 kk26 rfl rfl rfl) (Gd.at 6 true 9 R4 rfl rfl rfl (beq_tt H7)) rfl rfl ?_
      refine TO.bind fun R8 H9 => ?_
      refine TO.ef (Ef.call (rest := [.box B1 28 [V_x0, strV x.From, strV x.To, .int .i64 x.At]]) [0] (impl_MapOk_con x.List V_x0 R8 H9) kc61 rfl rfl ⟨(Base.can HB_V_x0), trivial⟩) (Gd.at 6 true 9 R4 rfl rfl rfl (beq_tt H7)) rfl rfl (fun _ => ?_)
      refine TO.y (Y.pick_t H7 rfl rfl) rfl rfl rfl ?_
      refine TO.y (Y.assign rfl) rfl rfl rfl ?_
      refine TO.nil ?_
      exact TE.jb_go () [] ⟨rfl, trivial⟩ rfl
    · refine TO.off (Gd.at 6 true 9 R4 rfl rfl rfl (beq_ft H7)) rfl rfl ?_
      refine TO.off (Gd.at 6 true 9 R4 rfl rfl rfl (beq_ft H7)) rfl rfl ?_
      refine TO.off (Gd.at 6 true 9 R4 rfl rfl rfl (beq_ft H7)) rfl rfl ?_
      refine TO.y (Y.pick_f H7 rfl rfl) rfl rfl rfl ?_
      refine TO.y (Y.assign rfl) rfl rfl rfl ?_
      refine TO.nil ?_
      exact TE.jb_go () [] ⟨rfl, trivial⟩ rfl
  · refine TE.next ?_
    refine TW.ret ?_
    exact TE.leaf fun _ _ hf_ hs_ => ret_any (rs := [.tmp 2]) (vs := [.bool T2]) (.inl rfl) rfl ⟨rfl, trivial⟩ hf_ hs_ ⟨(), rfl, hs_.pulls [] rfl⟩

/-- loop.example/g00950/impl.within -/
noncomputable def impl_within (key : List UInt8) (from_ : List UInt8) (to : List UInt8) : Option Bool :=
  (if (!(sLt key from_)) = true then (if (decide (to = ([]))) = true then (some true)
  else (some (sLt key to)))
  else (some false)).bind (fun (T1 : Bool) =>
  some T1)

theorem impl_within_con (key : List UInt8) (from_ : List UInt8) (to : List UInt8)  (r : Bool) (hm : impl_within key from_ to = some r) :
    Con Try.prog 62 [strV key, strV from_, strV to] [] [] (fun _ : Unit => .bool r) (fun _ => []) := by
  refine Con.intro (args := [strV key, strV from_, strV to]) (n := 19) (val := fun r (_ : Unit) => .bool r) (post := fun _ _ => []) (m := impl_within key from_ to) Try.func62 rfl rfl rfl hm ?_
  intro w S _
  unfold impl_within
  refine TW.seq ?_
  refine TW.region ?_
  refine TO.y (Y.assign rfl) rfl rfl rfl ?_
  refine TO.nil ?_
  refine TE.next ?_
  refine TW.seq ?_
  refine TW.joinBX (τ := Bool) (X := Unit) (fun T _ => [(6, .bool T)]) (fun _ _ => []) ?_ (fun T1 X2 => ?_)
  · refine TW.region ?_
    refine TO.y (Y.move rfl) rfl rfl rfl ?_
    refine TO.y (Y.move rfl) rfl rfl rfl ?_
    refine TO.y (Y.sgeq rfl rfl) rfl rfl rfl ?_
    refine TO.y (Y.move rfl) rfl rfl rfl ?_
    refine TO.ite (b := !(sLt key from_)) (fun H3 => ?_) (fun H3 => ?_)
    · refine TO.y (Y.move rfl) (Gd.at 3 true 10 (!(sLt key from_)) rfl rfl rfl (beq_tt H3)) rfl rfl ?_
      refine TO.y (Y.seql rfl rfl) (Gd.at 3 true 10 (!(sLt key from_)) rfl rfl rfl (beq_tt H3)) rfl rfl ?_
      refine TO.y (Y.move rfl) (Gd.at 3 true 10 (!(sLt key from_)) rfl rfl rfl (beq_tt H3)) rfl rfl ?_
      refine TO.ite (b := decide (to = ([]))) (fun H4 => ?_) (fun H4 => ?_)
      · refine TO.off (Gd.at 6 false 13 (decide (to = ([]))) rfl rfl rfl (beq_tf H4)) rfl rfl ?_
        refine TO.off (Gd.at 6 false 13 (decide (to = ([]))) rfl rfl rfl (beq_tf H4)) rfl rfl ?_
        refine TO.off (Gd.at 6 false 13 (decide (to = ([]))) rfl rfl rfl (beq_tf H4)) rfl rfl ?_
        refine TO.y (Y.pick_t H4 rfl rfl) (Gd.at 3 true 10 (!(sLt key from_)) rfl rfl rfl (beq_tt H3)) rfl rfl ?_
        refine TO.y (Y.pick_t H3 rfl rfl) rfl rfl rfl ?_
        refine TO.y (Y.assign rfl) rfl rfl rfl ?_
        refine TO.nil ?_
        exact TE.jb_go () [] ⟨rfl, trivial⟩ rfl
      · refine TO.y (Y.move rfl) (Gd.at 6 false 13 (decide (to = ([]))) rfl rfl rfl (beq_ff H4)) rfl rfl ?_
        refine TO.y (Y.move rfl) (Gd.at 6 false 13 (decide (to = ([]))) rfl rfl rfl (beq_ff H4)) rfl rfl ?_
        refine TO.y (Y.slss rfl rfl) (Gd.at 6 false 13 (decide (to = ([]))) rfl rfl rfl (beq_ff H4)) rfl rfl ?_
        refine TO.y (Y.pick_f H4 rfl rfl) (Gd.at 3 true 10 (!(sLt key from_)) rfl rfl rfl (beq_tt H3)) rfl rfl ?_
        refine TO.y (Y.pick_t H3 rfl rfl) rfl rfl rfl ?_
        refine TO.y (Y.assign rfl) rfl rfl rfl ?_
        refine TO.nil ?_
        exact TE.jb_go () [] ⟨rfl, trivial⟩ rfl
    · refine TO.off (Gd.at 3 true 10 (!(sLt key from_)) rfl rfl rfl (beq_ft H3)) rfl rfl ?_
      refine TO.off (Gd.at 3 true 10 (!(sLt key from_)) rfl rfl rfl (beq_ft H3)) rfl rfl ?_
      refine TO.off (Gd.at 3 true 10 (!(sLt key from_)) rfl rfl rfl (beq_ft H3)) rfl rfl ?_
      refine TO.off (Gd.un 6 false 13 rfl rfl rfl) rfl rfl ?_
      refine TO.off (Gd.un 6 false 13 rfl rfl rfl) rfl rfl ?_
      refine TO.off (Gd.un 6 false 13 rfl rfl rfl) rfl rfl ?_
      refine TO.off (Gd.at 3 true 10 (!(sLt key from_)) rfl rfl rfl (beq_ft H3)) rfl rfl ?_
      refine TO.y (Y.pick_f H3 rfl rfl) rfl rfl rfl ?_
      refine TO.y (Y.assign rfl) rfl rfl rfl ?_
      refine TO.nil ?_
      exact TE.jb_go () [] ⟨rfl, trivial⟩ rfl
  · refine TE.next ?_
    refine TW.ret ?_
    exact TE.leaf fun _ _ hf_ hs_ => ret_any (rs := [.tmp 6]) (vs := [.bool T1]) (.inl rfl) rfl ⟨rfl, trivial⟩ hf_ hs_ ⟨(), rfl, hs_.pulls [] rfl⟩

/-- (loop.example/g00950/impl.Iter).isWithin -/
noncomputable def impl_Iter_isWithin (x : Iter) (at_ : Int) : Option Bool :=
  (idx x.List at_).bind fun E2 =>
  (impl_within E2.Key x.From x.To).bind fun R4 =>
  some R4

theorem impl_Iter_isWithin_con (x : Iter) (at_ : Int) (V_x0 : Value) (r : Bool) (hm : impl_Iter_isWithin x at_ = some r) :
    Con Try.prog 40 [.agg #[V_x0, strV x.From, strV x.To, .int .i64 x.At], .int .i64 at_] [] [(V_x0, lc 30 x.List)] (fun _ : Unit => .bool r) (fun _ => []) := by
  refine Con.intro (args := [.agg #[V_x0, strV x.From, strV x.To, .int .i64 x.At], .int .i64 at_]) (n := 16) (val := fun r (_ : Unit) => .bool r) (post := fun _ _ => []) (m := impl_Iter_isWithin x at_) Try.func40 rfl rfl rfl hm ?_
  intro w S hrd
  have HB_V_x0 := hrd _ (.head _)
  clear hrd
  unfold impl_Iter_isWithin
  refine TW.seq ?_
  refine TW.region ?_
  refine TO.ef (Ef.box rfl (Cel.agg ⟨(One.can (Base.can HB_V_x0)), (One.plain rfl), (One.plain rfl), (One.plain rfl), trivial⟩)) rfl rfl rfl (fun B1 => ?_)
  refine TO.y (Y.assign rfl) rfl rfl rfl ?_
  refine TO.nil ?_
  refine TE.next ?_
  refine TW.seq ?_
  refine TW.draw (isH := [.box B1 28 [V_x0, strV x.From, strV x.To, .int .i64 x.At]]) hMix ?_
  refine TA.y (listed' := #[true, false, false, false, false, false, false, false, false, false, false, false]) 0 [0] rfl (Y.field_box kf28_0 rfl rfl) rfl rfl rfl (by kernel_rfl) (by kernel_rfl) (by kernel_rfl) rfl rfl ?_
  refine TA.y (listed' := #[true, true, false, false, false, false, false, false, false, false, false, false]) 1 [0] rfl (Y.load_box (v := V_x0) 0 kk26 rfl rfl rfl) rfl rfl rfl (by kernel_rfl) (by kernel_rfl) (by kernel_rfl) rfl rfl ?_
  refine TA.y (listed' := #[true, true, true, false, false, false, false, false, false, false, false, false]) 2 [0] rfl (Y.move rfl) rfl rfl rfl (by kernel_rfl) (by kernel_rfl) (by kernel_rfl) rfl rfl ?_
  refine TA.bind fun E2 H3 => ?_
  refine TA.y (listed' := #[true, true, true, true, false, false, false, false, false, false, false, false]) 3 [0] rfl (Y.index ke26 (Base.can HB_V_x0) H3 rfl rfl) rfl rfl rfl (by kernel_rfl) (by kernel_rfl) (by kernel_rfl) rfl rfl ?_
  refine TA.y (listed' := #[true, true, true, true, true, false, false, false, false, false, false, false]) 4 [0] rfl (Y.field_el kf30_0 (Base.can HB_V_x0) (idx_get H3).2.2 rfl rfl) rfl rfl rfl (by kernel_rfl) (by kernel_rfl) (by kernel_rfl) rfl rfl ?_
  refine TA.y (listed' := #[true, true, true, true, true, true, false, false, false, false, false, false]) 5 [0] rfl (Y.load_el (us := [strV E2.Key]) (u := strV E2.Key) kk9 rfl (Base.can HB_V_x0) (idx_get H3).2.2 rfl rfl rfl rfl rfl) rfl rfl rfl (by kernel_rfl) (by kernel_rfl) (by kernel_rfl) rfl rfl ?_
  refine TA.y (listed' := #[true, true, true, true, true, true, true, false, false, false, false, false]) 6 [0] rfl (Y.field_box kf28_1 rfl rfl) rfl rfl rfl (by kernel_rfl) (by kernel_rfl) (by kernel_rfl) rfl rfl ?_
  refine TA.y (listed' := #[true, true, true, true, true, true, true, true, false, false, false, false]) 7 [0] rfl (Y.load_box (v := strV x.From) 0 kk9 rfl rfl rfl) rfl rfl rfl (by kernel_rfl) (by kernel_rfl) (by kernel_rfl) rfl rfl ?_
  refine TA.y (listed' := #[true, true, true, true, true, true, true, true, true, false, false, false]) 8 [0] rfl (Y.field_box kf28_2 rfl rfl) rfl rfl rfl (by kernel_rfl) (by kernel_rfl) (by kernel_rfl) rfl rfl ?_
  refine TA.y (listed' := #[true, true, true, true, true, true, true, true, true, true, false, false]) 9 [0] rfl (Y.load_box (v := strV x.To) 0 kk9 rfl rfl rfl) rfl rfl rfl (by kernel_rfl) (by kernel_rfl) (by kernel_rfl) rfl rfl ?_
  refine TA.bind fun R4 H5 => ?_
  refine TA.one 10 (by kernel_rfl) ?_
  refine TX.ef (listed' := #[true, true, true, true, true, true, true, true, true, true, true, false]) [0] rfl (Ef.call (rest := [.box B1 28 [V_x0, strV x.From, strV x.To, .int .i64 x.At]]) [0] (impl_within_con E2.Key x.From x.To  R4 H5) kc62 rfl rfl trivial) rfl rfl rfl rfl (fun _ => rfl) (fun _ => ?_)
  refine TA.y (listed' := #[true, true, true, true, true, true, true, true, true, true, true, true]) 11 [0] rfl (Y.assign rfl) rfl rfl rfl (by kernel_rfl) (by kernel_rfl) (by kernel_rfl) rfl rfl ?_
  refine TA.nil (by kernel_rfl) ?_
  refine TE.next ?_
  refine TW.ret ?_
  exact TE.leaf fun _ _ hf_ hs_ => ret_any (rs := [.tmp 4]) (vs := [.bool R4]) (.inl rfl) rfl ⟨rfl, trivial⟩ hf_ hs_ ⟨(), rfl, hs_.pulls [] rfl⟩

/-- slices.Clone[[]loop.example/g00950/impl.KV,loop.example/g00950/impl.KV] -/
noncomputable def slices_Clone_74624 (s : List KV) : Option (List KV) :=
  (app 32 ([] : List KV) s).bind fun E4 =>
  some E4

theorem slices_Clone_74624_con (s : List KV) (V_s0 : Value) (r : List KV) (hm : slices_Clone_74624 s = some r) :
    Con Try.prog 63 [V_s0] [] [(V_s0, lc 30 s)] (fun X : Value => X) (fun X => [.own X (lc 30 r)]) := by
  refine Con.intro (args := [V_s0]) (n := 8) (val := fun _ (X : Value) => X) (post := fun r X => [.own X (lc 30 r)]) (m := slices_Clone_74624 s) Try.func63 rfl rfl rfl hm ?_
  intro w S hrd
  have HB_V_s0 := hrd _ (.head _)
  clear hrd
  unfold slices_Clone_74624
  refine TW.seq ?_
  refine TW.region ?_
  refine TO.y (Y.assign rfl) rfl rfl rfl ?_
  refine TO.nil ?_
  refine TE.next ?_
  refine TW.seq ?_
  refine TW.seq ?_
  refine TW.region ?_
  refine TO.y (Y.move rfl) rfl rfl rfl ?_
  refine TO.y (Y.nileq ke26 (Base.can HB_V_s0) rfl rfl) rfl rfl rfl ?_
  refine TO.nil ?_
  refine TE.next ?_
  refine TW.cond_nil (Base.can HB_V_s0) rfl (fun hnil_ => ?_) ?_
  · subst hnil_
    show TW _ _ _ (some ([])) _ _ _ _ _
    refine TW.seq ?_
    refine TW.region ?_
    refine TO.y (Y.assign rfl) rfl rfl rfl ?_
    refine TO.nil ?_
    refine TE.next ?_
    refine TW.ret ?_
    refine TE.then_ret ?_
    exact TE.leaf fun _ _ hf_ hs_ => ret_any (rs := [.tmp 2]) (vs := [.slice none 0 0]) (.inl rfl) rfl ⟨rfl, trivial⟩ hf_ hs_ ⟨(.slice none 0 0), rfl, (hs_.nilItem 30 2).pulls [0] rfl⟩
  · refine TW.skip ?_
    refine TE.next ?_
    refine TW.seq ?_
    refine TW.region ?_
    refine TO.ef (Ef.buildSlice (α := KV) (Vs := []) ([] : List KV) ke26 kz30 rfl rfl rfl rfl rfl) rfl rfl rfl (fun B2 => ?_)
    refine TO.y (Y.move rfl) rfl rfl rfl ?_
    refine TO.bind fun E4 H5 => ?_
    refine TO.ef (Ef.append (α := KV) (is' := []) [0] H5 ke26 kz30 rfl rfl rfl rfl rfl (Base.can HB_V_s0)) rfl rfl rfl (fun V3 => ?_)
    refine TO.y (Y.assign rfl) rfl rfl rfl ?_
    refine TO.nil ?_
    refine TE.next ?_
    refine TW.ret ?_
    exact TE.leaf fun _ _ hf_ hs_ => ret_any (rs := [.tmp 2]) (vs := [V3]) (.inl rfl) rfl ⟨rfl, trivial⟩ hf_ hs_ ⟨V3, rfl, hs_.pulls [0] rfl⟩

/-- loop.example/g00950/impl.moveTo -/
noncomputable def impl_moveTo (x : Iter) (at_ : Int) : Option (Iter × KV × Bool) :=
  (slices_Clone_74624 x.List).bind fun R4 =>
  (impl_inRange at_ (0 : Int) (IntKind.i64.wrap (((R4.length : Nat) : Int) - (1 : Int)))).bind fun R7 =>
  if (!R7) = true then (some ({ List := R4, From := x.From, To := x.To, At := at_ : Iter }, { Key := [], Val := [] : KV }, false))
  else ((idx R4 at_).bind fun E11 =>
  some ({ List := R4, From := x.From, To := x.To, At := at_ : Iter }, E11, true))

theorem impl_moveTo_con (x : Iter) (at_ : Int) (V_x0 : Value) (r : Iter × KV × Bool) (hm : impl_moveTo x at_ = some r) :
    Con Try.prog 41 [.agg #[V_x0, strV x.From, strV x.To, .int .i64 x.At], .int .i64 at_] [] [(V_x0, lc 30 x.List)] (fun X : Value => .tuple #[.agg #[X, strV r.1.From, strV r.1.To, .int .i64 r.1.At], .agg #[strV r.2.1.Key, strV r.2.1.Val], .bool r.2.2]) (fun X => [.own X (lc 30 r.1.List)]) := by
  refine Con.intro (args := [.agg #[V_x0, strV x.From, strV x.To, .int .i64 x.At], .int .i64 at_]) (n := 28) (val := fun r (X : Value) => .tuple #[.agg #[X, strV r.1.From, strV r.1.To, .int .i64 r.1.At], .agg #[strV r.2.1.Key, strV r.2.1.Val], .bool r.2.2]) (post := fun r X => [.own X (lc 30 r.1.List)]) (m := impl_moveTo x at_) Try.func41 rfl rfl rfl hm ?_
  intro w S hrd
  have HB_V_x0 := hrd _ (.head _)
  clear hrd
  unfold impl_moveTo
  refine TW.seq ?_
  refine TW.region ?_
  refine TO.ef (Ef.box rfl (Cel.agg ⟨(One.can (Base.can HB_V_x0)), (One.plain rfl), (One.plain rfl), (One.plain rfl), trivial⟩)) rfl rfl rfl (fun B1 => ?_)
  refine TO.ef (Ef.alloc kz28 rfl) rfl rfl rfl (fun B2 => ?_)
  refine TO.ef (Ef.alloc kz30 rfl) rfl rfl rfl (fun B3 => ?_)
  refine TO.y (Y.assign rfl) rfl rfl rfl ?_
  refine TO.nil ?_
  refine TE.next ?_
  refine TW.seq ?_
  refine TW.region ?_
  refine TO.y (Y.field_box kf28_0 rfl rfl) rfl rfl rfl ?_
  refine TO.y (Y.load_box (v := V_x0) 2 kk26 rfl rfl rfl) rfl rfl rfl ?_
  refine TO.bind fun R4 H5 => ?_
  refine TO.ef (Ef.call (rest := [.box B3 30 [strV ([]), strV ([])], .box B2 28 [.slice none 0 0, strV ([]), strV ([]), .int .i64 (0 : Int)], .box B1 28 [V_x0, strV x.From, strV x.To, .int .i64 x.At]]) [0, 0, 0] (slices_Clone_74624_con x.List V_x0 R4 H5) kc63 rfl rfl ⟨(Base.can HB_V_x0), trivial⟩) rfl rfl rfl (fun Y6 => ?_)
  refine TO.y (Y.field_box kf28_0 rfl rfl) rfl rfl rfl ?_
  refine TO.ef0 (Ef.store_box (us := [Y6]) (vs' := [Y6, strV x.From, strV x.To, .int .i64 x.At]) (is' := [.own Y6 (lc 30 R4), .box B3 30 [strV ([]), strV ([])], .box B2 28 [.slice none 0 0, strV ([]), strV ([]), .int .i64 (0 : Int)], .box B1 28 [Y6, strV x.From, strV x.To, .int .i64 x.At]]) 3 kk26 rfl rfl rfl (Cel.one (One.can (Can.own 0 rfl))) rfl rfl rfl rfl) rfl rfl (fun _ => ?_)
  refine TO.nil ?_
  refine TE.next ?_
  refine TW.seq ?_
  refine TW.region ?_
  refine TO.y (Y.move rfl) rfl rfl rfl ?_
  refine TO.y (Y.field_box kf28_3 rfl rfl) rfl rfl rfl ?_
  refine TO.ef0 (Ef.store_box (us := [.int .i64 at_]) (vs' := [Y6, strV x.From, strV x.To, .int .i64 at_]) (is' := [.own Y6 (lc 30 R4), .box B3 30 [strV ([]), strV ([])], .box B2 28 [.slice none 0 0, strV ([]), strV ([]), .int .i64 (0 : Int)], .box B1 28 [Y6, strV x.From, strV x.To, .int .i64 at_]]) 3 kk3 rfl rfl rfl (Cel.plain rfl rfl) rfl rfl rfl rfl) rfl rfl (fun _ => ?_)
  refine TO.nil ?_
  refine TE.next ?_
  refine TW.seq ?_
  refine TW.seq ?_
  refine TW.region ?_
  refine TO.y (Y.move rfl) rfl rfl rfl ?_
  refine TO.y (Y.field_box kf28_0 rfl rfl) rfl rfl rfl ?_
  refine TO.y (Y.load_box (v := Y6) 3 kk26 rfl rfl rfl) rfl rfl rfl ?_
  refine TO.y (Y.len (l := R4) ke26 (Can.own 0 rfl) rfl) rfl rfl rfl ?_
  refine TO.y (Y.sub rfl rfl) rfl rfl rfl ?_
  refine TO.bind fun R7 H8 => ?_
  refine TO.ef (Ef.call (rest := [.own Y6 (lc 30 R4), .box B3 30 [strV ([]), strV ([])], .box B2 28 [.slice none 0 0, strV ([]), strV ([]), .int .i64 (0 : Int)], .box B1 28 [Y6, strV x.From, strV x.To, .int .i64 at_]]) [0, 0, 0, 0] (impl_inRange_con at_ (0 : Int) (IntKind.i64.wrap (((R4.length : Nat) : Int) - (1 : Int)))  R7 H8) kc55 rfl rfl trivial) rfl rfl rfl (fun _ => ?_)
  refine TO.y (Y.not rfl) rfl rfl rfl ?_
  refine TO.nil ?_
  refine TE.next ?_
  refine TW.cond rfl (fun H10 => ?_) (fun H10 => ?_)
  · refine TW.seq ?_
    refine TW.region ?_
    refine TO.y (Y.load_box (v := .agg #[Y6, strV x.From, strV x.To, .int .i64 at_]) 3 kk28 rfl rfl rfl) rfl rfl rfl ?_
    refine TO.y (Y.build (cells := [strV ([]), strV ([])]) [] kp30 kz30 trivial rfl) rfl rfl rfl ?_
    refine TO.ef0 (Ef.store_box (us := [Y6, strV x.From, strV x.To, .int .i64 at_]) (vs' := [Y6, strV x.From, strV x.To, .int .i64 at_]) (is' := [.own Y6 (lc 30 R4), .box B3 30 [strV ([]), strV ([])], .box B2 28 [Y6, strV x.From, strV x.To, .int .i64 at_], .box B1 28 [Y6, strV x.From, strV x.To, .int .i64 at_]]) 2 kk28 rfl rfl rfl (Cel.agg ⟨(One.can (Can.own 0 rfl)), (One.plain rfl), (One.plain rfl), (One.plain rfl), trivial⟩) rfl rfl rfl rfl) rfl rfl (fun _ => ?_)
    refine TO.ef0 (Ef.store_box (us := [strV ([]), strV ([])]) (vs' := [strV ([]), strV ([])]) (is' := [.own Y6 (lc 30 R4), .box B3 30 [strV ([]), strV ([])], .box B2 28 [Y6, strV x.From, strV x.To, .int .i64 at_], .box B1 28 [Y6, strV x.From, strV x.To, .int .i64 at_]]) 1 kk30 rfl rfl rfl (Cel.plain rfl rfl) rfl rfl rfl rfl) rfl rfl (fun _ => ?_)
    refine TO.y (Y.assign rfl) rfl rfl rfl ?_
    refine TO.nil ?_
    refine TE.next ?_
    refine TW.ret ?_
    refine TE.then_ret ?_
    exact TE.leaf fun _ _ hf_ hs_ => ret_any (rs := [.cell 4 28, .cell 5 30, .tmp 6]) (vs := [.agg #[Y6, strV x.From, strV x.To, .int .i64 at_], .agg #[strV ([]), strV ([])], .bool false]) (.inl rfl) rfl (RV.cell 2 rfl rfl kk28 rfl (RV.cell 1 rfl rfl kk30 rfl ⟨rfl, trivial⟩)) hf_ hs_ ⟨Y6, rfl, hs_.pulls [0] rfl⟩
  · refine TW.skip ?_
    refine TE.next ?_
    refine TW.seq ?_
    refine TW.draw (isH := [.own Y6 (lc 30 R4), .box B1 28 [Y6, strV x.From, strV x.To, .int .i64 at_]]) hMix ?_
    refine TA.y (listed' := #[true, false, false, false, false, false, false, false, false]) 0 [0, 2] rfl (Y.load_box (v := .agg #[Y6, strV x.From, strV x.To, .int .i64 at_]) 1 kk28 rfl rfl rfl) rfl rfl rfl (by kernel_rfl) (by kernel_rfl) (by kernel_rfl) rfl rfl ?_
    refine TA.y (listed' := #[true, true, false, false, false, false, false, false, false]) 1 [0, 2] rfl (Y.field_box kf28_0 rfl rfl) rfl rfl rfl (by kernel_rfl) (by kernel_rfl) (by kernel_rfl) rfl rfl ?_
    refine TA.y (listed' := #[true, true, true, false, false, false, false, false, false]) 2 [0, 2] rfl (Y.load_box (v := Y6) 1 kk26 rfl rfl rfl) rfl rfl rfl (by kernel_rfl) (by kernel_rfl) (by kernel_rfl) rfl rfl ?_
    refine TA.y (listed' := #[true, true, true, true, false, false, false, false, false]) 3 [0, 2] rfl (Y.move rfl) rfl rfl rfl (by kernel_rfl) (by kernel_rfl) (by kernel_rfl) rfl rfl ?_
    refine TA.bind fun E11 H12 => ?_
    refine TA.y (listed' := #[true, true, true, true, true, false, false, false, false]) 4 [0, 2] rfl (Y.index ke26 (Can.own 0 rfl) H12 rfl rfl) rfl rfl rfl (by kernel_rfl) (by kernel_rfl) (by kernel_rfl) rfl rfl ?_
    refine TA.y (listed' := #[true, true, true, true, true, true, false, false, false]) 5 [0, 2] rfl (Y.load_el (us := [strV E11.Key, strV E11.Val]) (u := .agg #[strV E11.Key, strV E11.Val]) kk30 rfl (Can.own 0 rfl) (idx_get H12).2.2 rfl rfl rfl rfl rfl) rfl rfl rfl (by kernel_rfl) (by kernel_rfl) (by kernel_rfl) rfl rfl ?_
    refine TA.one 6 (by kernel_rfl) ?_
    refine TX.ef0 (listed' := #[true, true, true, true, true, true, true, false, false]) [0, 2] rfl (Ef.store_box (us := [Y6, strV x.From, strV x.To, .int .i64 at_]) (vs' := [Y6, strV x.From, strV x.To, .int .i64 at_]) (is' := [.own Y6 (lc 30 R4), .box B3 30 [strV ([]), strV ([])], .box B2 28 [Y6, strV x.From, strV x.To, .int .i64 at_], .box B1 28 [Y6, strV x.From, strV x.To, .int .i64 at_]]) 2 kk28 rfl rfl rfl (Cel.agg ⟨(One.can (Can.own 0 rfl)), (One.plain rfl), (One.plain rfl), (One.plain rfl), trivial⟩) rfl rfl rfl rfl) rfl rfl rfl (fun _ => rfl) (fun _ => ?_)
    refine TA.one 7 (by kernel_rfl) ?_
    refine TX.ef0 (listed' := #[true, true, true, true, true, true, true, true, false]) [0, 2] rfl (Ef.store_box (us := [strV E11.Key, strV E11.Val]) (vs' := [strV E11.Key, strV E11.Val]) (is' := [.own Y6 (lc 30 R4), .box B3 30 [strV E11.Key, strV E11.Val], .box B2 28 [Y6, strV x.From, strV x.To, .int .i64 at_], .box B1 28 [Y6, strV x.From, strV x.To, .int .i64 at_]]) 1 kk30 rfl rfl rfl (Cel.plain rfl rfl) rfl rfl rfl rfl) rfl rfl rfl (fun _ => rfl) (fun _ => ?_)
    refine TA.y (listed' := #[true, true, true, true, true, true, true, true, true]) 8 [0, 2] rfl (Y.assign rfl) rfl rfl rfl (by kernel_rfl) (by kernel_rfl) (by kernel_rfl) rfl rfl ?_
    refine TA.nil (by kernel_rfl) ?_
    refine TE.next ?_
    refine TW.ret ?_
    exact TE.leaf fun _ _ hf_ hs_ => ret_any (rs := [.cell 4 28, .cell 5 30, .tmp 6]) (vs := [.agg #[Y6, strV x.From, strV x.To, .int .i64 at_], .agg #[strV E11.Key, strV E11.Val], .bool true]) (.inl rfl) rfl (RV.cell 2 rfl rfl kk28 rfl (RV.cell 1 rfl rfl kk30 rfl ⟨rfl, trivial⟩)) hf_ hs_ ⟨Y6, rfl, hs_.pulls [0] rfl⟩

/-- loop.example/g00950/impl.IterNext -/
noncomputable def impl_IterNext (x : Iter) : Option (Iter × KV × Bool) :=
  (impl_IterOk x).bind fun R4 =>
  if (!R4) = true then (some ({ List := ([] : List KV), From := [], To := [], At := (0 : Int) : Iter }, { Key := [], Val := [] : KV }, false))
  else (bindC (loopO (fun (S9 : Int) => (if (decide (S9 < ((x.List.length : Nat) : Int))) = true then ((impl_Iter_isWithin x S9).bind fun R16 =>
  some (!R16))
  else (some false)).bind (fun (T13 : Bool) =>
  if T13 = true then (some (.go (IntKind.i64.wrap (S9 + (1 : Int)))))
  else (some (.done (.go S9)))))
  (IntKind.i64.wrap (x.At + (1 : Int))))
  (fun (T11 : Int) => (impl_moveTo x (goMin T11 ((x.List.length : Nat) : Int))).bind fun R20 =>
  some (R20.1, R20.2.1, R20.2.2)))

theorem impl_IterNext_con (x : Iter) (V_x0 : Value) (r : Iter × KV × Bool) (hm : impl_IterNext x = some r) :
    Con Try.prog 12 [.agg #[V_x0, strV x.From, strV x.To, .int .i64 x.At]] [] [(V_x0, lc 30 x.List)] (fun X : Value => .tuple #[.agg #[X, strV r.1.From, strV r.1.To, .int .i64 r.1.At], .agg #[strV r.2.1.Key, strV r.2.1.Val], .bool r.2.2]) (fun X => [.own X (lc 30 r.1.List)]) := by
  refine Con.intro (args := [.agg #[V_x0, strV x.From, strV x.To, .int .i64 x.At]]) (n := 37) (val := fun r (X : Value) => .tuple #[.agg #[X, strV r.1.From, strV r.1.To, .int .i64 r.1.At], .agg #[strV r.2.1.Key, strV r.2.1.Val], .bool r.2.2]) (post := fun r X => [.own X (lc 30 r.1.List)]) (m := impl_IterNext x) Try.func12 rfl rfl rfl hm ?_
  intro w S hrd
  have HB_V_x0 := hrd _ (.head _)
  clear hrd
  unfold impl_IterNext
  refine TW.seq ?_
  refine TW.region ?_
  refine TO.ef (Ef.box rfl (Cel.agg ⟨(One.can (Base.can HB_V_x0)), (One.plain rfl), (One.plain rfl), (One.plain rfl), trivial⟩)) rfl rfl rfl (fun B1 => ?_)
  refine TO.ef (Ef.alloc kz28 rfl) rfl rfl rfl (fun B2 => ?_)
  refine TO.ef (Ef.alloc kz30 rfl) rfl rfl rfl (fun B3 => ?_)
  refine TO.y (Y.assign rfl) rfl rfl rfl ?_
  refine TO.nil ?_
  refine TE.next ?_
  refine TW.seq ?_
  refine TW.seq ?_
  refine TW.region ?_
  refine TO.y (Y.load_box (v := .agg #[V_x0, strV x.From, strV x.To, .int .i64 x.At]) 2 kk28 rfl rfl rfl) rfl rfl rfl ?_
  refine TO.bind fun R4 H5 => ?_
  refine TO.ef (Ef.call (rest := [.box B3 30 [strV ([]), strV ([])], .box B2 28 [.slice none 0 0, strV ([]), strV ([]), .int .i64 (0 : Int)], .box B1 28 [V_x0, strV x.From, strV x.To, .int .i64 x.At]]) [0, 0, 0] (impl_IterOk_con x V_x0 R4 H5) kc39 rfl rfl ⟨(Base.can HB_V_x0), trivial⟩) rfl rfl rfl (fun _ => ?_)
  refine TO.y (Y.not rfl) rfl rfl rfl ?_
  refine TO.nil ?_
  refine TE.next ?_
  refine TW.cond rfl (fun H7 => ?_) (fun H7 => ?_)
  · refine TW.seq ?_
    refine TW.region ?_
    refine TO.y (Y.build (cells := [.slice none 0 0, strV ([]), strV ([]), .int .i64 (0 : Int)]) [] kp28 kz28 trivial rfl) rfl rfl rfl ?_
    refine TO.y (Y.build (cells := [strV ([]), strV ([])]) [] kp30 kz30 trivial rfl) rfl rfl rfl ?_
    refine TO.ef0 (Ef.store_box (us := [.slice none 0 0, strV ([]), strV ([]), .int .i64 (0 : Int)]) (vs' := [.slice none 0 0, strV ([]), strV ([]), .int .i64 (0 : Int)]) (is' := [.box B3 30 [strV ([]), strV ([])], .box B2 28 [.slice none 0 0, strV ([]), strV ([]), .int .i64 (0 : Int)], .box B1 28 [V_x0, strV x.From, strV x.To, .int .i64 x.At]]) 1 kk28 rfl rfl rfl (Cel.plain rfl rfl) rfl rfl rfl rfl) rfl rfl (fun _ => ?_)
    refine TO.ef0 (Ef.store_box (us := [strV ([]), strV ([])]) (vs' := [strV ([]), strV ([])]) (is' := [.box B3 30 [strV ([]), strV ([])], .box B2 28 [.slice none 0 0, strV ([]), strV ([]), .int .i64 (0 : Int)], .box B1 28 [V_x0, strV x.From, strV x.To, .int .i64 x.At]]) 0 kk30 rfl rfl rfl (Cel.plain rfl rfl) rfl rfl rfl rfl) rfl rfl (fun _ => ?_)
    refine TO.y (Y.assign rfl) rfl rfl rfl ?_
    refine TO.nil ?_
    refine TE.next ?_
    refine TW.ret ?_
    refine TE.then_ret ?_
    exact TE.leaf fun _ _ hf_ hs_ => ret_any (rs := [.cell 2 28, .cell 3 30, .tmp 4]) (vs := [.agg #[.slice none 0 0, strV ([]), strV ([]), .int .i64 (0 : Int)], .agg #[strV ([]), strV ([])], .bool false]) (.inl rfl) rfl (RV.cell 1 rfl rfl kk28 rfl (RV.cell 0 rfl rfl kk30 rfl ⟨rfl, trivial⟩)) hf_ hs_ ⟨(.slice none 0 0), rfl, (hs_.nilItem 30 2).pulls [0] rfl⟩
  · refine TW.skip ?_
    refine TE.next ?_
    refine TW.seq ?_
    refine TW.region ?_
    refine TO.y (Y.field_box kf28_3 rfl rfl) rfl rfl rfl ?_
    refine TO.y (Y.load_box (v := .int .i64 x.At) 2 kk3 rfl rfl rfl) rfl rfl rfl ?_
    refine TO.y (Y.add rfl rfl) rfl rfl rfl ?_
    refine TO.y (Y.assign rfl) rfl rfl rfl ?_
    refine TO.nil ?_
    refine TE.next ?_
    refine TW.seq ?_
    refine TW.joinX (τ := Int) (X := Unit) (fun T _ => [(1, .pointer (some ⟨B1, 0, none⟩)), (2, .pointer (some ⟨B2, 0, none⟩)), (3, .pointer (some ⟨B3, 0, none⟩)), (5, .int .i64 T)]) (fun _ _ => [.box B1 28 [V_x0, strV x.From, strV x.To, .int .i64 x.At], .box B2 28 [.slice none 0 0, strV ([]), strV ([]), .int .i64 (0 : Int)], .box B3 30 [strV ([]), strV ([])]]) ?_ (fun T11 X12 => ?_)
    · refine TW.block ?_
      refine TW.loopX (σ := Int) (X := Unit) (fun T _ => [(1, .pointer (some ⟨B1, 0, none⟩)), (2, .pointer (some ⟨B2, 0, none⟩)), (3, .pointer (some ⟨B3, 0, none⟩)), (5, .int .i64 T)]) (fun _ _ => [.box B1 28 [V_x0, strV x.From, strV x.To, .int .i64 x.At], .box B2 28 [.slice none 0 0, strV ([]), strV ([]), .int .i64 (0 : Int)], .box B3 30 [strV ([]), strV ([])]]) () [2, 1, 0] ⟨rfl, rfl, rfl, rfl, trivial⟩ rfl (fun S9 X10 => ?_)
      refine TW.seq ?_
      refine TW.seq ?_
      refine TW.joinBX (τ := Bool) (X := Unit) (fun T _ => [(1, .pointer (some ⟨B1, 0, none⟩)), (2, .pointer (some ⟨B2, 0, none⟩)), (3, .pointer (some ⟨B3, 0, none⟩)), (5, .int .i64 S9), (24, .bool T)]) (fun _ _ => [.box B1 28 [V_x0, strV x.From, strV x.To, .int .i64 x.At], .box B2 28 [.slice none 0 0, strV ([]), strV ([]), .int .i64 (0 : Int)], .box B3 30 [strV ([]), strV ([])]]) ?_ (fun T13 X14 => ?_)
      · refine TW.region ?_
        refine TO.y (Y.move rfl) rfl rfl rfl ?_
        refine TO.y (Y.field_box kf28_0 rfl rfl) rfl rfl rfl ?_
        refine TO.y (Y.load_box (v := V_x0) 0 kk26 rfl rfl rfl) rfl rfl rfl ?_
        refine TO.y (Y.len (l := x.List) ke26 (Base.can HB_V_x0) rfl) rfl rfl rfl ?_
        refine TO.y (Y.lss rfl rfl) rfl rfl rfl ?_
        refine TO.y (Y.move rfl) rfl rfl rfl ?_
        refine TO.ite (b := decide (S9 < ((x.List.length : Nat) : Int))) (fun H15 => ?_) (fun H15 => ?_)
        · refine TO.y (Y.load_box (v := .agg #[V_x0, strV x.From, strV x.To, .int .i64 x.At]) 0 kk28 rfl rfl rfl) (Gd.at 5 true 19 (decide (S9 < ((x.List.length : Nat) : Int))) rfl rfl rfl (beq_tt H15)) rfl rfl ?_
          refine TO.y (Y.move rfl) (Gd.at 5 true 19 (decide (S9 < ((x.List.length : Nat) : Int))) rfl rfl rfl (beq_tt H15)) rfl rfl ?_
          refine TO.bind fun R16 H17 => ?_
          refine TO.ef (Ef.call (rest := [.box B1 28 [V_x0, strV x.From, strV x.To, .int .i64 x.At], .box B2 28 [.slice none 0 0, strV ([]), strV ([]), .int .i64 (0 : Int)], .box B3 30 [strV ([]), strV ([])]]) [0, 0, 0] (impl_Iter_isWithin_con x S9 V_x0 R16 H17) kc40 rfl rfl ⟨(Base.can HB_V_x0), trivial⟩) (Gd.at 5 true 19 (decide (S9 < ((x.List.length : Nat) : Int))) rfl rfl rfl (beq_tt H15)) rfl rfl (fun _ => ?_)
          refine TO.y (Y.not rfl) (Gd.at 5 true 19 (decide (S9 < ((x.List.length : Nat) : Int))) rfl rfl rfl (beq_tt H15)) rfl rfl ?_
          refine TO.y (Y.pick_t H15 rfl rfl) rfl rfl rfl ?_
          refine TO.nil ?_
          exact TE.jb_go () [0, 0, 0] ⟨rfl, rfl, rfl, rfl, rfl, trivial⟩ rfl
        · refine TO.off (Gd.at 5 true 19 (decide (S9 < ((x.List.length : Nat) : Int))) rfl rfl rfl (beq_ft H15)) rfl rfl ?_
          refine TO.off (Gd.at 5 true 19 (decide (S9 < ((x.List.length : Nat) : Int))) rfl rfl rfl (beq_ft H15)) rfl rfl ?_
          refine TO.off (Gd.at 5 true 19 (decide (S9 < ((x.List.length : Nat) : Int))) rfl rfl rfl (beq_ft H15)) rfl rfl ?_
          refine TO.off (Gd.at 5 true 19 (decide (S9 < ((x.List.length : Nat) : Int))) rfl rfl rfl (beq_ft H15)) rfl rfl ?_
          refine TO.y (Y.pick_f H15 rfl rfl) rfl rfl rfl ?_
          refine TO.nil ?_
          exact TE.jb_go () [0, 0, 0] ⟨rfl, rfl, rfl, rfl, rfl, trivial⟩ rfl
      · refine TE.next ?_
        refine TW.cond rfl (fun H19 => ?_) (fun H19 => ?_)
        · refine TW.skip ?_
          refine TE.next ?_
          refine TW.block ?_
          refine TW.region ?_
          refine TO.y (Y.move rfl) rfl rfl rfl ?_
          refine TO.y (Y.add rfl rfl) rfl rfl rfl ?_
          refine TO.y (Y.assign rfl) rfl rfl rfl ?_
          refine TO.nil ?_
          refine TE.block_normal ?_
          exact TE.lp_go () [0, 0, 0] ⟨rfl, rfl, rfl, rfl, trivial⟩ rfl
        · refine TW.exit ?_
          refine TE.then_exit ?_
          refine TE.lp_exit ?_
          refine TE.block_exit ?_
          exact TE.jn_go () [0, 0, 0] ⟨rfl, rfl, rfl, rfl, trivial⟩ rfl
    · refine TE.next ?_
      refine TW.seq ?_
      refine TW.region ?_
      refine TO.y (Y.load_box (v := .agg #[V_x0, strV x.From, strV x.To, .int .i64 x.At]) 0 kk28 rfl rfl rfl) rfl rfl rfl ?_
      refine TO.y (Y.move rfl) rfl rfl rfl ?_
      refine TO.y (Y.field_box kf28_0 rfl rfl) rfl rfl rfl ?_
      refine TO.y (Y.load_box (v := V_x0) 0 kk26 rfl rfl rfl) rfl rfl rfl ?_
      refine TO.y (Y.len (l := x.List) ke26 (Base.can HB_V_x0) rfl) rfl rfl rfl ?_
      refine TO.y (Y.min2 rfl rfl) rfl rfl rfl ?_
      refine TO.bind fun R20 H21 => ?_
      refine TO.ef (Ef.call (rest := [.box B1 28 [V_x0, strV x.From, strV x.To, .int .i64 x.At], .box B2 28 [.slice none 0 0, strV ([]), strV ([]), .int .i64 (0 : Int)], .box B3 30 [strV ([]), strV ([])]]) [0, 0, 0] (impl_moveTo_con x (goMin T11 ((x.List.length : Nat) : Int)) V_x0 R20 H21) kc41 rfl rfl ⟨(Base.can HB_V_x0), trivial⟩) rfl rfl rfl (fun Y22 => ?_)
      refine TO.y (Y.extract rfl rfl) rfl rfl rfl ?_
      refine TO.y (Y.extract rfl rfl) rfl rfl rfl ?_
      refine TO.y (Y.extract rfl rfl) rfl rfl rfl ?_
      refine TO.ef0 (Ef.store_box (us := [Y22, strV R20.1.From, strV R20.1.To, .int .i64 R20.1.At]) (vs' := [Y22, strV R20.1.From, strV R20.1.To, .int .i64 R20.1.At]) (is' := [.own Y22 (lc 30 R20.1.List), .box B1 28 [V_x0, strV x.From, strV x.To, .int .i64 x.At], .box B2 28 [Y22, strV R20.1.From, strV R20.1.To, .int .i64 R20.1.At], .box B3 30 [strV ([]), strV ([])]]) 2 kk28 rfl rfl rfl (Cel.agg ⟨(One.can (Can.own 0 rfl)), (One.plain rfl), (One.plain rfl), (One.plain rfl), trivial⟩) rfl rfl rfl rfl) rfl rfl (fun _ => ?_)
      refine TO.ef0 (Ef.store_box (us := [strV R20.2.1.Key, strV R20.2.1.Val]) (vs' := [strV R20.2.1.Key, strV R20.2.1.Val]) (is' := [.own Y22 (lc 30 R20.1.List), .box B1 28 [V_x0, strV x.From, strV x.To, .int .i64 x.At], .box B2 28 [Y22, strV R20.1.From, strV R20.1.To, .int .i64 R20.1.At], .box B3 30 [strV R20.2.1.Key, strV R20.2.1.Val]]) 3 kk30 rfl rfl rfl (Cel.plain rfl rfl) rfl rfl rfl rfl) rfl rfl (fun _ => ?_)
      refine TO.y (Y.assign rfl) rfl rfl rfl ?_
      refine TO.nil ?_
      refine TE.next ?_
      refine TW.ret ?_
      exact TE.leaf fun _ _ hf_ hs_ => ret_any (rs := [.cell 2 28, .cell 3 30, .tmp 4]) (vs := [.agg #[Y22, strV R20.1.From, strV R20.1.To, .int .i64 R20.1.At], .agg #[strV R20.2.1.Key, strV R20.2.1.Val], .bool R20.2.2]) (.inl rfl) rfl (RV.cell 2 rfl rfl kk28 rfl (RV.cell 3 rfl rfl kk30 rfl ⟨rfl, trivial⟩)) hf_ hs_ ⟨Y22, rfl, hs_.pulls [0] rfl⟩

/-- loop.example/g00950/laws.eqKV -/
noncomputable def laws_eqKV (a : KV) (b : KV) : Option Bool :=
  if (!(decide (a.Key = b.Key))) = true then (some false)
  else (if (!(decide (a.Val = b.Val))) = true then (some false)
  else (some true))

theorem laws_eqKV_con (a : KV) (b : KV)  (r : Bool) (hm : laws_eqKV a b = some r) :
    Con Try.prog 14 [.agg #[strV a.Key, strV a.Val], .agg #[strV b.Key, strV b.Val]] [] [] (fun _ : Unit => .bool r) (fun _ => []) := by
  refine Con.intro (args := [.agg #[strV a.Key, strV a.Val], .agg #[strV b.Key, strV b.Val]]) (n := 15) (val := fun r (_ : Unit) => .bool r) (post := fun _ _ => []) (m := laws_eqKV a b) Try.func14 rfl rfl rfl hm ?_
  intro w S _
  unfold laws_eqKV
  refine TW.seq ?_
  refine TW.region ?_
  refine TO.ef (Ef.box rfl (Cel.plain rfl rfl)) rfl rfl rfl (fun B1 => ?_)
  refine TO.ef (Ef.box rfl (Cel.plain rfl rfl)) rfl rfl rfl (fun B2 => ?_)
  refine TO.y (Y.assign rfl) rfl rfl rfl ?_
  refine TO.nil ?_
  refine TE.next ?_
  refine TW.seq ?_
  refine TW.seq ?_
  refine TW.region ?_
  refine TO.y (Y.field_box kf30_0 rfl rfl) rfl rfl rfl ?_
  refine TO.y (Y.load_box (v := strV a.Key) 1 kk9 rfl rfl rfl) rfl rfl rfl ?_
  refine TO.y (Y.field_box kf30_0 rfl rfl) rfl rfl rfl ?_
  refine TO.y (Y.load_box (v := strV b.Key) 0 kk9 rfl rfl rfl) rfl rfl rfl ?_
  refine TO.y (Y.sneq rfl rfl) rfl rfl rfl ?_
  refine TO.nil ?_
  refine TE.next ?_
  refine TW.cond rfl (fun H3 => ?_) (fun H3 => ?_)
  · refine TW.seq ?_
    refine TW.region ?_
    refine TO.y (Y.assign rfl) rfl rfl rfl ?_
    refine TO.nil ?_
    refine TE.next ?_
    refine TW.ret ?_
    refine TE.then_ret ?_
    exact TE.leaf fun _ _ hf_ hs_ => ret_any (rs := [.tmp 4]) (vs := [.bool false]) (.inl rfl) rfl ⟨rfl, trivial⟩ hf_ hs_ ⟨(), rfl, hs_.pulls [] rfl⟩
  · refine TW.skip ?_
    refine TE.next ?_
    refine TW.seq ?_
    refine TW.seq ?_
    refine TW.region ?_
    refine TO.y (Y.field_box kf30_1 rfl rfl) rfl rfl rfl ?_
    refine TO.y (Y.load_box (v := strV a.Val) 1 kk9 rfl rfl rfl) rfl rfl rfl ?_
    refine TO.y (Y.field_box kf30_1 rfl rfl) rfl rfl rfl ?_
    refine TO.y (Y.load_box (v := strV b.Val) 0 kk9 rfl rfl rfl) rfl rfl rfl ?_
    refine TO.y (Y.sneq rfl rfl) rfl rfl rfl ?_
    refine TO.nil ?_
    refine TE.next ?_
    refine TW.cond rfl (fun H4 => ?_) (fun H4 => ?_)
    · refine TW.seq ?_
      refine TW.region ?_
      refine TO.y (Y.assign rfl) rfl rfl rfl ?_
      refine TO.nil ?_
      refine TE.next ?_
      refine TW.ret ?_
      refine TE.then_ret ?_
      exact TE.leaf fun _ _ hf_ hs_ => ret_any (rs := [.tmp 4]) (vs := [.bool false]) (.inl rfl) rfl ⟨rfl, trivial⟩ hf_ hs_ ⟨(), rfl, hs_.pulls [] rfl⟩
    · refine TW.skip ?_
      refine TE.next ?_
      refine TW.seq ?_
      refine TW.region ?_
      refine TO.y (Y.assign rfl) rfl rfl rfl ?_
      refine TO.nil ?_
      refine TE.next ?_
      refine TW.ret ?_
      exact TE.leaf fun _ _ hf_ hs_ => ret_any (rs := [.tmp 4]) (vs := [.bool true]) (.inl rfl) rfl ⟨rfl, trivial⟩ hf_ hs_ ⟨(), rfl, hs_.pulls [] rfl⟩

/-- loop.example/g00950/laws.eqKVS -/
noncomputable def laws_eqKVS (a : List KV) (b : List KV) : Option Bool :=
  if (!(decide (((a.length : Nat) : Int) = ((b.length : Nat) : Int)))) = true then (some false)
  else (bindC (loopO (fun (S2 : Int) => if (decide (S2 < ((a.length : Nat) : Int))) = true then ((idx a S2).bind fun E7 =>
  (idx b S2).bind fun E9 =>
  (laws_eqKV E7 E9).bind fun R11 =>
  if (!R11) = true then (some (.done (.done false)))
  else (some (.go (IntKind.i64.wrap (S2 + (1 : Int))))))
  else (some (.done (.go ()))))
  (0 : Int))
  (fun (T4 : Unit) => some true))

theorem laws_eqKVS_con (a : List KV) (b : List KV) (V_a0 : Value) (V_b0 : Value) (r : Bool) (hm : laws_eqKVS a b = some r) :
    Con Try.prog 42 [V_a0, V_b0] [] [(V_a0, lc 30 a), (V_b0, lc 30 b)] (fun _ : Unit => .bool r) (fun _ => []) := by
  refine Con.intro (args := [V_a0, V_b0]) (n := 27) (val := fun r (_ : Unit) => .bool r) (post := fun _ _ => []) (m := laws_eqKVS a b) Try.func42 rfl rfl rfl hm ?_
  intro w S hrd
  have HB_V_a0 := hrd _ (.head _)
  have HB_V_b0 := hrd _ (.tail _ (.head _))
  clear hrd
  unfold laws_eqKVS
  refine TW.seq ?_
  refine TW.region ?_
  refine TO.y (Y.assign rfl) rfl rfl rfl ?_
  refine TO.nil ?_
  refine TE.next ?_
  refine TW.seq ?_
  refine TW.seq ?_
  refine TW.region ?_
  refine TO.y (Y.move rfl) rfl rfl rfl ?_
  refine TO.y (Y.len (l := a) ke26 (Base.can HB_V_a0) rfl) rfl rfl rfl ?_
  refine TO.y (Y.move rfl) rfl rfl rfl ?_
  refine TO.y (Y.len (l := b) ke26 (Base.can HB_V_b0) rfl) rfl rfl rfl ?_
  refine TO.y (Y.neq rfl rfl) rfl rfl rfl ?_
  refine TO.nil ?_
  refine TE.next ?_
  refine TW.cond rfl (fun H1 => ?_) (fun H1 => ?_)
  · refine TW.seq ?_
    refine TW.region ?_
    refine TO.y (Y.assign rfl) rfl rfl rfl ?_
    refine TO.nil ?_
    refine TE.next ?_
    refine TW.ret ?_
    refine TE.then_ret ?_
    exact TE.leaf fun _ _ hf_ hs_ => ret_any (rs := [.tmp 4]) (vs := [.bool false]) (.inl rfl) rfl ⟨rfl, trivial⟩ hf_ hs_ ⟨(), rfl, hs_.pulls [] rfl⟩
  · refine TW.skip ?_
    refine TE.next ?_
    refine TW.seq ?_
    refine TW.seq ?_
    refine TW.region ?_
    refine TO.y (Y.assign rfl) rfl rfl rfl ?_
    refine TO.nil ?_
    refine TE.next ?_
    refine TW.joinX (τ := Unit) (X := Unit) (fun _ _ => []) (fun _ _ => []) ?_ (fun T4 X5 => ?_)
    · refine TW.block ?_
      refine TW.loopX (σ := Int) (X := Unit) (fun T _ => [(0, V_a0), (1, V_b0), (5, .int .i64 T)]) (fun _ _ => []) () [] ⟨rfl, rfl, rfl, trivial⟩ rfl (fun S2 X3 => ?_)
      refine TW.seq ?_
      refine TW.seq ?_
      refine TW.region ?_
      refine TO.y (Y.move rfl) rfl rfl rfl ?_
      refine TO.y (Y.move rfl) rfl rfl rfl ?_
      refine TO.y (Y.len (l := a) ke26 (Base.can HB_V_a0) rfl) rfl rfl rfl ?_
      refine TO.y (Y.lss rfl rfl) rfl rfl rfl ?_
      refine TO.nil ?_
      refine TE.next ?_
      refine TW.cond rfl (fun H6 => ?_) (fun H6 => ?_)
      · refine TW.skip ?_
        refine TE.next ?_
        refine TW.seq ?_
        refine TW.block ?_
        refine TW.seq ?_
        refine TW.draw (isH := []) hMix ?_
        refine TA.y (listed' := #[true, false, false, false, false, false, false, false, false, false]) 0 [] rfl (Y.move rfl) rfl rfl rfl (by kernel_rfl) (by kernel_rfl) (by kernel_rfl) rfl rfl ?_
        refine TA.y (listed' := #[true, true, false, false, false, false, false, false, false, false]) 1 [] rfl (Y.move rfl) rfl rfl rfl (by kernel_rfl) (by kernel_rfl) (by kernel_rfl) rfl rfl ?_
        refine TA.bind fun E7 H8 => ?_
        refine TA.y (listed' := #[true, true, true, false, false, false, false, false, false, false]) 2 [] rfl (Y.index ke26 (Base.can HB_V_a0) H8 rfl rfl) rfl rfl rfl (by kernel_rfl) (by kernel_rfl) (by kernel_rfl) rfl rfl ?_
        refine TA.y (listed' := #[true, true, true, true, false, false, false, false, false, false]) 3 [] rfl (Y.load_el (us := [strV E7.Key, strV E7.Val]) (u := .agg #[strV E7.Key, strV E7.Val]) kk30 rfl (Base.can HB_V_a0) (idx_get H8).2.2 rfl rfl rfl rfl rfl) rfl rfl rfl (by kernel_rfl) (by kernel_rfl) (by kernel_rfl) rfl rfl ?_
        refine TA.y (listed' := #[true, true, true, true, true, false, false, false, false, false]) 4 [] rfl (Y.move rfl) rfl rfl rfl (by kernel_rfl) (by kernel_rfl) (by kernel_rfl) rfl rfl ?_
        refine TA.y (listed' := #[true, true, true, true, true, true, false, false, false, false]) 5 [] rfl (Y.move rfl) rfl rfl rfl (by kernel_rfl) (by kernel_rfl) (by kernel_rfl) rfl rfl ?_
        refine TA.bind fun E9 H10 => ?_
        refine TA.y (listed' := #[true, true, true, true, true, true, true, false, false, false]) 6 [] rfl (Y.index ke26 (Base.can HB_V_b0) H10 rfl rfl) rfl rfl rfl (by kernel_rfl) (by kernel_rfl) (by kernel_rfl) rfl rfl ?_
        refine TA.y (listed' := #[true, true, true, true, true, true, true, true, false, false]) 7 [] rfl (Y.load_el (us := [strV E9.Key, strV E9.Val]) (u := .agg #[strV E9.Key, strV E9.Val]) kk30 rfl (Base.can HB_V_b0) (idx_get H10).2.2 rfl rfl rfl rfl rfl) rfl rfl rfl (by kernel_rfl) (by kernel_rfl) (by kernel_rfl) rfl rfl ?_
        refine TA.bind fun R11 H12 => ?_
        refine TA.one 8 (by kernel_rfl) ?_
        refine TX.ef (listed' := #[true, true, true, true, true, true, true, true, true, false]) [] rfl (Ef.call (rest := []) [] (laws_eqKV_con E7 E9  R11 H12) kc14 rfl rfl trivial) rfl rfl rfl rfl (fun _ => rfl) (fun _ => ?_)
        refine TA.y (listed' := #[true, true, true, true, true, true, true, true, true, true]) 9 [] rfl (Y.not rfl) rfl rfl rfl (by kernel_rfl) (by kernel_rfl) (by kernel_rfl) rfl rfl ?_
        refine TA.nil (by kernel_rfl) ?_
        refine TE.next ?_
        refine TW.cond rfl (fun H14 => ?_) (fun H14 => ?_)
        · refine TW.seq ?_
          refine TW.region ?_
          refine TO.y (Y.assign rfl) rfl rfl rfl ?_
          refine TO.nil ?_
          refine TE.next ?_
          refine TW.ret ?_
          refine TE.block_ret ?_
          refine TE.then_ret ?_
          refine TE.lp_ret ?_
          refine TE.block_ret ?_
          refine TE.jn_done ?_
          refine TE.then_ret ?_
          exact TE.leaf fun _ _ hf_ hs_ => ret_any (rs := [.tmp 4]) (vs := [.bool false]) (.inl rfl) rfl ⟨rfl, trivial⟩ hf_ hs_ ⟨(), rfl, hs_.pulls [] rfl⟩
        · refine TW.skip ?_
          refine TE.block_normal ?_
          refine TE.next ?_
          refine TW.region ?_
          refine TO.y (Y.move rfl) rfl rfl rfl ?_
          refine TO.y (Y.add rfl rfl) rfl rfl rfl ?_
          refine TO.y (Y.assign rfl) rfl rfl rfl ?_
          refine TO.nil ?_
          exact TE.lp_go () [] ⟨rfl, rfl, rfl, trivial⟩ rfl
      · refine TW.exit ?_
        refine TE.then_exit ?_
        refine TE.lp_exit ?_
        refine TE.block_exit ?_
        exact TE.jn_go () [] trivial rfl
    · refine TE.next ?_
      refine TW.seq ?_
      refine TW.region ?_
      refine TO.y (Y.assign rfl) rfl rfl rfl ?_
      refine TO.nil ?_
      refine TE.next ?_
      refine TW.ret ?_
      exact TE.leaf fun _ _ hf_ hs_ => ret_any (rs := [.tmp 4]) (vs := [.bool true]) (.inl rfl) rfl ⟨rfl, trivial⟩ hf_ hs_ ⟨(), rfl, hs_.pulls [] rfl⟩

end Go.Proofs.Ytpfndjojoikkgab
