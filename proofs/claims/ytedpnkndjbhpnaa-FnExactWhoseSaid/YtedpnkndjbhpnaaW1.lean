/-
  The functions that a law reaches, each as a pure function, with the proof that the program computes it, and the step from a pure law to the given statement. Conditions: none.
-/
import Derived.Test.YtedpnkndjbhpnaaSw
import Derived.Test.YtedpnkndjbhpnaaRows
set_option linter.unusedVariables false
set_option maxRecDepth 100000
set_option maxHeartbeats 4000000
namespace Go.Proofs.Ytedpnkndjbhpnaa
open Go Sl

structure Op where
  Key : List UInt8
  Del : Bool
  Val : List UInt8
  deriving DecidableEq
instance : Enc Op := ⟨3, fun x => [.str x.Key, .bool x.Del, .str x.Val], fun _ => rfl, by decide⟩
instance : Dec Op where
  sh := [.str, .bool, .str]
  ok x := x.Key.length ≤ 9223372036854775807 ∧ True ∧ x.Val.length ≤ 9223372036854775807
  dec cs h := by
    obtain ⟨c0, r0, rfl, h0, h⟩ := h.cons_inv
    obtain ⟨c1, r1, rfl, h1, h⟩ := h.cons_inv
    obtain ⟨c2, r2, rfl, h2, h⟩ := h.cons_inv
    obtain rfl := h.nil_inv
    obtain ⟨y0, rfl, w0⟩ := h0.str_inv
    obtain ⟨y1, rfl⟩ := h1.bool_inv
    have w1 := True.intro
    obtain ⟨y2, rfl, w2⟩ := h2.str_inv
    exact ⟨{ Key := y0, Del := y1, Val := y2 : Op }, rfl, w0, w1, w2⟩
instance : Flat Op := { vals := fun x => [strV x.Key, .bool x.Del, strV x.Val], flat := fun _ => rfl }
structure Call where
  Kind : Int
  Token : List UInt8
  Tenant : Int
  N : Int
  Key : List UInt8
  To : List UInt8
  Ops : List Op
  deriving DecidableEq
instance : Enc Call := ⟨7, fun x => [.int .i64 x.Kind, .str x.Token, .int .i64 x.Tenant, .int .i64 x.N, .str x.Key, .str x.To, lc x.Ops], fun _ => rfl, by decide⟩
instance : Dec Call where
  sh := [.int .i64, .str, .int .i64, .int .i64, .str, .str, .sl 3 (Dec.sh Op)]
  ok x := okI x.Kind ∧ x.Token.length ≤ 9223372036854775807 ∧ okI x.Tenant ∧ okI x.N ∧ x.Key.length ≤ 9223372036854775807 ∧ x.To.length ≤ 9223372036854775807 ∧ okl x.Ops
  dec cs h := by
    obtain ⟨c0, r0, rfl, h0, h⟩ := h.cons_inv
    obtain ⟨c1, r1, rfl, h1, h⟩ := h.cons_inv
    obtain ⟨c2, r2, rfl, h2, h⟩ := h.cons_inv
    obtain ⟨c3, r3, rfl, h3, h⟩ := h.cons_inv
    obtain ⟨c4, r4, rfl, h4, h⟩ := h.cons_inv
    obtain ⟨c5, r5, rfl, h5, h⟩ := h.cons_inv
    obtain ⟨c6, r6, rfl, h6, h⟩ := h.cons_inv
    obtain rfl := h.nil_inv
    obtain ⟨y0, rfl, w0_⟩ := h0.int_inv
    have w0 := okI_of w0_
    obtain ⟨y1, rfl, w1⟩ := h1.str_inv
    obtain ⟨y2, rfl, w2_⟩ := h2.int_inv
    have w2 := okI_of w2_
    obtain ⟨y3, rfl, w3_⟩ := h3.int_inv
    have w3 := okI_of w3_
    obtain ⟨y4, rfl, w4⟩ := h4.str_inv
    obtain ⟨y5, rfl, w5⟩ := h5.str_inv
    obtain ⟨y6, rfl, w6⟩ := h6.sl_inv (α := Op) rfl
    exact ⟨{ Kind := y0, Token := y1, Tenant := y2, N := y3, Key := y4, To := y5, Ops := y6 : Call }, rfl, w0, w1, w2, w3, w4, w5, w6⟩
structure Reader where
  text : List UInt8
  at_ : Int
  bad : Bool
  deriving DecidableEq
instance : Enc Reader := ⟨3, fun x => [.str x.text, .int .i64 x.at_, .bool x.bad], fun _ => rfl, by decide⟩
instance : Dec Reader where
  sh := [.str, .int .i64, .bool]
  ok x := x.text.length ≤ 9223372036854775807 ∧ okI x.at_ ∧ True
  dec cs h := by
    obtain ⟨c0, r0, rfl, h0, h⟩ := h.cons_inv
    obtain ⟨c1, r1, rfl, h1, h⟩ := h.cons_inv
    obtain ⟨c2, r2, rfl, h2, h⟩ := h.cons_inv
    obtain rfl := h.nil_inv
    obtain ⟨y0, rfl, w0⟩ := h0.str_inv
    obtain ⟨y1, rfl, w1_⟩ := h1.int_inv
    have w1 := okI_of w1_
    obtain ⟨y2, rfl⟩ := h2.bool_inv
    have w2 := True.intro
    exact ⟨{ text := y0, at_ := y1, bad := y2 : Reader }, rfl, w0, w1, w2⟩
instance : Flat Reader := { vals := fun x => [strV x.text, .int .i64 x.at_, .bool x.bad], flat := fun _ => rfl }

theorem hMix : Try.prog.follows .mixedOrders = true := by kernel_rfl
theorem kf71_0 : fieldB Try.prog 71 0 = some 0 := by kernel_rfl
theorem kk9 : kindB Try.prog 9 = some (false, 1) := by kernel_rfl
theorem ks9 : isStrB Try.prog 9 = true := by kernel_rfl
theorem kf71_2 : fieldB Try.prog 71 2 = some 2 := by kernel_rfl
theorem ke22 : elemB Try.prog 22 = some (71, 3, 40) := by kernel_rfl
theorem kk71 : kindB Try.prog 71 = some (true, 3) := by kernel_rfl
theorem kc41 : callB Try.prog 41 = true := by kernel_rfl
theorem kf24_1 : fieldB Try.prog 24 1 = some 1 := by kernel_rfl
theorem kf24_4 : fieldB Try.prog 24 4 = some 4 := by kernel_rfl
theorem kf24_5 : fieldB Try.prog 24 5 = some 5 := by kernel_rfl
theorem kf24_6 : fieldB Try.prog 24 6 = some 6 := by kernel_rfl
theorem kk22 : kindB Try.prog 22 = some (false, 1) := by kernel_rfl
theorem kc25 : callB Try.prog 25 = true := by kernel_rfl
theorem kz76 : zeroB Try.prog 76 = some (.agg #[strV ([]), .bool false, strV ([])]) := by kernel_rfl
theorem kf76_0 : fieldB Try.prog 76 0 = some 0 := by kernel_rfl
theorem kf71_1 : fieldB Try.prog 71 1 = some 1 := by kernel_rfl
theorem kk4 : kindB Try.prog 4 = some (false, 1) := by kernel_rfl
theorem kf76_1 : fieldB Try.prog 76 1 = some 1 := by kernel_rfl
theorem kf76_2 : fieldB Try.prog 76 2 = some 2 := by kernel_rfl
theorem kk76 : kindB Try.prog 76 = some (true, 3) := by kernel_rfl
theorem ke27 : elemB Try.prog 27 = some (76, 3, 40) := by kernel_rfl
theorem kc44 : callB Try.prog 44 = true := by kernel_rfl
theorem kz29 : zeroB Try.prog 29 = some (.agg #[.int .i64 (0 : Int), strV ([]), .int .i64 (0 : Int), .int .i64 (0 : Int), strV ([]), strV ([]), .slice none 0 0]) := by kernel_rfl
theorem kf24_0 : fieldB Try.prog 24 0 = some 0 := by kernel_rfl
theorem kk3 : kindB Try.prog 3 = some (false, 1) := by kernel_rfl
theorem kf29_0 : fieldB Try.prog 29 0 = some 0 := by kernel_rfl
theorem kf29_1 : fieldB Try.prog 29 1 = some 1 := by kernel_rfl
theorem kf24_2 : fieldB Try.prog 24 2 = some 2 := by kernel_rfl
theorem kf29_2 : fieldB Try.prog 29 2 = some 2 := by kernel_rfl
theorem kf24_3 : fieldB Try.prog 24 3 = some 3 := by kernel_rfl
theorem kf29_3 : fieldB Try.prog 29 3 = some 3 := by kernel_rfl
theorem kf29_4 : fieldB Try.prog 29 4 = some 4 := by kernel_rfl
theorem kf29_5 : fieldB Try.prog 29 5 = some 5 := by kernel_rfl
theorem kc28 : callB Try.prog 28 = true := by kernel_rfl
theorem kf29_6 : fieldB Try.prog 29 6 = some 6 := by kernel_rfl
theorem kk27 : kindB Try.prog 27 = some (false, 1) := by kernel_rfl
theorem kk29 : kindB Try.prog 29 = some (true, 7) := by kernel_rfl
theorem kc27 : callB Try.prog 27 = true := by kernel_rfl
theorem kz5 : zeroB Try.prog 5 = some (.int .u8 (0 : Int)) := by kernel_rfl
theorem ke83 : elemB Try.prog 83 = some (5, 1, 1) := by kernel_rfl
theorem ki3 : intB Try.prog 3 = some .i64 := by kernel_rfl
theorem ki5 : intB Try.prog 5 = some .u8 := by kernel_rfl
theorem kc55 : callB Try.prog 55 = true := by kernel_rfl
theorem kz3 : zeroB Try.prog 3 = some (.int .i64 (0 : Int)) := by kernel_rfl
theorem ke72 : elemB Try.prog 72 = some (3, 1, 8) := by kernel_rfl
theorem kc54 : callB Try.prog 54 = true := by kernel_rfl
theorem kc68 : callB Try.prog 68 = true := by kernel_rfl
theorem kc75 : callB Try.prog 75 = true := by kernel_rfl
theorem kc78 : callB Try.prog 78 = true := by kernel_rfl
theorem kc73 : callB Try.prog 73 = true := by kernel_rfl
theorem kc74 : callB Try.prog 74 = true := by kernel_rfl
theorem kc67 : callB Try.prog 67 = true := by kernel_rfl
theorem kc57 : callB Try.prog 57 = true := by kernel_rfl
theorem kc56 : callB Try.prog 56 = true := by kernel_rfl
theorem kc42 : callB Try.prog 42 = true := by kernel_rfl
theorem kc43 : callB Try.prog 43 = true := by kernel_rfl
theorem kc26 : callB Try.prog 26 = true := by kernel_rfl
theorem kc45 : callB Try.prog 45 = true := by kernel_rfl
theorem ki98 : intB Try.prog 98 = some .u64 := by kernel_rfl
theorem kf79_2 : fieldB Try.prog 79 2 = some 2 := by kernel_rfl
theorem kf79_0 : fieldB Try.prog 79 0 = some 0 := by kernel_rfl
theorem kf79_1 : fieldB Try.prog 79 1 = some 1 := by kernel_rfl
theorem kc58 : callB Try.prog 58 = true := by kernel_rfl
theorem kk5 : kindB Try.prog 5 = some (false, 1) := by kernel_rfl
theorem kc72 : callB Try.prog 72 = true := by kernel_rfl
theorem ki100 : intB Try.prog 100 = some .u32 := by kernel_rfl
theorem kz101 : zeroB Try.prog 101 = some (arrV (List.replicate 16 (Wrd.mk 0))) := by kernel_rfl
theorem ka101 : arrB Try.prog 101 = some (16, 100, 1) := by kernel_rfl
theorem kk101 : kindB Try.prog 101 = some (true, 16) := by kernel_rfl
theorem kc76 : callB Try.prog 76 = true := by kernel_rfl
theorem kk100 : kindB Try.prog 100 = some (false, 1) := by kernel_rfl
theorem kc77 : callB Try.prog 77 = true := by kernel_rfl
theorem kc69 : callB Try.prog 69 = true := by kernel_rfl
theorem kc70 : callB Try.prog 70 = true := by kernel_rfl
theorem kc71 : callB Try.prog 71 = true := by kernel_rfl
theorem kc59 : callB Try.prog 59 = true := by kernel_rfl
theorem kc60 : callB Try.prog 60 = true := by kernel_rfl
theorem kc61 : callB Try.prog 61 = true := by kernel_rfl
theorem kc63 : callB Try.prog 63 = true := by kernel_rfl
theorem kc62 : callB Try.prog 62 = true := by kernel_rfl
theorem kz79 : zeroB Try.prog 79 = some (.agg #[strV ([]), .int .i64 (0 : Int), .bool false]) := by kernel_rfl
theorem kp79 : placesB Try.prog 79 = some [(0, 1), (1, 1), (2, 1)] := by kernel_rfl
theorem kk79 : kindB Try.prog 79 = some (true, 3) := by kernel_rfl
theorem kc46 : callB Try.prog 46 = true := by kernel_rfl
theorem kc47 : callB Try.prog 47 = true := by kernel_rfl
theorem kc48 : callB Try.prog 48 = true := by kernel_rfl
theorem kc49 : callB Try.prog 49 = true := by kernel_rfl
theorem kc29 : callB Try.prog 29 = true := by kernel_rfl
theorem kc30 : callB Try.prog 30 = true := by kernel_rfl
theorem kb4 : Try.prog.underlying 4 = some .bool := by kernel_rfl
theorem kc50 : callB Try.prog 50 = true := by kernel_rfl
theorem kc31 : callB Try.prog 31 = true := by kernel_rfl
theorem kk24 : kindB Try.prog 24 = some (true, 7) := by kernel_rfl
theorem kc6 : callB Try.prog 6 = true := by kernel_rfl
theorem kc8 : callB Try.prog 8 = true := by kernel_rfl
theorem kc7 : callB Try.prog 7 = true := by kernel_rfl
theorem kc9 : callB Try.prog 9 = true := by kernel_rfl
theorem kc10 : callB Try.prog 10 = true := by kernel_rfl
theorem hu9 : Try.prog.underlying 9 = some (.string) := by kernel_rfl
theorem hs9 : shB Try.prog 20 9 = some ([.str]) := by kernel_rfl
theorem hu24 : Try.prog.underlying 24 = some (.struct #[⟨ "Kind", 3, 0, Bool.false, "", "", 0⟩, ⟨ "Token", 9, 1, Bool.false, "", "", 8⟩, ⟨ "Tenant", 3, 2, Bool.false, "", "", 24⟩, ⟨ "N", 3, 3, Bool.false, "", "", 32⟩, ⟨ "Key", 9, 4, Bool.false, "", "", 40⟩, ⟨ "To", 9, 5, Bool.false, "", "", 56⟩, ⟨ "Ops", 22, 6, Bool.false, "", "", 72⟩]) := by kernel_rfl
theorem hs24 : shB Try.prog 20 24 = some (Dec.sh Call) := by kernel_rfl

/-- loop.example/g00950/laws.szOp -/
noncomputable def laws_szOp (a : Op) (left : Int) : Option Int :=
  if (decide (IntKind.i64.wrap (left - ((a.Key.length : Nat) : Int)) < (0 : Int))) = true then (some (-1 : Int))
  else (if (decide (IntKind.i64.wrap (IntKind.i64.wrap (left - ((a.Key.length : Nat) : Int)) - ((a.Val.length : Nat) : Int)) < (0 : Int))) = true then (some (-1 : Int))
  else (some (IntKind.i64.wrap (IntKind.i64.wrap (left - ((a.Key.length : Nat) : Int)) - ((a.Val.length : Nat) : Int)))))

theorem laws_szOp_con (a : Op) (left : Int)  (r : Int) (hm : laws_szOp a left = some r) :
    Con Try.prog 41 [.agg #[strV a.Key, .bool a.Del, strV a.Val], .int .i64 left] [] [] (fun _ : Unit => .int .i64 r) (fun _ => []) := by
  refine Con.intro (args := [.agg #[strV a.Key, .bool a.Del, strV a.Val], .int .i64 left]) (n := 20) (val := fun r (_ : Unit) => .int .i64 r) (post := fun _ _ => []) (m := laws_szOp a left) Try.func41 rfl rfl rfl hm ?_
  intro w S _
  unfold laws_szOp
  refine TW.seq ?_
  refine TW.region ?_
  refine TO.ef (Ef.box rfl (Cel.plain rfl rfl)) rfl rfl rfl (fun B1 => ?_)
  refine TO.y (Y.assign rfl) rfl rfl rfl ?_
  refine TO.nil ?_
  refine TE.next ?_
  refine TW.seq ?_
  refine TW.region ?_
  refine TO.y (Y.move rfl) rfl rfl rfl ?_
  refine TO.y (Y.field_box kf71_0 rfl rfl) rfl rfl rfl ?_
  refine TO.y (Y.load_box (v := strV a.Key) 0 kk9 rfl rfl rfl) rfl rfl rfl ?_
  refine TO.y (Y.slen ks9 rfl) rfl rfl rfl ?_
  refine TO.y (Y.sub rfl rfl) rfl rfl rfl ?_
  refine TO.y (Y.assign rfl) rfl rfl rfl ?_
  refine TO.nil ?_
  refine TE.next ?_
  refine TW.seq ?_
  refine TW.seq ?_
  refine TW.region ?_
  refine TO.y (Y.move rfl) rfl rfl rfl ?_
  refine TO.y (Y.lss rfl rfl) rfl rfl rfl ?_
  refine TO.nil ?_
  refine TE.next ?_
  refine TW.cond rfl (fun H2 => ?_) (fun H2 => ?_)
  · refine TW.seq ?_
    refine TW.region ?_
    refine TO.y (Y.assign rfl) rfl rfl rfl ?_
    refine TO.nil ?_
    refine TE.next ?_
    refine TW.ret ?_
    refine TE.then_ret ?_
    exact TE.leaf fun _ _ hf_ hs_ => ret_any (rs := [.tmp 4]) (vs := [.int .i64 (-1 : Int)]) (.inl rfl) rfl ⟨rfl, trivial⟩ hf_ hs_ ⟨(), rfl, hs_.pulls [] rfl⟩
  · refine TW.skip ?_
    refine TE.next ?_
    refine TW.seq ?_
    refine TW.region ?_
    refine TO.y (Y.move rfl) rfl rfl rfl ?_
    refine TO.y (Y.field_box kf71_2 rfl rfl) rfl rfl rfl ?_
    refine TO.y (Y.load_box (v := strV a.Val) 0 kk9 rfl rfl rfl) rfl rfl rfl ?_
    refine TO.y (Y.slen ks9 rfl) rfl rfl rfl ?_
    refine TO.y (Y.sub rfl rfl) rfl rfl rfl ?_
    refine TO.y (Y.assign rfl) rfl rfl rfl ?_
    refine TO.nil ?_
    refine TE.next ?_
    refine TW.seq ?_
    refine TW.seq ?_
    refine TW.region ?_
    refine TO.y (Y.move rfl) rfl rfl rfl ?_
    refine TO.y (Y.lss rfl rfl) rfl rfl rfl ?_
    refine TO.nil ?_
    refine TE.next ?_
    refine TW.cond rfl (fun H3 => ?_) (fun H3 => ?_)
    · refine TW.seq ?_
      refine TW.region ?_
      refine TO.y (Y.assign rfl) rfl rfl rfl ?_
      refine TO.nil ?_
      refine TE.next ?_
      refine TW.ret ?_
      refine TE.then_ret ?_
      exact TE.leaf fun _ _ hf_ hs_ => ret_any (rs := [.tmp 4]) (vs := [.int .i64 (-1 : Int)]) (.inl rfl) rfl ⟨rfl, trivial⟩ hf_ hs_ ⟨(), rfl, hs_.pulls [] rfl⟩
    · refine TW.skip ?_
      refine TE.next ?_
      refine TW.seq ?_
      refine TW.region ?_
      refine TO.y (Y.move rfl) rfl rfl rfl ?_
      refine TO.y (Y.assign rfl) rfl rfl rfl ?_
      refine TO.nil ?_
      refine TE.next ?_
      refine TW.ret ?_
      exact TE.leaf fun _ _ hf_ hs_ => ret_any (rs := [.tmp 4]) (vs := [.int .i64 (IntKind.i64.wrap (IntKind.i64.wrap (left - ((a.Key.length : Nat) : Int)) - ((a.Val.length : Nat) : Int)))]) (.inl rfl) rfl ⟨rfl, trivial⟩ hf_ hs_ ⟨(), rfl, hs_.pulls [] rfl⟩

/-- loop.example/g00950/laws.szOpS -/
noncomputable def laws_szOpS (a : List Op) (left : Int) : Option Int :=
  if (decide (IntKind.i64.wrap (left - ((a.length : Nat) : Int)) < (0 : Int))) = true then (some (-1 : Int))
  else (bindC (loopO (fun (S2 : Int × Int) => if (decide (S2.2 < ((a.length : Nat) : Int))) = true then ((idx a S2.2).bind fun E7 =>
  (laws_szOp E7 S2.1).bind fun R9 =>
  if (decide (R9 < (0 : Int))) = true then (some (.done (.done (-1 : Int))))
  else (some (.go (R9, IntKind.i64.wrap (S2.2 + (1 : Int))))))
  else (some (.done (.go S2.1))))
  (IntKind.i64.wrap (left - ((a.length : Nat) : Int)), (0 : Int)))
  (fun (T4 : Int) => some T4))

theorem laws_szOpS_con (a : List Op) (left : Int) (V_a0 : Value) (r : Int) (hm : laws_szOpS a left = some r) :
    Con Try.prog 25 [V_a0, .int .i64 left] [] [(V_a0, lc a)] (fun _ : Unit => .int .i64 r) (fun _ => []) := by
  refine Con.intro (args := [V_a0, .int .i64 left]) (n := 27) (val := fun r (_ : Unit) => .int .i64 r) (post := fun _ _ => []) (m := laws_szOpS a left) Try.func25 rfl rfl rfl hm ?_
  intro w S hrd
  have HB_V_a0 := hrd _ (.head _)
  clear hrd
  unfold laws_szOpS
  refine TW.seq ?_
  refine TW.region ?_
  refine TO.y (Y.assign rfl) rfl rfl rfl ?_
  refine TO.nil ?_
  refine TE.next ?_
  refine TW.seq ?_
  refine TW.region ?_
  refine TO.y (Y.move rfl) rfl rfl rfl ?_
  refine TO.y (Y.move rfl) rfl rfl rfl ?_
  refine TO.y (Y.len (l := a) ke22 (Base.can HB_V_a0) rfl) rfl rfl rfl ?_
  refine TO.y (Y.sub rfl rfl) rfl rfl rfl ?_
  refine TO.y (Y.assign rfl) rfl rfl rfl ?_
  refine TO.nil ?_
  refine TE.next ?_
  refine TW.seq ?_
  refine TW.seq ?_
  refine TW.region ?_
  refine TO.y (Y.move rfl) rfl rfl rfl ?_
  refine TO.y (Y.lss rfl rfl) rfl rfl rfl ?_
  refine TO.nil ?_
  refine TE.next ?_
  refine TW.cond rfl (fun H1 => ?_) (fun H1 => ?_)
  · refine TW.seq ?_
    refine TW.region ?_
    refine TO.y (Y.assign rfl) rfl rfl rfl ?_
    refine TO.nil ?_
    refine TE.next ?_
    refine TW.ret ?_
    refine TE.then_ret ?_
    exact TE.leaf fun _ _ hf_ hs_ => ret_any (rs := [.tmp 4]) (vs := [.int .i64 (-1 : Int)]) (.inl rfl) rfl ⟨rfl, trivial⟩ hf_ hs_ ⟨(), rfl, hs_.pulls [] rfl⟩
  · refine TW.skip ?_
    refine TE.next ?_
    refine TW.seq ?_
    refine TW.seq ?_
    refine TW.region ?_
    refine TO.y (Y.assign rfl) rfl rfl rfl ?_
    refine TO.nil ?_
    refine TE.next ?_
    refine TW.joinX (τ := Int) (X := Unit) (fun T _ => [(1, .int .i64 T)]) (fun _ _ => []) ?_ (fun T4 X5 => ?_)
    · refine TW.block ?_
      refine TW.loopX (σ := Int × Int) (X := Unit) (fun T _ => [(0, V_a0), (1, .int .i64 T.1), (5, .int .i64 T.2)]) (fun _ _ => []) () [] ⟨rfl, rfl, rfl, trivial⟩ rfl (fun S2 X3 => ?_)
      refine TW.seq ?_
      refine TW.seq ?_
      refine TW.region ?_
      refine TO.y (Y.move rfl) rfl rfl rfl ?_
      refine TO.y (Y.move rfl) rfl rfl rfl ?_
      refine TO.y (Y.len (l := a) ke22 (Base.can HB_V_a0) rfl) rfl rfl rfl ?_
      refine TO.y (Y.lss rfl rfl) rfl rfl rfl ?_
      refine TO.nil ?_
      refine TE.next ?_
      refine TW.cond rfl (fun H6 => ?_) (fun H6 => ?_)
      · refine TW.skip ?_
        refine TE.next ?_
        refine TW.seq ?_
        refine TW.block ?_
        refine TW.seq ?_
        refine TW.region ?_
        refine TO.y (Y.move rfl) rfl rfl rfl ?_
        refine TO.y (Y.move rfl) rfl rfl rfl ?_
        refine TO.bind fun E7 H8 => ?_
        refine TO.y (Y.index ke22 (Base.can HB_V_a0) H8 rfl rfl) rfl rfl rfl ?_
        refine TO.y (Y.load_el (us := [strV E7.Key, .bool E7.Del, strV E7.Val]) (u := .agg #[strV E7.Key, .bool E7.Del, strV E7.Val]) kk71 rfl (Base.can HB_V_a0) (idx_get H8).2.2 rfl rfl rfl rfl rfl) rfl rfl rfl ?_
        refine TO.y (Y.move rfl) rfl rfl rfl ?_
        refine TO.bind fun R9 H10 => ?_
        refine TO.ef (Ef.call (rest := []) [] (laws_szOp_con E7 S2.1  R9 H10) kc41 rfl rfl trivial) rfl rfl rfl (fun _ => ?_)
        refine TO.y (Y.assign rfl) rfl rfl rfl ?_
        refine TO.nil ?_
        refine TE.next ?_
        refine TW.seq ?_
        refine TW.region ?_
        refine TO.y (Y.move rfl) rfl rfl rfl ?_
        refine TO.y (Y.lss rfl rfl) rfl rfl rfl ?_
        refine TO.nil ?_
        refine TE.next ?_
        refine TW.cond rfl (fun H12 => ?_) (fun H12 => ?_)
        · refine TW.seq ?_
          refine TW.region ?_
          refine TO.y (Y.assign rfl) rfl rfl rfl ?_
          refine TO.nil ?_
          refine TE.next ?_
          refine TW.ret ?_
          refine TE.block_ret ?_
          refine TE.then_ret ?_
          refine TE.lp_ret ?_
          refine TE.block_ret ?_
          refine TE.jn_done ?_
          refine TE.then_ret ?_
          exact TE.leaf fun _ _ hf_ hs_ => ret_any (rs := [.tmp 4]) (vs := [.int .i64 (-1 : Int)]) (.inl rfl) rfl ⟨rfl, trivial⟩ hf_ hs_ ⟨(), rfl, hs_.pulls [] rfl⟩
        · refine TW.skip ?_
          refine TE.block_normal ?_
          refine TE.next ?_
          refine TW.region ?_
          refine TO.y (Y.move rfl) rfl rfl rfl ?_
          refine TO.y (Y.add rfl rfl) rfl rfl rfl ?_
          refine TO.y (Y.assign rfl) rfl rfl rfl ?_
          refine TO.nil ?_
          exact TE.lp_go () [] ⟨rfl, rfl, rfl, trivial⟩ rfl
      · refine TW.exit ?_
        refine TE.then_exit ?_
        refine TE.lp_exit ?_
        refine TE.block_exit ?_
        exact TE.jn_go () [] ⟨rfl, trivial⟩ rfl
    · refine TE.next ?_
      refine TW.seq ?_
      refine TW.region ?_
      refine TO.y (Y.move rfl) rfl rfl rfl ?_
      refine TO.y (Y.assign rfl) rfl rfl rfl ?_
      refine TO.nil ?_
      refine TE.next ?_
      refine TW.ret ?_
      exact TE.leaf fun _ _ hf_ hs_ => ret_any (rs := [.tmp 4]) (vs := [.int .i64 T4]) (.inl rfl) rfl ⟨rfl, trivial⟩ hf_ hs_ ⟨(), rfl, hs_.pulls [] rfl⟩

/-- loop.example/g00950/laws.szCall -/
noncomputable def laws_szCall (a : Call) (left : Int) : Option Int :=
  if (decide (IntKind.i64.wrap (left - ((a.Token.length : Nat) : Int)) < (0 : Int))) = true then (some (-1 : Int))
  else (if (decide (IntKind.i64.wrap (IntKind.i64.wrap (left - ((a.Token.length : Nat) : Int)) - ((a.Key.length : Nat) : Int)) < (0 : Int))) = true then (some (-1 : Int))
  else (if (decide (IntKind.i64.wrap (IntKind.i64.wrap (IntKind.i64.wrap (left - ((a.Token.length : Nat) : Int)) - ((a.Key.length : Nat) : Int)) - ((a.To.length : Nat) : Int)) < (0 : Int))) = true then (some (-1 : Int))
  else ((laws_szOpS a.Ops (IntKind.i64.wrap (IntKind.i64.wrap (IntKind.i64.wrap (left - ((a.Token.length : Nat) : Int)) - ((a.Key.length : Nat) : Int)) - ((a.To.length : Nat) : Int)))).bind fun R5 =>
  if (decide (R5 < (0 : Int))) = true then (some (-1 : Int))
  else (some R5))))

theorem laws_szCall_con (a : Call) (left : Int) (V_a6 : Value) (r : Int) (hm : laws_szCall a left = some r) :
    Con Try.prog 6 [.agg #[.int .i64 a.Kind, strV a.Token, .int .i64 a.Tenant, .int .i64 a.N, strV a.Key, strV a.To, V_a6], .int .i64 left] [] [(V_a6, lc a.Ops)] (fun _ : Unit => .int .i64 r) (fun _ => []) := by
  refine Con.intro (args := [.agg #[.int .i64 a.Kind, strV a.Token, .int .i64 a.Tenant, .int .i64 a.N, strV a.Key, strV a.To, V_a6], .int .i64 left]) (n := 33) (val := fun r (_ : Unit) => .int .i64 r) (post := fun _ _ => []) (m := laws_szCall a left) Try.func6 rfl rfl rfl hm ?_
  intro w S hrd
  have HB_V_a6 := hrd _ (.head _)
  clear hrd
  unfold laws_szCall
  refine TW.seq ?_
  refine TW.region ?_
  refine TO.ef (Ef.box rfl (Cel.agg ⟨(One.plain rfl), (One.plain rfl), (One.plain rfl), (One.plain rfl), (One.plain rfl), (One.plain rfl), (One.can (Base.can HB_V_a6)), trivial⟩)) rfl rfl rfl (fun B1 => ?_)
  refine TO.y (Y.assign rfl) rfl rfl rfl ?_
  refine TO.nil ?_
  refine TE.next ?_
  refine TW.seq ?_
  refine TW.region ?_
  refine TO.y (Y.move rfl) rfl rfl rfl ?_
  refine TO.y (Y.field_box kf24_1 rfl rfl) rfl rfl rfl ?_
  refine TO.y (Y.load_box (v := strV a.Token) 0 kk9 rfl rfl rfl) rfl rfl rfl ?_
  refine TO.y (Y.slen ks9 rfl) rfl rfl rfl ?_
  refine TO.y (Y.sub rfl rfl) rfl rfl rfl ?_
  refine TO.y (Y.assign rfl) rfl rfl rfl ?_
  refine TO.nil ?_
  refine TE.next ?_
  refine TW.seq ?_
  refine TW.seq ?_
  refine TW.region ?_
  refine TO.y (Y.move rfl) rfl rfl rfl ?_
  refine TO.y (Y.lss rfl rfl) rfl rfl rfl ?_
  refine TO.nil ?_
  refine TE.next ?_
  refine TW.cond rfl (fun H2 => ?_) (fun H2 => ?_)
  · refine TW.seq ?_
    refine TW.region ?_
    refine TO.y (Y.assign rfl) rfl rfl rfl ?_
    refine TO.nil ?_
    refine TE.next ?_
    refine TW.ret ?_
    refine TE.then_ret ?_
    exact TE.leaf fun _ _ hf_ hs_ => ret_any (rs := [.tmp 4]) (vs := [.int .i64 (-1 : Int)]) (.inl rfl) rfl ⟨rfl, trivial⟩ hf_ hs_ ⟨(), rfl, hs_.pulls [] rfl⟩
  · refine TW.skip ?_
    refine TE.next ?_
    refine TW.seq ?_
    refine TW.region ?_
    refine TO.y (Y.move rfl) rfl rfl rfl ?_
    refine TO.y (Y.field_box kf24_4 rfl rfl) rfl rfl rfl ?_
    refine TO.y (Y.load_box (v := strV a.Key) 0 kk9 rfl rfl rfl) rfl rfl rfl ?_
    refine TO.y (Y.slen ks9 rfl) rfl rfl rfl ?_
    refine TO.y (Y.sub rfl rfl) rfl rfl rfl ?_
    refine TO.y (Y.assign rfl) rfl rfl rfl ?_
    refine TO.nil ?_
    refine TE.next ?_
    refine TW.seq ?_
    refine TW.seq ?_
    refine TW.region ?_
    refine TO.y (Y.move rfl) rfl rfl rfl ?_
    refine TO.y (Y.lss rfl rfl) rfl rfl rfl ?_
    refine TO.nil ?_
    refine TE.next ?_
    refine TW.cond rfl (fun H3 => ?_) (fun H3 => ?_)
    · refine TW.seq ?_
      refine TW.region ?_
      refine TO.y (Y.assign rfl) rfl rfl rfl ?_
      refine TO.nil ?_
      refine TE.next ?_
      refine TW.ret ?_
      refine TE.then_ret ?_
      exact TE.leaf fun _ _ hf_ hs_ => ret_any (rs := [.tmp 4]) (vs := [.int .i64 (-1 : Int)]) (.inl rfl) rfl ⟨rfl, trivial⟩ hf_ hs_ ⟨(), rfl, hs_.pulls [] rfl⟩
    · refine TW.skip ?_
      refine TE.next ?_
      refine TW.seq ?_
      refine TW.region ?_
      refine TO.y (Y.move rfl) rfl rfl rfl ?_
      refine TO.y (Y.field_box kf24_5 rfl rfl) rfl rfl rfl ?_
      refine TO.y (Y.load_box (v := strV a.To) 0 kk9 rfl rfl rfl) rfl rfl rfl ?_
      refine TO.y (Y.slen ks9 rfl) rfl rfl rfl ?_
      refine TO.y (Y.sub rfl rfl) rfl rfl rfl ?_
      refine TO.y (Y.assign rfl) rfl rfl rfl ?_
      refine TO.nil ?_
      refine TE.next ?_
      refine TW.seq ?_
      refine TW.seq ?_
      refine TW.region ?_
      refine TO.y (Y.move rfl) rfl rfl rfl ?_
      refine TO.y (Y.lss rfl rfl) rfl rfl rfl ?_
      refine TO.nil ?_
      refine TE.next ?_
      refine TW.cond rfl (fun H4 => ?_) (fun H4 => ?_)
      · refine TW.seq ?_
        refine TW.region ?_
        refine TO.y (Y.assign rfl) rfl rfl rfl ?_
        refine TO.nil ?_
        refine TE.next ?_
        refine TW.ret ?_
        refine TE.then_ret ?_
        exact TE.leaf fun _ _ hf_ hs_ => ret_any (rs := [.tmp 4]) (vs := [.int .i64 (-1 : Int)]) (.inl rfl) rfl ⟨rfl, trivial⟩ hf_ hs_ ⟨(), rfl, hs_.pulls [] rfl⟩
      · refine TW.skip ?_
        refine TE.next ?_
        refine TW.seq ?_
        refine TW.region ?_
        refine TO.y (Y.field_box kf24_6 rfl rfl) rfl rfl rfl ?_
        refine TO.y (Y.load_box (v := V_a6) 0 kk22 rfl rfl rfl) rfl rfl rfl ?_
        refine TO.y (Y.move rfl) rfl rfl rfl ?_
        refine TO.bind fun R5 H6 => ?_
        refine TO.ef (Ef.call (rest := [.box B1 24 [.int .i64 a.Kind, strV a.Token, .int .i64 a.Tenant, .int .i64 a.N, strV a.Key, strV a.To, V_a6]]) [0] (laws_szOpS_con a.Ops (IntKind.i64.wrap (IntKind.i64.wrap (IntKind.i64.wrap (left - ((a.Token.length : Nat) : Int)) - ((a.Key.length : Nat) : Int)) - ((a.To.length : Nat) : Int))) V_a6 R5 H6) kc25 rfl rfl ⟨(Base.can HB_V_a6), trivial⟩) rfl rfl rfl (fun _ => ?_)
        refine TO.y (Y.assign rfl) rfl rfl rfl ?_
        refine TO.nil ?_
        refine TE.next ?_
        refine TW.seq ?_
        refine TW.seq ?_
        refine TW.region ?_
        refine TO.y (Y.move rfl) rfl rfl rfl ?_
        refine TO.y (Y.lss rfl rfl) rfl rfl rfl ?_
        refine TO.nil ?_
        refine TE.next ?_
        refine TW.cond rfl (fun H8 => ?_) (fun H8 => ?_)
        · refine TW.seq ?_
          refine TW.region ?_
          refine TO.y (Y.assign rfl) rfl rfl rfl ?_
          refine TO.nil ?_
          refine TE.next ?_
          refine TW.ret ?_
          refine TE.then_ret ?_
          exact TE.leaf fun _ _ hf_ hs_ => ret_any (rs := [.tmp 4]) (vs := [.int .i64 (-1 : Int)]) (.inl rfl) rfl ⟨rfl, trivial⟩ hf_ hs_ ⟨(), rfl, hs_.pulls [] rfl⟩
        · refine TW.skip ?_
          refine TE.next ?_
          refine TW.seq ?_
          refine TW.region ?_
          refine TO.y (Y.move rfl) rfl rfl rfl ?_
          refine TO.y (Y.assign rfl) rfl rfl rfl ?_
          refine TO.nil ?_
          refine TE.next ?_
          refine TW.ret ?_
          exact TE.leaf fun _ _ hf_ hs_ => ret_any (rs := [.tmp 4]) (vs := [.int .i64 R5]) (.inl rfl) rfl ⟨rfl, trivial⟩ hf_ hs_ ⟨(), rfl, hs_.pulls [] rfl⟩

/-- loop.example/g00950/laws.toOp -/
noncomputable def laws_toOp (a : Op) : Option Op :=
  some a

theorem laws_toOp_con (a : Op)  (r : Op) (hm : laws_toOp a = some r) :
    Con Try.prog 44 [.agg #[strV a.Key, .bool a.Del, strV a.Val]] [] [] (fun _ : Unit => .agg #[strV r.Key, .bool r.Del, strV r.Val]) (fun _ => []) := by
  refine Con.intro (args := [.agg #[strV a.Key, .bool a.Del, strV a.Val]]) (n := 14) (val := fun r (_ : Unit) => .agg #[strV r.Key, .bool r.Del, strV r.Val]) (post := fun _ _ => []) (m := laws_toOp a) Try.func44 rfl rfl rfl hm ?_
  intro w S _
  unfold laws_toOp
  refine TW.seq ?_
  refine TW.region ?_
  refine TO.ef (Ef.box rfl (Cel.plain rfl rfl)) rfl rfl rfl (fun B1 => ?_)
  refine TO.ef (Ef.alloc kz76 rfl) rfl rfl rfl (fun B2 => ?_)
  refine TO.nil ?_
  refine TE.next ?_
  refine TW.seq ?_
  refine TW.region ?_
  refine TO.ef (Ef.alloc kz76 rfl) rfl rfl rfl (fun B3 => ?_)
  refine TO.nil ?_
  refine TE.next ?_
  refine TW.seq ?_
  refine TW.region ?_
  refine TO.y (Y.field_box kf71_0 rfl rfl) rfl rfl rfl ?_
  refine TO.y (Y.load_box (v := strV a.Key) 2 kk9 rfl rfl rfl) rfl rfl rfl ?_
  refine TO.y (Y.field_box kf76_0 rfl rfl) rfl rfl rfl ?_
  refine TO.ef0 (Ef.store_box (us := [strV a.Key]) (vs' := [strV a.Key, .bool false, strV ([])]) (is' := [.box B3 76 [strV a.Key, .bool false, strV ([])], .box B2 76 [strV ([]), .bool false, strV ([])], .box B1 71 [strV a.Key, .bool a.Del, strV a.Val]]) 0 kk9 rfl rfl rfl (Cel.plain rfl rfl) rfl rfl rfl rfl) rfl rfl (fun _ => ?_)
  refine TO.nil ?_
  refine TE.next ?_
  refine TW.seq ?_
  refine TW.region ?_
  refine TO.y (Y.field_box kf71_1 rfl rfl) rfl rfl rfl ?_
  refine TO.y (Y.load_box (v := .bool a.Del) 2 kk4 rfl rfl rfl) rfl rfl rfl ?_
  refine TO.y (Y.field_box kf76_1 rfl rfl) rfl rfl rfl ?_
  refine TO.ef0 (Ef.store_box (us := [.bool a.Del]) (vs' := [strV a.Key, .bool a.Del, strV ([])]) (is' := [.box B3 76 [strV a.Key, .bool a.Del, strV ([])], .box B2 76 [strV ([]), .bool false, strV ([])], .box B1 71 [strV a.Key, .bool a.Del, strV a.Val]]) 0 kk4 rfl rfl rfl (Cel.plain rfl rfl) rfl rfl rfl rfl) rfl rfl (fun _ => ?_)
  refine TO.nil ?_
  refine TE.next ?_
  refine TW.seq ?_
  refine TW.region ?_
  refine TO.y (Y.field_box kf71_2 rfl rfl) rfl rfl rfl ?_
  refine TO.y (Y.load_box (v := strV a.Val) 2 kk9 rfl rfl rfl) rfl rfl rfl ?_
  refine TO.y (Y.field_box kf76_2 rfl rfl) rfl rfl rfl ?_
  refine TO.ef0 (Ef.store_box (us := [strV a.Val]) (vs' := [strV a.Key, .bool a.Del, strV a.Val]) (is' := [.box B3 76 [strV a.Key, .bool a.Del, strV a.Val], .box B2 76 [strV ([]), .bool false, strV ([])], .box B1 71 [strV a.Key, .bool a.Del, strV a.Val]]) 0 kk9 rfl rfl rfl (Cel.plain rfl rfl) rfl rfl rfl rfl) rfl rfl (fun _ => ?_)
  refine TO.nil ?_
  refine TE.next ?_
  refine TW.seq ?_
  refine TW.region ?_
  refine TO.y (Y.load_box (v := .agg #[strV a.Key, .bool a.Del, strV a.Val]) 0 kk76 rfl rfl rfl) rfl rfl rfl ?_
  refine TO.ef0 (Ef.store_box (us := [strV a.Key, .bool a.Del, strV a.Val]) (vs' := [strV a.Key, .bool a.Del, strV a.Val]) (is' := [.box B3 76 [strV a.Key, .bool a.Del, strV a.Val], .box B2 76 [strV a.Key, .bool a.Del, strV a.Val], .box B1 71 [strV a.Key, .bool a.Del, strV a.Val]]) 1 kk76 rfl rfl rfl (Cel.plain rfl rfl) rfl rfl rfl rfl) rfl rfl (fun _ => ?_)
  refine TO.nil ?_
  refine TE.next ?_
  refine TW.ret ?_
  exact TE.leaf fun _ _ hf_ hs_ => ret_any (rs := [.cell 2 76]) (vs := [.agg #[strV a.Key, .bool a.Del, strV a.Val]]) (.inl rfl) rfl (RV.cell 1 rfl rfl kk76 rfl trivial) hf_ hs_ ⟨(), rfl, hs_.pulls [] rfl⟩

/-- loop.example/g00950/laws.toOpS -/
noncomputable def laws_toOpS (a : List Op) : Option (List Op) :=
  (mkLen 40 ((a.length : Nat) : Int)).bind fun E2 =>
  bindC (loopO (fun (S4 : Int × List Op) => if (decide (S4.1 < ((a.length : Nat) : Int))) = true then ((idx a S4.1).bind fun E9 =>
  (laws_toOp E9).bind fun R11 =>
  (idx S4.2 S4.1).bind fun E14 =>
  some (.go (IntKind.i64.wrap (S4.1 + (1 : Int)), (S4.2.set S4.1.toNat R11))))
  else (some (.done (.go S4.2))))
  ((0 : Int), (List.replicate E2 ({ Key := [], Del := false, Val := [] : Op } : Op))))
  (fun (T6 : List Op) => some T6)

theorem laws_toOpS_con (a : List Op) (V_a0 : Value) (r : List Op) (hm : laws_toOpS a = some r) :
    Con Try.prog 28 [V_a0] [] [(V_a0, lc a)] (fun X : Value => X) (fun X => [.own X (lc r)]) := by
  refine Con.intro (args := [V_a0]) (n := 23) (val := fun _ (X : Value) => X) (post := fun r X => [.own X (lc r)]) (m := laws_toOpS a) Try.func28 rfl rfl rfl hm ?_
  intro w S hrd
  have HB_V_a0 := hrd _ (.head _)
  clear hrd
  unfold laws_toOpS
  refine TW.seq ?_
  refine TW.region ?_
  refine TO.y (Y.assign rfl) rfl rfl rfl ?_
  refine TO.nil ?_
  refine TE.next ?_
  refine TW.seq ?_
  refine TW.region ?_
  refine TO.y (Y.move rfl) rfl rfl rfl ?_
  refine TO.y (Y.len (l := a) ke22 (Base.can HB_V_a0) rfl) rfl rfl rfl ?_
  refine TO.bind fun E2 H3 => ?_
  refine TO.ef (Ef.make (α := Op) (z := ({ Key := [], Del := false, Val := [] : Op } : Op)) H3 ke27 kz76 rfl rfl rfl rfl) rfl rfl rfl (fun V1 => ?_)
  refine TO.y (Y.assign rfl) rfl rfl rfl ?_
  refine TO.nil ?_
  refine TE.next ?_
  refine TW.seq ?_
  refine TW.seq ?_
  refine TW.region ?_
  refine TO.y (Y.assign rfl) rfl rfl rfl ?_
  refine TO.nil ?_
  refine TE.next ?_
  refine TW.joinX (τ := List Op) (X := Unit) (fun _ _ => [(3, V1)]) (fun T _ => [.own V1 (lc T)]) ?_ (fun T6 X7 => ?_)
  · refine TW.block ?_
    refine TW.loopX (σ := Int × List Op) (X := Unit) (fun T _ => [(0, V_a0), (3, V1), (4, .int .i64 T.1)]) (fun T _ => [.own V1 (lc T.2)]) () [0] ⟨rfl, rfl, rfl, trivial⟩ rfl (fun S4 X5 => ?_)
    refine TW.seq ?_
    refine TW.seq ?_
    refine TW.region ?_
    refine TO.y (Y.move rfl) rfl rfl rfl ?_
    refine TO.y (Y.move rfl) rfl rfl rfl ?_
    refine TO.y (Y.len (l := a) ke22 (Base.can HB_V_a0) rfl) rfl rfl rfl ?_
    refine TO.y (Y.lss rfl rfl) rfl rfl rfl ?_
    refine TO.nil ?_
    refine TE.next ?_
    refine TW.cond rfl (fun H8 => ?_) (fun H8 => ?_)
    · refine TW.skip ?_
      refine TE.next ?_
      refine TW.seq ?_
      refine TW.block ?_
      refine TW.region ?_
      refine TO.y (Y.move rfl) rfl rfl rfl ?_
      refine TO.y (Y.move rfl) rfl rfl rfl ?_
      refine TO.y (Y.move rfl) rfl rfl rfl ?_
      refine TO.y (Y.move rfl) rfl rfl rfl ?_
      refine TO.bind fun E9 H10 => ?_
      refine TO.y (Y.index ke22 (Base.can HB_V_a0) H10 rfl rfl) rfl rfl rfl ?_
      refine TO.y (Y.load_el (us := [strV E9.Key, .bool E9.Del, strV E9.Val]) (u := .agg #[strV E9.Key, .bool E9.Del, strV E9.Val]) kk71 rfl (Base.can HB_V_a0) (idx_get H10).2.2 rfl rfl rfl rfl rfl) rfl rfl rfl ?_
      refine TO.bind fun R11 H12 => ?_
      refine TO.ef (Ef.call (rest := [.own V1 (lc S4.2)]) [0] (laws_toOp_con E9  R11 H12) kc44 rfl rfl trivial) rfl rfl rfl (fun _ => ?_)
      refine TO.bind fun E14 H15 => ?_
      refine TO.y (Y.index ke27 (Can.own 0 rfl) H15 rfl rfl) rfl rfl rfl ?_
      refine TO.ef0 (Ef.store_el (us := [strV R11.Key, .bool R11.Del, strV R11.Val]) (is' := [.own V1 (lc (S4.2.set S4.1.toNat R11))]) R11 0 kk76 rfl rfl (idx_get H15).2.2 rfl rfl (Cel.plain rfl rfl) rfl rfl rfl rfl) rfl rfl (fun _ => ?_)
      refine TO.nil ?_
      refine TE.block_normal ?_
      refine TE.next ?_
      refine TW.region ?_
      refine TO.y (Y.move rfl) rfl rfl rfl ?_
      refine TO.y (Y.add rfl rfl) rfl rfl rfl ?_
      refine TO.y (Y.assign rfl) rfl rfl rfl ?_
      refine TO.nil ?_
      exact TE.lp_go () [0] ⟨rfl, rfl, rfl, trivial⟩ rfl
    · refine TW.exit ?_
      refine TE.then_exit ?_
      refine TE.lp_exit ?_
      refine TE.block_exit ?_
      exact TE.jn_go () [0] ⟨rfl, trivial⟩ rfl
  · refine TE.next ?_
    refine TW.seq ?_
    refine TW.region ?_
    refine TO.y (Y.move rfl) rfl rfl rfl ?_
    refine TO.y (Y.assign rfl) rfl rfl rfl ?_
    refine TO.nil ?_
    refine TE.next ?_
    refine TW.ret ?_
    exact TE.leaf fun _ _ hf_ hs_ => ret_any (rs := [.tmp 2]) (vs := [V1]) (.inl rfl) rfl ⟨rfl, trivial⟩ hf_ hs_ ⟨V1, rfl, hs_.pulls [0] rfl⟩

/-- loop.example/g00950/laws.toCall -/
noncomputable def laws_toCall (a : Call) : Option Call :=
  (laws_toOpS a.Ops).bind fun R4 =>
  some ({ Kind := a.Kind, Token := a.Token, Tenant := a.Tenant, N := a.N, Key := a.Key, To := a.To, Ops := R4 : Call })

theorem laws_toCall_con (a : Call) (V_a6 : Value) (r : Call) (hm : laws_toCall a = some r) :
    Con Try.prog 8 [.agg #[.int .i64 a.Kind, strV a.Token, .int .i64 a.Tenant, .int .i64 a.N, strV a.Key, strV a.To, V_a6]] [] [(V_a6, lc a.Ops)] (fun X : Value => .agg #[.int .i64 r.Kind, strV r.Token, .int .i64 r.Tenant, .int .i64 r.N, strV r.Key, strV r.To, X]) (fun X => [.own X (lc r.Ops)]) := by
  refine Con.intro (args := [.agg #[.int .i64 a.Kind, strV a.Token, .int .i64 a.Tenant, .int .i64 a.N, strV a.Key, strV a.To, V_a6]]) (n := 27) (val := fun r (X : Value) => .agg #[.int .i64 r.Kind, strV r.Token, .int .i64 r.Tenant, .int .i64 r.N, strV r.Key, strV r.To, X]) (post := fun r X => [.own X (lc r.Ops)]) (m := laws_toCall a) Try.func8 rfl rfl rfl hm ?_
  intro w S hrd
  have HB_V_a6 := hrd _ (.head _)
  clear hrd
  unfold laws_toCall
  refine TW.seq ?_
  refine TW.region ?_
  refine TO.ef (Ef.box rfl (Cel.agg ⟨(One.plain rfl), (One.plain rfl), (One.plain rfl), (One.plain rfl), (One.plain rfl), (One.plain rfl), (One.can (Base.can HB_V_a6)), trivial⟩)) rfl rfl rfl (fun B1 => ?_)
  refine TO.ef (Ef.alloc kz29 rfl) rfl rfl rfl (fun B2 => ?_)
  refine TO.nil ?_
  refine TE.next ?_
  refine TW.seq ?_
  refine TW.region ?_
  refine TO.ef (Ef.alloc kz29 rfl) rfl rfl rfl (fun B3 => ?_)
  refine TO.nil ?_
  refine TE.next ?_
  refine TW.seq ?_
  refine TW.region ?_
  refine TO.y (Y.field_box kf24_0 rfl rfl) rfl rfl rfl ?_
  refine TO.y (Y.load_box (v := .int .i64 a.Kind) 2 kk3 rfl rfl rfl) rfl rfl rfl ?_
  refine TO.y (Y.field_box kf29_0 rfl rfl) rfl rfl rfl ?_
  refine TO.ef0 (Ef.store_box (us := [.int .i64 a.Kind]) (vs' := [.int .i64 a.Kind, strV ([]), .int .i64 (0 : Int), .int .i64 (0 : Int), strV ([]), strV ([]), .slice none 0 0]) (is' := [.box B3 29 [.int .i64 a.Kind, strV ([]), .int .i64 (0 : Int), .int .i64 (0 : Int), strV ([]), strV ([]), .slice none 0 0], .box B2 29 [.int .i64 (0 : Int), strV ([]), .int .i64 (0 : Int), .int .i64 (0 : Int), strV ([]), strV ([]), .slice none 0 0], .box B1 24 [.int .i64 a.Kind, strV a.Token, .int .i64 a.Tenant, .int .i64 a.N, strV a.Key, strV a.To, V_a6]]) 0 kk3 rfl rfl rfl (Cel.plain rfl rfl) rfl rfl rfl rfl) rfl rfl (fun _ => ?_)
  refine TO.nil ?_
  refine TE.next ?_
  refine TW.seq ?_
  refine TW.region ?_
  refine TO.y (Y.field_box kf24_1 rfl rfl) rfl rfl rfl ?_
  refine TO.y (Y.load_box (v := strV a.Token) 2 kk9 rfl rfl rfl) rfl rfl rfl ?_
  refine TO.y (Y.field_box kf29_1 rfl rfl) rfl rfl rfl ?_
  refine TO.ef0 (Ef.store_box (us := [strV a.Token]) (vs' := [.int .i64 a.Kind, strV a.Token, .int .i64 (0 : Int), .int .i64 (0 : Int), strV ([]), strV ([]), .slice none 0 0]) (is' := [.box B3 29 [.int .i64 a.Kind, strV a.Token, .int .i64 (0 : Int), .int .i64 (0 : Int), strV ([]), strV ([]), .slice none 0 0], .box B2 29 [.int .i64 (0 : Int), strV ([]), .int .i64 (0 : Int), .int .i64 (0 : Int), strV ([]), strV ([]), .slice none 0 0], .box B1 24 [.int .i64 a.Kind, strV a.Token, .int .i64 a.Tenant, .int .i64 a.N, strV a.Key, strV a.To, V_a6]]) 0 kk9 rfl rfl rfl (Cel.plain rfl rfl) rfl rfl rfl rfl) rfl rfl (fun _ => ?_)
  refine TO.nil ?_
  refine TE.next ?_
  refine TW.seq ?_
  refine TW.region ?_
  refine TO.y (Y.field_box kf24_2 rfl rfl) rfl rfl rfl ?_
  refine TO.y (Y.load_box (v := .int .i64 a.Tenant) 2 kk3 rfl rfl rfl) rfl rfl rfl ?_
  refine TO.y (Y.field_box kf29_2 rfl rfl) rfl rfl rfl ?_
  refine TO.ef0 (Ef.store_box (us := [.int .i64 a.Tenant]) (vs' := [.int .i64 a.Kind, strV a.Token, .int .i64 a.Tenant, .int .i64 (0 : Int), strV ([]), strV ([]), .slice none 0 0]) (is' := [.box B3 29 [.int .i64 a.Kind, strV a.Token, .int .i64 a.Tenant, .int .i64 (0 : Int), strV ([]), strV ([]), .slice none 0 0], .box B2 29 [.int .i64 (0 : Int), strV ([]), .int .i64 (0 : Int), .int .i64 (0 : Int), strV ([]), strV ([]), .slice none 0 0], .box B1 24 [.int .i64 a.Kind, strV a.Token, .int .i64 a.Tenant, .int .i64 a.N, strV a.Key, strV a.To, V_a6]]) 0 kk3 rfl rfl rfl (Cel.plain rfl rfl) rfl rfl rfl rfl) rfl rfl (fun _ => ?_)
  refine TO.nil ?_
  refine TE.next ?_
  refine TW.seq ?_
  refine TW.region ?_
  refine TO.y (Y.field_box kf24_3 rfl rfl) rfl rfl rfl ?_
  refine TO.y (Y.load_box (v := .int .i64 a.N) 2 kk3 rfl rfl rfl) rfl rfl rfl ?_
  refine TO.y (Y.field_box kf29_3 rfl rfl) rfl rfl rfl ?_
  refine TO.ef0 (Ef.store_box (us := [.int .i64 a.N]) (vs' := [.int .i64 a.Kind, strV a.Token, .int .i64 a.Tenant, .int .i64 a.N, strV ([]), strV ([]), .slice none 0 0]) (is' := [.box B3 29 [.int .i64 a.Kind, strV a.Token, .int .i64 a.Tenant, .int .i64 a.N, strV ([]), strV ([]), .slice none 0 0], .box B2 29 [.int .i64 (0 : Int), strV ([]), .int .i64 (0 : Int), .int .i64 (0 : Int), strV ([]), strV ([]), .slice none 0 0], .box B1 24 [.int .i64 a.Kind, strV a.Token, .int .i64 a.Tenant, .int .i64 a.N, strV a.Key, strV a.To, V_a6]]) 0 kk3 rfl rfl rfl (Cel.plain rfl rfl) rfl rfl rfl rfl) rfl rfl (fun _ => ?_)
  refine TO.nil ?_
  refine TE.next ?_
  refine TW.seq ?_
  refine TW.region ?_
  refine TO.y (Y.field_box kf24_4 rfl rfl) rfl rfl rfl ?_
  refine TO.y (Y.load_box (v := strV a.Key) 2 kk9 rfl rfl rfl) rfl rfl rfl ?_
  refine TO.y (Y.field_box kf29_4 rfl rfl) rfl rfl rfl ?_
  refine TO.ef0 (Ef.store_box (us := [strV a.Key]) (vs' := [.int .i64 a.Kind, strV a.Token, .int .i64 a.Tenant, .int .i64 a.N, strV a.Key, strV ([]), .slice none 0 0]) (is' := [.box B3 29 [.int .i64 a.Kind, strV a.Token, .int .i64 a.Tenant, .int .i64 a.N, strV a.Key, strV ([]), .slice none 0 0], .box B2 29 [.int .i64 (0 : Int), strV ([]), .int .i64 (0 : Int), .int .i64 (0 : Int), strV ([]), strV ([]), .slice none 0 0], .box B1 24 [.int .i64 a.Kind, strV a.Token, .int .i64 a.Tenant, .int .i64 a.N, strV a.Key, strV a.To, V_a6]]) 0 kk9 rfl rfl rfl (Cel.plain rfl rfl) rfl rfl rfl rfl) rfl rfl (fun _ => ?_)
  refine TO.nil ?_
  refine TE.next ?_
  refine TW.seq ?_
  refine TW.region ?_
  refine TO.y (Y.field_box kf24_5 rfl rfl) rfl rfl rfl ?_
  refine TO.y (Y.load_box (v := strV a.To) 2 kk9 rfl rfl rfl) rfl rfl rfl ?_
  refine TO.y (Y.field_box kf29_5 rfl rfl) rfl rfl rfl ?_
  refine TO.ef0 (Ef.store_box (us := [strV a.To]) (vs' := [.int .i64 a.Kind, strV a.Token, .int .i64 a.Tenant, .int .i64 a.N, strV a.Key, strV a.To, .slice none 0 0]) (is' := [.box B3 29 [.int .i64 a.Kind, strV a.Token, .int .i64 a.Tenant, .int .i64 a.N, strV a.Key, strV a.To, .slice none 0 0], .box B2 29 [.int .i64 (0 : Int), strV ([]), .int .i64 (0 : Int), .int .i64 (0 : Int), strV ([]), strV ([]), .slice none 0 0], .box B1 24 [.int .i64 a.Kind, strV a.Token, .int .i64 a.Tenant, .int .i64 a.N, strV a.Key, strV a.To, V_a6]]) 0 kk9 rfl rfl rfl (Cel.plain rfl rfl) rfl rfl rfl rfl) rfl rfl (fun _ => ?_)
  refine TO.nil ?_
  refine TE.next ?_
  refine TW.seq ?_
  refine TW.region ?_
  refine TO.y (Y.field_box kf24_6 rfl rfl) rfl rfl rfl ?_
  refine TO.y (Y.load_box (v := V_a6) 2 kk22 rfl rfl rfl) rfl rfl rfl ?_
  refine TO.bind fun R4 H5 => ?_
  refine TO.ef (Ef.call (rest := [.box B3 29 [.int .i64 a.Kind, strV a.Token, .int .i64 a.Tenant, .int .i64 a.N, strV a.Key, strV a.To, .slice none 0 0], .box B2 29 [.int .i64 (0 : Int), strV ([]), .int .i64 (0 : Int), .int .i64 (0 : Int), strV ([]), strV ([]), .slice none 0 0], .box B1 24 [.int .i64 a.Kind, strV a.Token, .int .i64 a.Tenant, .int .i64 a.N, strV a.Key, strV a.To, V_a6]]) [0, 0, 0] (laws_toOpS_con a.Ops V_a6 R4 H5) kc28 rfl rfl ⟨(Base.can HB_V_a6), trivial⟩) rfl rfl rfl (fun Y6 => ?_)
  refine TO.y (Y.field_box kf29_6 rfl rfl) rfl rfl rfl ?_
  refine TO.ef0 (Ef.store_box (us := [Y6]) (vs' := [.int .i64 a.Kind, strV a.Token, .int .i64 a.Tenant, .int .i64 a.N, strV a.Key, strV a.To, Y6]) (is' := [.own Y6 (lc R4), .box B3 29 [.int .i64 a.Kind, strV a.Token, .int .i64 a.Tenant, .int .i64 a.N, strV a.Key, strV a.To, Y6], .box B2 29 [.int .i64 (0 : Int), strV ([]), .int .i64 (0 : Int), .int .i64 (0 : Int), strV ([]), strV ([]), .slice none 0 0], .box B1 24 [.int .i64 a.Kind, strV a.Token, .int .i64 a.Tenant, .int .i64 a.N, strV a.Key, strV a.To, V_a6]]) 1 kk27 rfl rfl rfl (Cel.one (One.can (Can.own 0 rfl))) rfl rfl rfl rfl) rfl rfl (fun _ => ?_)
  refine TO.nil ?_
  refine TE.next ?_
  refine TW.seq ?_
  refine TW.region ?_
  refine TO.y (Y.load_box (v := .agg #[.int .i64 a.Kind, strV a.Token, .int .i64 a.Tenant, .int .i64 a.N, strV a.Key, strV a.To, Y6]) 1 kk29 rfl rfl rfl) rfl rfl rfl ?_
  refine TO.ef0 (Ef.store_box (us := [.int .i64 a.Kind, strV a.Token, .int .i64 a.Tenant, .int .i64 a.N, strV a.Key, strV a.To, Y6]) (vs' := [.int .i64 a.Kind, strV a.Token, .int .i64 a.Tenant, .int .i64 a.N, strV a.Key, strV a.To, Y6]) (is' := [.own Y6 (lc R4), .box B3 29 [.int .i64 a.Kind, strV a.Token, .int .i64 a.Tenant, .int .i64 a.N, strV a.Key, strV a.To, Y6], .box B2 29 [.int .i64 a.Kind, strV a.Token, .int .i64 a.Tenant, .int .i64 a.N, strV a.Key, strV a.To, Y6], .box B1 24 [.int .i64 a.Kind, strV a.Token, .int .i64 a.Tenant, .int .i64 a.N, strV a.Key, strV a.To, V_a6]]) 2 kk29 rfl rfl rfl (Cel.agg ⟨(One.plain rfl), (One.plain rfl), (One.plain rfl), (One.plain rfl), (One.plain rfl), (One.plain rfl), (One.can (Can.own 0 rfl)), trivial⟩) rfl rfl rfl rfl) rfl rfl (fun _ => ?_)
  refine TO.nil ?_
  refine TE.next ?_
  refine TW.ret ?_
  exact TE.leaf fun _ _ hf_ hs_ => ret_any (rs := [.cell 2 29]) (vs := [.agg #[.int .i64 a.Kind, strV a.Token, .int .i64 a.Tenant, .int .i64 a.N, strV a.Key, strV a.To, Y6]]) (.inl rfl) rfl (RV.cell 2 rfl rfl kk29 rfl trivial) hf_ hs_ ⟨Y6, rfl, hs_.pulls [0] rfl⟩

/-- loop.example/g00950/spec.l1In -/
noncomputable def spec_l1In (x : Int) (low : Int) (high : Int) : Option Bool :=
  (if (decide (x ≥ low)) = true then (some (decide (x ≤ high)))
  else (some false)).bind (fun (T1 : Bool) =>
  some T1)

theorem spec_l1In_con (x : Int) (low : Int) (high : Int)  (r : Bool) (hm : spec_l1In x low high = some r) :
    Con Try.prog 27 [.int .i64 x, .int .i64 low, .int .i64 high] [] [] (fun _ : Unit => .bool r) (fun _ => []) := by
  refine Con.intro (args := [.int .i64 x, .int .i64 low, .int .i64 high]) (n := 15) (val := fun r (_ : Unit) => .bool r) (post := fun _ _ => []) (m := spec_l1In x low high) Try.func27 rfl rfl rfl hm ?_
  intro w S _
  unfold spec_l1In
  refine TW.seq ?_
  refine TW.region ?_
  refine TO.y (Y.assign rfl) rfl rfl rfl ?_
  refine TO.nil ?_
  refine TE.next ?_
  refine TW.seq ?_
  refine TW.joinBX (τ := Bool) (X := Unit) (fun T _ => [(6, .bool T)]) (fun _ _ => []) ?_ (fun T1 X2 => ?_)
  · refine TW.region ?_
    refine TO.y (Y.move rfl) rfl rfl rfl ?_
    refine TO.y (Y.move rfl) rfl rfl rfl ?_
    refine TO.y (Y.geq rfl rfl) rfl rfl rfl ?_
    refine TO.y (Y.move rfl) rfl rfl rfl ?_
    refine TO.ite (b := decide (x ≥ low)) (fun H3 => ?_) (fun H3 => ?_)
    · refine TO.y (Y.move rfl) (Gd.at 3 true 10 (decide (x ≥ low)) rfl rfl rfl (beq_tt H3)) rfl rfl ?_
      refine TO.y (Y.move rfl) (Gd.at 3 true 10 (decide (x ≥ low)) rfl rfl rfl (beq_tt H3)) rfl rfl ?_
      refine TO.y (Y.leq rfl rfl) (Gd.at 3 true 10 (decide (x ≥ low)) rfl rfl rfl (beq_tt H3)) rfl rfl ?_
      refine TO.y (Y.pick_t H3 rfl rfl) rfl rfl rfl ?_
      refine TO.y (Y.assign rfl) rfl rfl rfl ?_
      refine TO.nil ?_
      exact TE.jb_go () [] ⟨rfl, trivial⟩ rfl
    · refine TO.off (Gd.at 3 true 10 (decide (x ≥ low)) rfl rfl rfl (beq_ft H3)) rfl rfl ?_
      refine TO.off (Gd.at 3 true 10 (decide (x ≥ low)) rfl rfl rfl (beq_ft H3)) rfl rfl ?_
      refine TO.off (Gd.at 3 true 10 (decide (x ≥ low)) rfl rfl rfl (beq_ft H3)) rfl rfl ?_
      refine TO.y (Y.pick_f H3 rfl rfl) rfl rfl rfl ?_
      refine TO.y (Y.assign rfl) rfl rfl rfl ?_
      refine TO.nil ?_
      exact TE.jb_go () [] ⟨rfl, trivial⟩ rfl
  · refine TE.next ?_
    refine TW.ret ?_
    exact TE.leaf fun _ _ hf_ hs_ => ret_any (rs := [.tmp 6]) (vs := [.bool T1]) (.inl rfl) rfl ⟨rfl, trivial⟩ hf_ hs_ ⟨(), rfl, hs_.pulls [] rfl⟩

/-- loop.example/g00950/spec.Var -/
noncomputable def spec_Var (n : Int) : Option (List UInt8) :=
  (spec_l1In n (0 : Int) (562949953421311 : Int)).bind fun R1 =>
  if (!R1) = true then (some ([]))
  else (bindC (loopO (fun (S6 : Int × List UInt8) => if (decide (S6.1 ≥ (128 : Int))) = true then ((app 1 S6.2 ([toU8 (IntKind.i64.wrap ((128 : Int) + (Int.tmod S6.1 (128 : Int))))])).bind fun E13 =>
  some (.go (IntKind.i64.wrap (Int.tdiv S6.1 (128 : Int)), E13)))
  else (some (.done (.go (S6.1, S6.2)))))
  (n, ([] : List UInt8)))
  (fun (T8 : Int × List UInt8) => (app 1 T8.2 ([toU8 T8.1])).bind fun E17 =>
  some E17))

theorem spec_Var_con (n : Int)  (r : List UInt8) (hm : spec_Var n = some r) :
    Con Try.prog 55 [.int .i64 n] [] [] (fun _ : Unit => strV r) (fun _ => []) := by
  refine Con.intro (args := [.int .i64 n]) (n := 25) (val := fun r (_ : Unit) => strV r) (post := fun _ _ => []) (m := spec_Var n) Try.func55 rfl rfl rfl hm ?_
  intro w S _
  unfold spec_Var
  refine TW.seq ?_
  refine TW.region ?_
  refine TO.y (Y.assign rfl) rfl rfl rfl ?_
  refine TO.nil ?_
  refine TE.next ?_
  refine TW.seq ?_
  refine TW.seq ?_
  refine TW.region ?_
  refine TO.y (Y.move rfl) rfl rfl rfl ?_
  refine TO.bind fun R1 H2 => ?_
  refine TO.ef (Ef.call (rest := []) [] (spec_l1In_con n (0 : Int) (562949953421311 : Int)  R1 H2) kc27 rfl rfl trivial) rfl rfl rfl (fun _ => ?_)
  refine TO.y (Y.not rfl) rfl rfl rfl ?_
  refine TO.nil ?_
  refine TE.next ?_
  refine TW.cond rfl (fun H4 => ?_) (fun H4 => ?_)
  · refine TW.seq ?_
    refine TW.region ?_
    refine TO.y (Y.assign rfl) rfl rfl rfl ?_
    refine TO.nil ?_
    refine TE.next ?_
    refine TW.ret ?_
    refine TE.then_ret ?_
    exact TE.leaf fun _ _ hf_ hs_ => ret_any (rs := [.tmp 2]) (vs := [strV ([])]) (.inl rfl) rfl ⟨rfl, trivial⟩ hf_ hs_ ⟨(), rfl, hs_.pulls [] rfl⟩
  · refine TW.skip ?_
    refine TE.next ?_
    refine TW.seq ?_
    refine TW.region ?_
    refine TO.ef (Ef.buildSlice (α := UInt8) (Vs := []) ([] : List UInt8) ke83 kz5 rfl rfl rfl rfl rfl) rfl rfl rfl (fun B5 => ?_)
    refine TO.y (Y.assign rfl) rfl rfl rfl ?_
    refine TO.nil ?_
    refine TE.next ?_
    refine TW.seq ?_
    refine TW.joinX (τ := Int × List UInt8) (X := Value) (fun T X => [(0, .int .i64 T.1), (3, X)]) (fun T X => [.own X (lc T.2)]) ?_ (fun T8 X9 => ?_)
    · refine TW.block ?_
      refine TW.loopX (σ := Int × List UInt8) (X := Value) (fun T X => [(0, .int .i64 T.1), (3, X)]) (fun T X => [.own X (lc T.2)]) (.slice (some ⟨B5, 0, none⟩) 0 0) [0] ⟨rfl, rfl, trivial⟩ rfl (fun S6 X7 => ?_)
      refine TW.seq ?_
      refine TW.seq ?_
      refine TW.region ?_
      refine TO.y (Y.move rfl) rfl rfl rfl ?_
      refine TO.y (Y.geq rfl rfl) rfl rfl rfl ?_
      refine TO.nil ?_
      refine TE.next ?_
      refine TW.cond rfl (fun H10 => ?_) (fun H10 => ?_)
      · refine TW.skip ?_
        refine TE.next ?_
        refine TW.block ?_
        refine TW.seq ?_
        refine TW.region ?_
        refine TO.y (Y.move rfl) rfl rfl rfl ?_
        refine TO.y (Y.move rfl) rfl rfl rfl ?_
        refine TO.y (Y.rem (by decide) rfl rfl) rfl rfl rfl ?_
        refine TO.y (Y.add rfl rfl) rfl rfl rfl ?_
        refine TO.y (Y.conv8 ki3 ki5 rfl) rfl rfl rfl ?_
        refine TO.ef (Ef.buildSlice (α := UInt8) (Vs := [.int .u8 (((toU8 (IntKind.i64.wrap ((128 : Int) + (Int.tmod S6.1 (128 : Int))))).toNat : Nat) : Int)]) [toU8 (IntKind.i64.wrap ((128 : Int) + (Int.tmod S6.1 (128 : Int))))] ke83 kz5 rfl rfl rfl rfl rfl) rfl rfl rfl (fun B11 => ?_)
        refine TO.bind fun E13 H14 => ?_
        refine TO.ef (Ef.append (α := UInt8) (is' := [.own (.slice (some ⟨B11, 0, none⟩) 1 1) (lc ([toU8 (IntKind.i64.wrap ((128 : Int) + (Int.tmod S6.1 (128 : Int))))]))]) [1, 0] H14 ke83 kz5 rfl rfl rfl rfl rfl (Can.own 0 rfl)) rfl rfl rfl (fun V12 => ?_)
        refine TO.y (Y.assign rfl) rfl rfl rfl ?_
        refine TO.nil ?_
        refine TE.next ?_
        refine TW.region ?_
        refine TO.y (Y.move rfl) rfl rfl rfl ?_
        refine TO.y (Y.quo (by decide) rfl rfl) rfl rfl rfl ?_
        refine TO.y (Y.assign rfl) rfl rfl rfl ?_
        refine TO.nil ?_
        refine TE.block_normal ?_
        exact TE.lp_go V12 [0] ⟨rfl, rfl, trivial⟩ rfl
      · refine TW.exit ?_
        refine TE.then_exit ?_
        refine TE.lp_exit ?_
        refine TE.block_exit ?_
        exact TE.jn_go X7 [0] ⟨rfl, rfl, trivial⟩ rfl
    · refine TE.next ?_
      refine TW.seq ?_
      refine TW.region ?_
      refine TO.y (Y.move rfl) rfl rfl rfl ?_
      refine TO.y (Y.move rfl) rfl rfl rfl ?_
      refine TO.y (Y.conv8 ki3 ki5 rfl) rfl rfl rfl ?_
      refine TO.ef (Ef.buildSlice (α := UInt8) (Vs := [.int .u8 (((toU8 T8.1).toNat : Nat) : Int)]) [toU8 T8.1] ke83 kz5 rfl rfl rfl rfl rfl) rfl rfl rfl (fun B15 => ?_)
      refine TO.bind fun E17 H18 => ?_
      refine TO.ef (Ef.append (α := UInt8) (is' := [.own (.slice (some ⟨B15, 0, none⟩) 1 1) (lc ([toU8 T8.1]))]) [1, 0] H18 ke83 kz5 rfl rfl rfl rfl rfl (Can.own 0 rfl)) rfl rfl rfl (fun V16 => ?_)
      refine TO.y (Y.toStr ke83 ki5 ks9 (Can.own 0 rfl) rfl) rfl rfl rfl ?_
      refine TO.y (Y.assign rfl) rfl rfl rfl ?_
      refine TO.nil ?_
      refine TE.next ?_
      refine TW.ret ?_
      exact TE.leaf fun _ _ hf_ hs_ => ret_any (rs := [.tmp 2]) (vs := [strV E17]) (.inl rfl) rfl ⟨rfl, trivial⟩ hf_ hs_ ⟨(), rfl, hs_.pulls [] rfl⟩

/-- loop.example/g00950/spec.ReadVar -/
noncomputable def spec_ReadVar (s : List UInt8) : Option (Int × Int) :=
  bindC (loopO (fun (S1 : Int) => (if (decide (S1 ≤ (7 : Int))) = true then (some (decide (S1 ≤ ((s.length : Nat) : Int))))
  else (some false)).bind (fun (T5 : Bool) =>
  if T5 = true then (bindC (loopO (fun (S9 : Int × Int) => if (decide (S9.2 ≥ (0 : Int))) = true then ((sidx s S9.2).bind fun E14 =>
  some (.go (IntKind.i64.wrap (IntKind.i64.wrap (S9.1 * (128 : Int)) + (Int.tmod (IntKind.i64.wrap ((E14.toNat : Nat) : Int)) (128 : Int))), IntKind.i64.wrap (S9.2 - (1 : Int)))))
  else (some (.done (.go S9.1))))
  ((0 : Int), IntKind.i64.wrap (S1 - (1 : Int))))
  (fun (T11 : Int) => (ssub s 0 S1).bind fun E16 =>
  (spec_Var T11).bind fun R18 =>
  if (decide (R18 = E16)) = true then (some (.done (.done (T11, S1))))
  else (some (.go (IntKind.i64.wrap (S1 + (1 : Int)))))))
  else (some (.done (.go ())))))
  (1 : Int))
  (fun (T3 : Unit) => some ((0 : Int), (0 : Int)))

theorem spec_ReadVar_con (s : List UInt8)  (r : Int × Int) (hm : spec_ReadVar s = some r) :
    Con Try.prog 54 [strV s] [] [] (fun _ : Unit => .tuple #[.int .i64 r.1, .int .i64 r.2]) (fun _ => []) := by
  refine Con.intro (args := [strV s]) (n := 39) (val := fun r (_ : Unit) => .tuple #[.int .i64 r.1, .int .i64 r.2]) (post := fun _ _ => []) (m := spec_ReadVar s) Try.func54 rfl rfl rfl hm ?_
  intro w S _
  unfold spec_ReadVar
  refine TW.seq ?_
  refine TW.region ?_
  refine TO.y (Y.assign rfl) rfl rfl rfl ?_
  refine TO.y (Y.assign rfl) rfl rfl rfl ?_
  refine TO.nil ?_
  refine TE.next ?_
  refine TW.seq ?_
  refine TW.seq ?_
  refine TW.region ?_
  refine TO.y (Y.assign rfl) rfl rfl rfl ?_
  refine TO.nil ?_
  refine TE.next ?_
  refine TW.joinX (τ := Unit) (X := Unit) (fun _ _ => []) (fun _ _ => []) ?_ (fun T3 X4 => ?_)
  · refine TW.block ?_
    refine TW.loopX (σ := Int) (X := Unit) (fun T _ => [(0, strV s), (4, .int .i64 T)]) (fun _ _ => []) () [] ⟨rfl, rfl, trivial⟩ rfl (fun S1 X2 => ?_)
    refine TW.seq ?_
    refine TW.seq ?_
    refine TW.joinBX (τ := Bool) (X := Unit) (fun T _ => [(0, strV s), (4, .int .i64 S1), (14, .bool T)]) (fun _ _ => []) ?_ (fun T5 X6 => ?_)
    · refine TW.region ?_
      refine TO.y (Y.move rfl) rfl rfl rfl ?_
      refine TO.y (Y.leq rfl rfl) rfl rfl rfl ?_
      refine TO.y (Y.move rfl) rfl rfl rfl ?_
      refine TO.ite (b := decide (S1 ≤ (7 : Int))) (fun H7 => ?_) (fun H7 => ?_)
      · refine TO.y (Y.move rfl) (Gd.at 2 true 9 (decide (S1 ≤ (7 : Int))) rfl rfl rfl (beq_tt H7)) rfl rfl ?_
        refine TO.y (Y.move rfl) (Gd.at 2 true 9 (decide (S1 ≤ (7 : Int))) rfl rfl rfl (beq_tt H7)) rfl rfl ?_
        refine TO.y (Y.slen ks9 rfl) (Gd.at 2 true 9 (decide (S1 ≤ (7 : Int))) rfl rfl rfl (beq_tt H7)) rfl rfl ?_
        refine TO.y (Y.leq rfl rfl) (Gd.at 2 true 9 (decide (S1 ≤ (7 : Int))) rfl rfl rfl (beq_tt H7)) rfl rfl ?_
        refine TO.y (Y.pick_t H7 rfl rfl) rfl rfl rfl ?_
        refine TO.nil ?_
        exact TE.jb_go () [] ⟨rfl, rfl, rfl, trivial⟩ rfl
      · refine TO.off (Gd.at 2 true 9 (decide (S1 ≤ (7 : Int))) rfl rfl rfl (beq_ft H7)) rfl rfl ?_
        refine TO.off (Gd.at 2 true 9 (decide (S1 ≤ (7 : Int))) rfl rfl rfl (beq_ft H7)) rfl rfl ?_
        refine TO.off (Gd.at 2 true 9 (decide (S1 ≤ (7 : Int))) rfl rfl rfl (beq_ft H7)) rfl rfl ?_
        refine TO.off (Gd.at 2 true 9 (decide (S1 ≤ (7 : Int))) rfl rfl rfl (beq_ft H7)) rfl rfl ?_
        refine TO.y (Y.pick_f H7 rfl rfl) rfl rfl rfl ?_
        refine TO.nil ?_
        exact TE.jb_go () [] ⟨rfl, rfl, rfl, trivial⟩ rfl
    · refine TE.next ?_
      refine TW.cond rfl (fun H8 => ?_) (fun H8 => ?_)
      · refine TW.skip ?_
        refine TE.next ?_
        refine TW.seq ?_
        refine TW.block ?_
        refine TW.seq ?_
        refine TW.region ?_
        refine TO.y (Y.assign rfl) rfl rfl rfl ?_
        refine TO.nil ?_
        refine TE.next ?_
        refine TW.seq ?_
        refine TW.seq ?_
        refine TW.region ?_
        refine TO.y (Y.move rfl) rfl rfl rfl ?_
        refine TO.y (Y.sub rfl rfl) rfl rfl rfl ?_
        refine TO.y (Y.assign rfl) rfl rfl rfl ?_
        refine TO.nil ?_
        refine TE.next ?_
        refine TW.joinX (τ := Int) (X := Unit) (fun T _ => [(0, strV s), (4, .int .i64 S1), (5, .int .i64 T)]) (fun _ _ => []) ?_ (fun T11 X12 => ?_)
        · refine TW.block ?_
          refine TW.loopX (σ := Int × Int) (X := Unit) (fun T _ => [(0, strV s), (4, .int .i64 S1), (5, .int .i64 T.1), (6, .int .i64 T.2)]) (fun _ _ => []) () [] ⟨rfl, rfl, rfl, rfl, trivial⟩ rfl (fun S9 X10 => ?_)
          refine TW.seq ?_
          refine TW.seq ?_
          refine TW.region ?_
          refine TO.y (Y.move rfl) rfl rfl rfl ?_
          refine TO.y (Y.geq rfl rfl) rfl rfl rfl ?_
          refine TO.nil ?_
          refine TE.next ?_
          refine TW.cond rfl (fun H13 => ?_) (fun H13 => ?_)
          · refine TW.skip ?_
            refine TE.next ?_
            refine TW.seq ?_
            refine TW.block ?_
            refine TW.region ?_
            refine TO.y (Y.move rfl) rfl rfl rfl ?_
            refine TO.y (Y.mul rfl rfl) rfl rfl rfl ?_
            refine TO.y (Y.move rfl) rfl rfl rfl ?_
            refine TO.y (Y.move rfl) rfl rfl rfl ?_
            refine TO.bind fun E14 H15 => ?_
            refine TO.y (Y.sidx H15 ks9 rfl rfl) rfl rfl rfl ?_
            refine TO.y (Y.conv ki5 ki3 rfl) rfl rfl rfl ?_
            refine TO.y (Y.rem (by decide) rfl rfl) rfl rfl rfl ?_
            refine TO.y (Y.add rfl rfl) rfl rfl rfl ?_
            refine TO.y (Y.assign rfl) rfl rfl rfl ?_
            refine TO.nil ?_
            refine TE.block_normal ?_
            refine TE.next ?_
            refine TW.region ?_
            refine TO.y (Y.move rfl) rfl rfl rfl ?_
            refine TO.y (Y.sub rfl rfl) rfl rfl rfl ?_
            refine TO.y (Y.assign rfl) rfl rfl rfl ?_
            refine TO.nil ?_
            exact TE.lp_go () [] ⟨rfl, rfl, rfl, rfl, trivial⟩ rfl
          · refine TW.exit ?_
            refine TE.then_exit ?_
            refine TE.lp_exit ?_
            refine TE.block_exit ?_
            exact TE.jn_go () [] ⟨rfl, rfl, rfl, trivial⟩ rfl
        · refine TE.next ?_
          refine TW.seq ?_
          refine TW.draw (isH := []) hMix ?_
          refine TA.y (listed' := #[true, false, false, false, false, false]) 0 [] rfl (Y.move rfl) rfl rfl rfl (by kernel_rfl) (by kernel_rfl) (by kernel_rfl) rfl rfl ?_
          refine TA.y (listed' := #[true, false, true, false, false, false]) 2 [] rfl (Y.move rfl) rfl rfl rfl (by kernel_rfl) (by kernel_rfl) (by kernel_rfl) rfl rfl ?_
          refine TA.y (listed' := #[true, false, true, true, false, false]) 3 [] rfl (Y.move rfl) rfl rfl rfl (by kernel_rfl) (by kernel_rfl) (by kernel_rfl) rfl rfl ?_
          refine TA.bind fun E16 H17 => ?_
          refine TA.y (listed' := #[true, false, true, true, true, false]) 4 [] rfl (Y.ssub_to H17 ks9 rfl rfl) rfl rfl rfl (by kernel_rfl) (by kernel_rfl) (by kernel_rfl) rfl rfl ?_
          refine TA.bind fun R18 H19 => ?_
          refine TA.one 1 (by kernel_rfl) ?_
          refine TX.ef (listed' := #[true, true, true, true, true, false]) [] rfl (Ef.call (rest := []) [] (spec_Var_con T11  R18 H19) kc55 rfl rfl trivial) rfl rfl rfl rfl (fun _ => rfl) (fun _ => ?_)
          refine TA.y (listed' := #[true, true, true, true, true, true]) 5 [] rfl (Y.seql rfl rfl) rfl rfl rfl (by kernel_rfl) (by kernel_rfl) (by kernel_rfl) rfl rfl ?_
          refine TA.nil (by kernel_rfl) ?_
          refine TE.next ?_
          refine TW.cond rfl (fun H21 => ?_) (fun H21 => ?_)
          · refine TW.seq ?_
            refine TW.region ?_
            refine TO.y (Y.move rfl) rfl rfl rfl ?_
            refine TO.y (Y.move rfl) rfl rfl rfl ?_
            refine TO.y (Y.assign rfl) rfl rfl rfl ?_
            refine TO.y (Y.assign rfl) rfl rfl rfl ?_
            refine TO.nil ?_
            refine TE.next ?_
            refine TW.ret ?_
            refine TE.block_ret ?_
            refine TE.then_ret ?_
            refine TE.lp_ret ?_
            refine TE.block_ret ?_
            refine TE.jn_done ?_
            refine TE.then_ret ?_
            exact TE.leaf fun _ _ hf_ hs_ => ret_any (rs := [.tmp 2, .tmp 3]) (vs := [.int .i64 T11, .int .i64 S1]) (.inl rfl) rfl ⟨rfl, ⟨rfl, trivial⟩⟩ hf_ hs_ ⟨(), rfl, hs_.pulls [] rfl⟩
          · refine TW.skip ?_
            refine TE.block_normal ?_
            refine TE.next ?_
            refine TW.region ?_
            refine TO.y (Y.move rfl) rfl rfl rfl ?_
            refine TO.y (Y.add rfl rfl) rfl rfl rfl ?_
            refine TO.y (Y.assign rfl) rfl rfl rfl ?_
            refine TO.nil ?_
            exact TE.lp_go () [] ⟨rfl, rfl, trivial⟩ rfl
      · refine TW.exit ?_
        refine TE.then_exit ?_
        refine TE.lp_exit ?_
        refine TE.block_exit ?_
        exact TE.jn_go () [] trivial rfl
  · refine TE.next ?_
    refine TW.seq ?_
    refine TW.region ?_
    refine TO.y (Y.assign rfl) rfl rfl rfl ?_
    refine TO.y (Y.assign rfl) rfl rfl rfl ?_
    refine TO.nil ?_
    refine TE.next ?_
    refine TW.ret ?_
    exact TE.leaf fun _ _ hf_ hs_ => ret_any (rs := [.tmp 2, .tmp 3]) (vs := [.int .i64 (0 : Int), .int .i64 (0 : Int)]) (.inl rfl) rfl ⟨rfl, ⟨rfl, trivial⟩⟩ hf_ hs_ ⟨(), rfl, hs_.pulls [] rfl⟩

/-- loop.example/g00950/spec.l6Vars -/
noncomputable def spec_l6Vars (s : List UInt8) (at_ : Int) (n : Int) : Option (List Int × Int) :=
  bindC (loopO (fun (S2 : Int × Int × List Int) => if (decide (S2.2.1 < n)) = true then ((if (decide (S2.1 < (0 : Int))) = true then (some true)
  else (some (decide (S2.1 > ((s.length : Nat) : Int))))).bind (fun (T7 : Bool) =>
  if T7 = true then (some (.done (.done (S2.2.2, (-1 : Int)))))
  else ((ssub s S2.1 (s.length : Int)).bind fun E11 =>
  (spec_ReadVar E11).bind fun R13 =>
  if (decide (R13.2 = (0 : Int))) = true then (some (.done (.done (S2.2.2, (-1 : Int)))))
  else ((app 8 S2.2.2 ([R13.1])).bind fun E19 =>
  some (.go (IntKind.i64.wrap (S2.1 + R13.2), IntKind.i64.wrap (S2.2.1 + (1 : Int)), E19))))))
  else (some (.done (.go (S2.1, S2.2.2)))))
  (at_, (0 : Int), ([] : List Int)))
  (fun (T4 : Int × List Int) => some (T4.2, T4.1))

theorem spec_l6Vars_con (s : List UInt8) (at_ : Int) (n : Int)  (r : List Int × Int) (hm : spec_l6Vars s at_ n = some r) :
    Con Try.prog 42 [strV s, .int .i64 at_, .int .i64 n] [] [] (fun X : Value => .tuple #[X, .int .i64 r.2]) (fun X => [.own X (lc r.1)]) := by
  refine Con.intro (args := [strV s, .int .i64 at_, .int .i64 n]) (n := 46) (val := fun r (X : Value) => .tuple #[X, .int .i64 r.2]) (post := fun r X => [.own X (lc r.1)]) (m := spec_l6Vars s at_ n) Try.func42 rfl rfl rfl hm ?_
  intro w S _
  unfold spec_l6Vars
  refine TW.seq ?_
  refine TW.region ?_
  refine TO.y (Y.assign rfl) rfl rfl rfl ?_
  refine TO.y (Y.assign rfl) rfl rfl rfl ?_
  refine TO.nil ?_
  refine TE.next ?_
  refine TW.seq ?_
  refine TW.region ?_
  refine TO.ef (Ef.buildSlice (α := Int) (Vs := []) ([] : List Int) ke72 kz3 rfl rfl rfl rfl rfl) rfl rfl rfl (fun B1 => ?_)
  refine TO.y (Y.assign rfl) rfl rfl rfl ?_
  refine TO.nil ?_
  refine TE.next ?_
  refine TW.seq ?_
  refine TW.seq ?_
  refine TW.region ?_
  refine TO.y (Y.assign rfl) rfl rfl rfl ?_
  refine TO.nil ?_
  refine TE.next ?_
  refine TW.joinX (τ := Int × List Int) (X := Value) (fun T X => [(1, .int .i64 T.1), (8, X)]) (fun T X => [.own X (lc T.2)]) ?_ (fun T4 X5 => ?_)
  · refine TW.block ?_
    refine TW.loopX (σ := Int × Int × List Int) (X := Value) (fun T X => [(0, strV s), (1, .int .i64 T.1), (2, .int .i64 n), (8, X), (9, .int .i64 T.2.1)]) (fun T X => [.own X (lc T.2.2)]) (.slice (some ⟨B1, 0, none⟩) 0 0) [0] ⟨rfl, rfl, rfl, rfl, rfl, trivial⟩ rfl (fun S2 X3 => ?_)
    refine TW.seq ?_
    refine TW.seq ?_
    refine TW.region ?_
    refine TO.y (Y.move rfl) rfl rfl rfl ?_
    refine TO.y (Y.move rfl) rfl rfl rfl ?_
    refine TO.y (Y.lss rfl rfl) rfl rfl rfl ?_
    refine TO.nil ?_
    refine TE.next ?_
    refine TW.cond rfl (fun H6 => ?_) (fun H6 => ?_)
    · refine TW.skip ?_
      refine TE.next ?_
      refine TW.seq ?_
      refine TW.block ?_
      refine TW.seq ?_
      refine TW.seq ?_
      refine TW.joinBX (τ := Bool) (X := Unit) (fun T _ => [(0, strV s), (1, .int .i64 S2.1), (2, .int .i64 n), (8, X3), (9, .int .i64 S2.2.1), (25, .bool T)]) (fun _ _ => [.own X3 (lc S2.2.2)]) ?_ (fun T7 X8 => ?_)
      · refine TW.region ?_
        refine TO.y (Y.move rfl) rfl rfl rfl ?_
        refine TO.y (Y.lss rfl rfl) rfl rfl rfl ?_
        refine TO.y (Y.move rfl) rfl rfl rfl ?_
        refine TO.ite (b := decide (S2.1 < (0 : Int))) (fun H9 => ?_) (fun H9 => ?_)
        · refine TO.off (Gd.at 2 false 20 (decide (S2.1 < (0 : Int))) rfl rfl rfl (beq_tf H9)) rfl rfl ?_
          refine TO.off (Gd.at 2 false 20 (decide (S2.1 < (0 : Int))) rfl rfl rfl (beq_tf H9)) rfl rfl ?_
          refine TO.off (Gd.at 2 false 20 (decide (S2.1 < (0 : Int))) rfl rfl rfl (beq_tf H9)) rfl rfl ?_
          refine TO.off (Gd.at 2 false 20 (decide (S2.1 < (0 : Int))) rfl rfl rfl (beq_tf H9)) rfl rfl ?_
          refine TO.y (Y.pick_t H9 rfl rfl) rfl rfl rfl ?_
          refine TO.nil ?_
          exact TE.jb_go () [0] ⟨rfl, rfl, rfl, rfl, rfl, rfl, trivial⟩ rfl
        · refine TO.y (Y.move rfl) (Gd.at 2 false 20 (decide (S2.1 < (0 : Int))) rfl rfl rfl (beq_ff H9)) rfl rfl ?_
          refine TO.y (Y.move rfl) (Gd.at 2 false 20 (decide (S2.1 < (0 : Int))) rfl rfl rfl (beq_ff H9)) rfl rfl ?_
          refine TO.y (Y.slen ks9 rfl) (Gd.at 2 false 20 (decide (S2.1 < (0 : Int))) rfl rfl rfl (beq_ff H9)) rfl rfl ?_
          refine TO.y (Y.gtr rfl rfl) (Gd.at 2 false 20 (decide (S2.1 < (0 : Int))) rfl rfl rfl (beq_ff H9)) rfl rfl ?_
          refine TO.y (Y.pick_f H9 rfl rfl) rfl rfl rfl ?_
          refine TO.nil ?_
          exact TE.jb_go () [0] ⟨rfl, rfl, rfl, rfl, rfl, rfl, trivial⟩ rfl
      · refine TE.next ?_
        refine TW.cond rfl (fun H10 => ?_) (fun H10 => ?_)
        · refine TW.seq ?_
          refine TW.region ?_
          refine TO.y (Y.move rfl) rfl rfl rfl ?_
          refine TO.y (Y.assign rfl) rfl rfl rfl ?_
          refine TO.y (Y.assign rfl) rfl rfl rfl ?_
          refine TO.nil ?_
          refine TE.next ?_
          refine TW.ret ?_
          refine TE.then_ret ?_
          refine TE.block_ret ?_
          refine TE.then_ret ?_
          refine TE.lp_ret ?_
          refine TE.block_ret ?_
          refine TE.jn_done ?_
          refine TE.then_ret ?_
          exact TE.leaf fun _ _ hf_ hs_ => ret_any (rs := [.tmp 6, .tmp 7]) (vs := [X3, .int .i64 (-1 : Int)]) (.inl rfl) rfl ⟨rfl, ⟨rfl, trivial⟩⟩ hf_ hs_ ⟨X3, rfl, hs_.pulls [0] rfl⟩
        · refine TW.skip ?_
          refine TE.next ?_
          refine TW.seq ?_
          refine TW.region ?_
          refine TO.y (Y.move rfl) rfl rfl rfl ?_
          refine TO.y (Y.move rfl) rfl rfl rfl ?_
          refine TO.bind fun E11 H12 => ?_
          refine TO.y (Y.ssub_from H12 ks9 rfl rfl) rfl rfl rfl ?_
          refine TO.bind fun R13 H14 => ?_
          refine TO.ef (Ef.call (rest := [.own X3 (lc S2.2.2)]) [0] (spec_ReadVar_con E11  R13 H14) kc54 rfl rfl trivial) rfl rfl rfl (fun _ => ?_)
          refine TO.y (Y.move rfl) rfl rfl rfl ?_
          refine TO.y (Y.extract rfl rfl) rfl rfl rfl ?_
          refine TO.y (Y.extract rfl rfl) rfl rfl rfl ?_
          refine TO.y (Y.assign rfl) rfl rfl rfl ?_
          refine TO.y (Y.assign rfl) rfl rfl rfl ?_
          refine TO.nil ?_
          refine TE.next ?_
          refine TW.seq ?_
          refine TW.seq ?_
          refine TW.region ?_
          refine TO.y (Y.move rfl) rfl rfl rfl ?_
          refine TO.y (Y.eql rfl rfl) rfl rfl rfl ?_
          refine TO.nil ?_
          refine TE.next ?_
          refine TW.cond rfl (fun H16 => ?_) (fun H16 => ?_)
          · refine TW.seq ?_
            refine TW.region ?_
            refine TO.y (Y.move rfl) rfl rfl rfl ?_
            refine TO.y (Y.assign rfl) rfl rfl rfl ?_
            refine TO.y (Y.assign rfl) rfl rfl rfl ?_
            refine TO.nil ?_
            refine TE.next ?_
            refine TW.ret ?_
            refine TE.then_ret ?_
            refine TE.block_ret ?_
            refine TE.then_ret ?_
            refine TE.lp_ret ?_
            refine TE.block_ret ?_
            refine TE.jn_done ?_
            refine TE.then_ret ?_
            exact TE.leaf fun _ _ hf_ hs_ => ret_any (rs := [.tmp 6, .tmp 7]) (vs := [X3, .int .i64 (-1 : Int)]) (.inl rfl) rfl ⟨rfl, ⟨rfl, trivial⟩⟩ hf_ hs_ ⟨X3, rfl, hs_.pulls [0] rfl⟩
          · refine TW.skip ?_
            refine TE.next ?_
            refine TW.seq ?_
            refine TW.region ?_
            refine TO.y (Y.move rfl) rfl rfl rfl ?_
            refine TO.y (Y.move rfl) rfl rfl rfl ?_
            refine TO.ef (Ef.buildSlice (α := Int) (Vs := [.int .i64 R13.1]) [R13.1] ke72 kz3 rfl rfl rfl rfl rfl) rfl rfl rfl (fun B17 => ?_)
            refine TO.bind fun E19 H20 => ?_
            refine TO.ef (Ef.append (α := Int) (is' := [.own (.slice (some ⟨B17, 0, none⟩) 1 1) (lc ([R13.1]))]) [1, 0] H20 ke72 kz3 rfl rfl rfl rfl rfl (Can.own 0 rfl)) rfl rfl rfl (fun V18 => ?_)
            refine TO.y (Y.assign rfl) rfl rfl rfl ?_
            refine TO.nil ?_
            refine TE.next ?_
            refine TW.region ?_
            refine TO.y (Y.move rfl) rfl rfl rfl ?_
            refine TO.y (Y.move rfl) rfl rfl rfl ?_
            refine TO.y (Y.add rfl rfl) rfl rfl rfl ?_
            refine TO.y (Y.assign rfl) rfl rfl rfl ?_
            refine TO.nil ?_
            refine TE.block_normal ?_
            refine TE.next ?_
            refine TW.region ?_
            refine TO.y (Y.move rfl) rfl rfl rfl ?_
            refine TO.y (Y.add rfl rfl) rfl rfl rfl ?_
            refine TO.y (Y.assign rfl) rfl rfl rfl ?_
            refine TO.nil ?_
            exact TE.lp_go V18 [0] ⟨rfl, rfl, rfl, rfl, rfl, trivial⟩ rfl
    · refine TW.exit ?_
      refine TE.then_exit ?_
      refine TE.lp_exit ?_
      refine TE.block_exit ?_
      exact TE.jn_go X3 [0] ⟨rfl, rfl, trivial⟩ rfl
  · refine TE.next ?_
    refine TW.seq ?_
    refine TW.region ?_
    refine TO.y (Y.move rfl) rfl rfl rfl ?_
    refine TO.y (Y.move rfl) rfl rfl rfl ?_
    refine TO.y (Y.assign rfl) rfl rfl rfl ?_
    refine TO.y (Y.assign rfl) rfl rfl rfl ?_
    refine TO.nil ?_
    refine TE.next ?_
    refine TW.ret ?_
    exact TE.leaf fun _ _ hf_ hs_ => ret_any (rs := [.tmp 6, .tmp 7]) (vs := [X5, .int .i64 T4.1]) (.inl rfl) rfl ⟨rfl, ⟨rfl, trivial⟩⟩ hf_ hs_ ⟨X5, rfl, hs_.pulls [0] rfl⟩

/-- loop.example/g00950/spec.Fixed -/
noncomputable def spec_Fixed (n : Int) (width : Int) : Option (List UInt8) :=
  ((spec_l1In width (1 : Int) (7 : Int)).bind fun R3 =>
  if (!R3) = true then (some true)
  else (some (decide (n < (0 : Int))))).bind (fun (T1 : Bool) =>
  if T1 = true then (some ([]))
  else (bindC (loopO (fun (S8 : Int × List UInt8 × Int) => if (decide (S8.2.2 < width)) = true then ((cat ([toU8 (Int.tmod S8.1 (256 : Int))]) S8.2.1).bind fun E14 =>
  some (.go (IntKind.i64.wrap (Int.tdiv S8.1 (256 : Int)), E14, IntKind.i64.wrap (S8.2.2 + (1 : Int)))))
  else (some (.done (.go (S8.1, S8.2.1)))))
  (n, [], (0 : Int)))
  (fun (T10 : Int × List UInt8) => if (decide (T10.1 > (0 : Int))) = true then (some ([]))
  else (some T10.2))))

theorem spec_Fixed_con (n : Int) (width : Int)  (r : List UInt8) (hm : spec_Fixed n width = some r) :
    Con Try.prog 68 [.int .i64 n, .int .i64 width] [] [] (fun _ : Unit => strV r) (fun _ => []) := by
  refine Con.intro (args := [.int .i64 n, .int .i64 width]) (n := 31) (val := fun r (_ : Unit) => strV r) (post := fun _ _ => []) (m := spec_Fixed n width) Try.func68 rfl rfl rfl hm ?_
  intro w S _
  unfold spec_Fixed
  refine TW.seq ?_
  refine TW.region ?_
  refine TO.y (Y.assign rfl) rfl rfl rfl ?_
  refine TO.nil ?_
  refine TE.next ?_
  refine TW.seq ?_
  refine TW.seq ?_
  refine TW.joinBX (τ := Bool) (X := Unit) (fun T _ => [(0, .int .i64 n), (1, .int .i64 width), (13, .bool T)]) (fun _ _ => []) ?_ (fun T1 X2 => ?_)
  · refine TW.region ?_
    refine TO.y (Y.move rfl) rfl rfl rfl ?_
    refine TO.bind fun R3 H4 => ?_
    refine TO.ef (Ef.call (rest := []) [] (spec_l1In_con width (1 : Int) (7 : Int)  R3 H4) kc27 rfl rfl trivial) rfl rfl rfl (fun _ => ?_)
    refine TO.y (Y.not rfl) rfl rfl rfl ?_
    refine TO.y (Y.move rfl) rfl rfl rfl ?_
    refine TO.ite (b := !R3) (fun H6 => ?_) (fun H6 => ?_)
    · refine TO.off (Gd.at 3 false 10 (!R3) rfl rfl rfl (beq_tf H6)) rfl rfl ?_
      refine TO.off (Gd.at 3 false 10 (!R3) rfl rfl rfl (beq_tf H6)) rfl rfl ?_
      refine TO.y (Y.pick_t H6 rfl rfl) rfl rfl rfl ?_
      refine TO.nil ?_
      exact TE.jb_go () [] ⟨rfl, rfl, rfl, trivial⟩ rfl
    · refine TO.y (Y.move rfl) (Gd.at 3 false 10 (!R3) rfl rfl rfl (beq_ff H6)) rfl rfl ?_
      refine TO.y (Y.lss rfl rfl) (Gd.at 3 false 10 (!R3) rfl rfl rfl (beq_ff H6)) rfl rfl ?_
      refine TO.y (Y.pick_f H6 rfl rfl) rfl rfl rfl ?_
      refine TO.nil ?_
      exact TE.jb_go () [] ⟨rfl, rfl, rfl, trivial⟩ rfl
  · refine TE.next ?_
    refine TW.cond rfl (fun H7 => ?_) (fun H7 => ?_)
    · refine TW.seq ?_
      refine TW.region ?_
      refine TO.y (Y.assign rfl) rfl rfl rfl ?_
      refine TO.nil ?_
      refine TE.next ?_
      refine TW.ret ?_
      refine TE.then_ret ?_
      exact TE.leaf fun _ _ hf_ hs_ => ret_any (rs := [.tmp 4]) (vs := [strV ([])]) (.inl rfl) rfl ⟨rfl, trivial⟩ hf_ hs_ ⟨(), rfl, hs_.pulls [] rfl⟩
    · refine TW.skip ?_
      refine TE.next ?_
      refine TW.seq ?_
      refine TW.region ?_
      refine TO.y (Y.assign rfl) rfl rfl rfl ?_
      refine TO.nil ?_
      refine TE.next ?_
      refine TW.seq ?_
      refine TW.seq ?_
      refine TW.region ?_
      refine TO.y (Y.assign rfl) rfl rfl rfl ?_
      refine TO.nil ?_
      refine TE.next ?_
      refine TW.joinX (τ := Int × List UInt8) (X := Unit) (fun T _ => [(0, .int .i64 T.1), (5, strV T.2)]) (fun _ _ => []) ?_ (fun T10 X11 => ?_)
      · refine TW.block ?_
        refine TW.loopX (σ := Int × List UInt8 × Int) (X := Unit) (fun T _ => [(0, .int .i64 T.1), (1, .int .i64 width), (5, strV T.2.1), (6, .int .i64 T.2.2)]) (fun _ _ => []) () [] ⟨rfl, rfl, rfl, rfl, trivial⟩ rfl (fun S8 X9 => ?_)
        refine TW.seq ?_
        refine TW.seq ?_
        refine TW.region ?_
        refine TO.y (Y.move rfl) rfl rfl rfl ?_
        refine TO.y (Y.move rfl) rfl rfl rfl ?_
        refine TO.y (Y.lss rfl rfl) rfl rfl rfl ?_
        refine TO.nil ?_
        refine TE.next ?_
        refine TW.cond rfl (fun H12 => ?_) (fun H12 => ?_)
        · refine TW.skip ?_
          refine TE.next ?_
          refine TW.seq ?_
          refine TW.block ?_
          refine TW.seq ?_
          refine TW.region ?_
          refine TO.y (Y.move rfl) rfl rfl rfl ?_
          refine TO.y (Y.rem (by decide) rfl rfl) rfl rfl rfl ?_
          refine TO.y (Y.conv8 ki3 ki5 rfl) rfl rfl rfl ?_
          refine TO.ef (Ef.buildSlice (α := UInt8) (Vs := [.int .u8 (((toU8 (Int.tmod S8.1 (256 : Int))).toNat : Nat) : Int)]) [toU8 (Int.tmod S8.1 (256 : Int))] ke83 kz5 rfl rfl rfl rfl rfl) rfl rfl rfl (fun B13 => ?_)
          refine TO.y (Y.toStr ke83 ki5 ks9 (Can.own 0 rfl) rfl) rfl rfl rfl ?_
          refine TO.y (Y.move rfl) rfl rfl rfl ?_
          refine TO.bind fun E14 H15 => ?_
          refine TO.y (Y.cat H15 rfl rfl) rfl rfl rfl ?_
          refine TO.y (Y.assign rfl) rfl rfl rfl ?_
          refine TO.nil ?_
          refine TE.next ?_
          refine TW.region ?_
          refine TO.y (Y.move rfl) rfl rfl rfl ?_
          refine TO.y (Y.quo (by decide) rfl rfl) rfl rfl rfl ?_
          refine TO.y (Y.assign rfl) rfl rfl rfl ?_
          refine TO.nil ?_
          refine TE.block_normal ?_
          refine TE.next ?_
          refine TW.region ?_
          refine TO.y (Y.move rfl) rfl rfl rfl ?_
          refine TO.y (Y.add rfl rfl) rfl rfl rfl ?_
          refine TO.y (Y.assign rfl) rfl rfl rfl ?_
          refine TO.nil ?_
          exact TE.lp_go () [] ⟨rfl, rfl, rfl, rfl, trivial⟩ rfl
        · refine TW.exit ?_
          refine TE.then_exit ?_
          refine TE.lp_exit ?_
          refine TE.block_exit ?_
          exact TE.jn_go () [] ⟨rfl, rfl, trivial⟩ rfl
      · refine TE.next ?_
        refine TW.seq ?_
        refine TW.seq ?_
        refine TW.region ?_
        refine TO.y (Y.move rfl) rfl rfl rfl ?_
        refine TO.y (Y.gtr rfl rfl) rfl rfl rfl ?_
        refine TO.nil ?_
        refine TE.next ?_
        refine TW.cond rfl (fun H16 => ?_) (fun H16 => ?_)
        · refine TW.seq ?_
          refine TW.region ?_
          refine TO.y (Y.assign rfl) rfl rfl rfl ?_
          refine TO.nil ?_
          refine TE.next ?_
          refine TW.ret ?_
          refine TE.then_ret ?_
          exact TE.leaf fun _ _ hf_ hs_ => ret_any (rs := [.tmp 4]) (vs := [strV ([])]) (.inl rfl) rfl ⟨rfl, trivial⟩ hf_ hs_ ⟨(), rfl, hs_.pulls [] rfl⟩
        · refine TW.skip ?_
          refine TE.next ?_
          refine TW.seq ?_
          refine TW.region ?_
          refine TO.y (Y.move rfl) rfl rfl rfl ?_
          refine TO.y (Y.assign rfl) rfl rfl rfl ?_
          refine TO.nil ?_
          refine TE.next ?_
          refine TW.ret ?_
          exact TE.leaf fun _ _ hf_ hs_ => ret_any (rs := [.tmp 4]) (vs := [strV T10.2]) (.inl rfl) rfl ⟨rfl, trivial⟩ hf_ hs_ ⟨(), rfl, hs_.pulls [] rfl⟩

/-- loop.example/g00950/spec.NonceOf -/
noncomputable def spec_NonceOf (kind : Int) (n : Int) : Option (List UInt8) :=
  ((spec_l1In kind (0 : Int) (255 : Int)).bind fun R3 =>
  if (!R3) = true then (some true)
  else ((spec_l1In n (0 : Int) (562949953421311 : Int)).bind fun R7 =>
  some (!R7))).bind (fun (T1 : Bool) =>
  if T1 = true then (some ([]))
  else ((spec_Fixed n (7 : Int)).bind fun R12 =>
  (cat ([toU8 kind, (0 : UInt8), (0 : UInt8), (0 : UInt8), (0 : UInt8)]) R12).bind fun E17 =>
  some E17))

theorem spec_NonceOf_con (kind : Int) (n : Int)  (r : List UInt8) (hm : spec_NonceOf kind n = some r) :
    Con Try.prog 57 [.int .i64 kind, .int .i64 n] [] [] (fun _ : Unit => strV r) (fun _ => []) := by
  refine Con.intro (args := [.int .i64 kind, .int .i64 n]) (n := 20) (val := fun r (_ : Unit) => strV r) (post := fun _ _ => []) (m := spec_NonceOf kind n) Try.func57 rfl rfl rfl hm ?_
  intro w S _
  unfold spec_NonceOf
  refine TW.seq ?_
  refine TW.region ?_
  refine TO.y (Y.assign rfl) rfl rfl rfl ?_
  refine TO.nil ?_
  refine TE.next ?_
  refine TW.seq ?_
  refine TW.seq ?_
  refine TW.joinBX (τ := Bool) (X := Unit) (fun T _ => [(0, .int .i64 kind), (1, .int .i64 n), (12, .bool T)]) (fun _ _ => []) ?_ (fun T1 X2 => ?_)
  · refine TW.region ?_
    refine TO.y (Y.move rfl) rfl rfl rfl ?_
    refine TO.bind fun R3 H4 => ?_
    refine TO.ef (Ef.call (rest := []) [] (spec_l1In_con kind (0 : Int) (255 : Int)  R3 H4) kc27 rfl rfl trivial) rfl rfl rfl (fun _ => ?_)
    refine TO.y (Y.not rfl) rfl rfl rfl ?_
    refine TO.y (Y.move rfl) rfl rfl rfl ?_
    refine TO.ite (b := !R3) (fun H6 => ?_) (fun H6 => ?_)
    · refine TO.off (Gd.at 3 false 8 (!R3) rfl rfl rfl (beq_tf H6)) rfl rfl ?_
      refine TO.off (Gd.at 3 false 8 (!R3) rfl rfl rfl (beq_tf H6)) rfl rfl ?_
      refine TO.off (Gd.at 3 false 8 (!R3) rfl rfl rfl (beq_tf H6)) rfl rfl ?_
      refine TO.y (Y.pick_t H6 rfl rfl) rfl rfl rfl ?_
      refine TO.nil ?_
      exact TE.jb_go () [] ⟨rfl, rfl, rfl, trivial⟩ rfl
    · refine TO.y (Y.move rfl) (Gd.at 3 false 8 (!R3) rfl rfl rfl (beq_ff H6)) rfl rfl ?_
      refine TO.bind fun R7 H8 => ?_
      refine TO.ef (Ef.call (rest := []) [] (spec_l1In_con n (0 : Int) (562949953421311 : Int)  R7 H8) kc27 rfl rfl trivial) (Gd.at 3 false 8 (!R3) rfl rfl rfl (beq_ff H6)) rfl rfl (fun _ => ?_)
      refine TO.y (Y.not rfl) (Gd.at 3 false 8 (!R3) rfl rfl rfl (beq_ff H6)) rfl rfl ?_
      refine TO.y (Y.pick_f H6 rfl rfl) rfl rfl rfl ?_
      refine TO.nil ?_
      exact TE.jb_go () [] ⟨rfl, rfl, rfl, trivial⟩ rfl
  · refine TE.next ?_
    refine TW.cond rfl (fun H10 => ?_) (fun H10 => ?_)
    · refine TW.seq ?_
      refine TW.region ?_
      refine TO.y (Y.assign rfl) rfl rfl rfl ?_
      refine TO.nil ?_
      refine TE.next ?_
      refine TW.ret ?_
      refine TE.then_ret ?_
      exact TE.leaf fun _ _ hf_ hs_ => ret_any (rs := [.tmp 4]) (vs := [strV ([])]) (.inl rfl) rfl ⟨rfl, trivial⟩ hf_ hs_ ⟨(), rfl, hs_.pulls [] rfl⟩
    · refine TW.skip ?_
      refine TE.next ?_
      refine TW.seq ?_
      refine TW.bind fun R12 H13 => ?_
      refine TW.bind fun E17 H18 => ?_
      refine TW.joinU (X := Unit) (fun _ _ => [(4, strV E17)]) (fun _ _ => []) ?_ (fun _ X20 => ?_)
      · refine TW.draw (isH := []) hMix ?_
        refine TA.y (listed' := #[true, false, false, false, false, false, false, false]) 0 [] rfl (Y.move rfl) rfl rfl rfl (by kernel_rfl) (by kernel_rfl) (by kernel_rfl) rfl rfl ?_
        refine TA.y (listed' := #[true, true, false, false, false, false, false, false]) 1 [] rfl (Y.conv8 ki3 ki5 rfl) rfl rfl rfl (by kernel_rfl) (by kernel_rfl) (by kernel_rfl) rfl rfl ?_
        refine TA.y (listed' := #[true, true, false, false, true, false, false, false]) 4 [] rfl (Y.move rfl) rfl rfl rfl (by kernel_rfl) (by kernel_rfl) (by kernel_rfl) rfl rfl ?_
        refine TA.two 2 5 (by kernel_rfl) ?_ ?_
        · refine TX.ef (listed' := #[true, true, true, false, true, false, false, false]) [] rfl (Ef.buildSlice (α := UInt8) (Vs := [.int .u8 (((toU8 kind).toNat : Nat) : Int), .int .u8 (0 : Int), .int .u8 (0 : Int), .int .u8 (0 : Int), .int .u8 (0 : Int)]) [toU8 kind, (0 : UInt8), (0 : UInt8), (0 : UInt8), (0 : UInt8)] ke83 kz5 rfl rfl rfl rfl rfl) rfl rfl rfl rfl (fun _ => rfl) (fun B21 => ?_)
          refine TA.two 3 5 (by kernel_rfl) ?_ ?_
          · refine TX.y (listed' := #[true, true, true, true, true, false, false, false]) [] rfl (Y.toStr ke83 ki5 ks9 (Can.own 0 rfl) rfl) rfl rfl rfl rfl rfl ?_
            refine TA.one 5 (by kernel_rfl) ?_
            refine TX.ef (listed' := #[true, true, true, true, true, true, false, false]) [] rfl (Ef.call (rest := [.own (.slice (some ⟨B21, 0, none⟩) 5 5) (lc ([toU8 kind, (0 : UInt8), (0 : UInt8), (0 : UInt8), (0 : UInt8)]))]) [0] (spec_Fixed_con n (7 : Int)  R12 H13) kc68 rfl rfl trivial) rfl rfl rfl rfl (fun _ => rfl) (fun _ => ?_)
            refine TA.y (listed' := #[true, true, true, true, true, true, true, false]) 6 [] rfl (Y.cat H18 rfl rfl) rfl rfl rfl (by kernel_rfl) (by kernel_rfl) (by kernel_rfl) rfl rfl ?_
            refine TA.y (listed' := #[true, true, true, true, true, true, true, true]) 7 [] rfl (Y.assign rfl) rfl rfl rfl (by kernel_rfl) (by kernel_rfl) (by kernel_rfl) rfl rfl ?_
            refine TA.nil (by kernel_rfl) ?_
            exact TE.jb_go () [] ⟨rfl, trivial⟩ rfl
          · refine TX.ef (listed' := #[true, true, true, false, true, true, false, false]) [] rfl (Ef.call (rest := [.own (.slice (some ⟨B21, 0, none⟩) 5 5) (lc ([toU8 kind, (0 : UInt8), (0 : UInt8), (0 : UInt8), (0 : UInt8)]))]) [0] (spec_Fixed_con n (7 : Int)  R12 H13) kc68 rfl rfl trivial) rfl rfl rfl rfl (fun _ => rfl) (fun _ => ?_)
            refine TA.one 3 (by kernel_rfl) ?_
            refine TX.y (listed' := #[true, true, true, true, true, true, false, false]) [] rfl (Y.toStr ke83 ki5 ks9 (Can.own 0 rfl) rfl) rfl rfl rfl rfl rfl ?_
            refine TA.y (listed' := #[true, true, true, true, true, true, true, false]) 6 [] rfl (Y.cat H18 rfl rfl) rfl rfl rfl (by kernel_rfl) (by kernel_rfl) (by kernel_rfl) rfl rfl ?_
            refine TA.y (listed' := #[true, true, true, true, true, true, true, true]) 7 [] rfl (Y.assign rfl) rfl rfl rfl (by kernel_rfl) (by kernel_rfl) (by kernel_rfl) rfl rfl ?_
            refine TA.nil (by kernel_rfl) ?_
            exact TE.jb_go () [] ⟨rfl, trivial⟩ rfl
        · refine TX.ef (listed' := #[true, true, false, false, true, true, false, false]) [] rfl (Ef.call (rest := []) [] (spec_Fixed_con n (7 : Int)  R12 H13) kc68 rfl rfl trivial) rfl rfl rfl rfl (fun _ => rfl) (fun _ => ?_)
          refine TA.one 2 (by kernel_rfl) ?_
          refine TX.ef (listed' := #[true, true, true, false, true, true, false, false]) [] rfl (Ef.buildSlice (α := UInt8) (Vs := [.int .u8 (((toU8 kind).toNat : Nat) : Int), .int .u8 (0 : Int), .int .u8 (0 : Int), .int .u8 (0 : Int), .int .u8 (0 : Int)]) [toU8 kind, (0 : UInt8), (0 : UInt8), (0 : UInt8), (0 : UInt8)] ke83 kz5 rfl rfl rfl rfl rfl) rfl rfl rfl rfl (fun _ => rfl) (fun B23 => ?_)
          refine TA.one 3 (by kernel_rfl) ?_
          refine TX.y (listed' := #[true, true, true, true, true, true, false, false]) [] rfl (Y.toStr ke83 ki5 ks9 (Can.own 0 rfl) rfl) rfl rfl rfl rfl rfl ?_
          refine TA.y (listed' := #[true, true, true, true, true, true, true, false]) 6 [] rfl (Y.cat H18 rfl rfl) rfl rfl rfl (by kernel_rfl) (by kernel_rfl) (by kernel_rfl) rfl rfl ?_
          refine TA.y (listed' := #[true, true, true, true, true, true, true, true]) 7 [] rfl (Y.assign rfl) rfl rfl rfl (by kernel_rfl) (by kernel_rfl) (by kernel_rfl) rfl rfl ?_
          refine TA.nil (by kernel_rfl) ?_
          exact TE.jb_go () [] ⟨rfl, trivial⟩ rfl
      · refine TE.next ?_
        refine TW.ret ?_
        exact TE.leaf fun _ _ hf_ hs_ => ret_any (rs := [.tmp 4]) (vs := [strV E17]) (.inl rfl) rfl ⟨rfl, trivial⟩ hf_ hs_ ⟨(), rfl, hs_.pulls [] rfl⟩

/-- loop.example/g00950/spec.l3Little -/
noncomputable def spec_l3Little (s : List UInt8) (at_ : Int) : Option Int :=
  (sidx s at_).bind fun E1 =>
  (sidx s (IntKind.i64.wrap (at_ + (1 : Int)))).bind fun E3 =>
  (sidx s (IntKind.i64.wrap (at_ + (2 : Int)))).bind fun E5 =>
  (sidx s (IntKind.i64.wrap (at_ + (3 : Int)))).bind fun E7 =>
  some (ior .i64 (ior .i64 (ior .i64 (IntKind.i64.wrap ((E1.toNat : Nat) : Int)) (ishl .i64 (IntKind.i64.wrap ((E3.toNat : Nat) : Int)) (8 : Int))) (ishl .i64 (IntKind.i64.wrap ((E5.toNat : Nat) : Int)) (16 : Int))) (ishl .i64 (IntKind.i64.wrap ((E7.toNat : Nat) : Int)) (24 : Int)))

theorem spec_l3Little_con (s : List UInt8) (at_ : Int)  (r : Int) (hm : spec_l3Little s at_ = some r) :
    Con Try.prog 73 [strV s, .int .i64 at_] [] [] (fun _ : Unit => .int .i64 r) (fun _ => []) := by
  refine Con.intro (args := [strV s, .int .i64 at_]) (n := 30) (val := fun r (_ : Unit) => .int .i64 r) (post := fun _ _ => []) (m := spec_l3Little s at_) Try.func73 rfl rfl rfl hm ?_
  intro w S _
  unfold spec_l3Little
  refine TW.seq ?_
  refine TW.region ?_
  refine TO.y (Y.assign rfl) rfl rfl rfl ?_
  refine TO.nil ?_
  refine TE.next ?_
  refine TW.seq ?_
  refine TW.draw (isH := []) hMix ?_
  refine TA.y (listed' := #[true, false, false, false, false, false, false, false, false, false, false, false, false, false, false, false, false, false, false, false, false, false, false, false, false, false]) 0 [] rfl (Y.move rfl) rfl rfl rfl (by kernel_rfl) (by kernel_rfl) (by kernel_rfl) rfl rfl ?_
  refine TA.y (listed' := #[true, true, false, false, false, false, false, false, false, false, false, false, false, false, false, false, false, false, false, false, false, false, false, false, false, false]) 1 [] rfl (Y.move rfl) rfl rfl rfl (by kernel_rfl) (by kernel_rfl) (by kernel_rfl) rfl rfl ?_
  refine TA.bind fun E1 H2 => ?_
  refine TA.y (listed' := #[true, true, true, false, false, false, false, false, false, false, false, false, false, false, false, false, false, false, false, false, false, false, false, false, false, false]) 2 [] rfl (Y.sidx H2 ks9 rfl rfl) rfl rfl rfl (by kernel_rfl) (by kernel_rfl) (by kernel_rfl) rfl rfl ?_
  refine TA.y (listed' := #[true, true, true, true, false, false, false, false, false, false, false, false, false, false, false, false, false, false, false, false, false, false, false, false, false, false]) 3 [] rfl (Y.conv ki5 ki3 rfl) rfl rfl rfl (by kernel_rfl) (by kernel_rfl) (by kernel_rfl) rfl rfl ?_
  refine TA.y (listed' := #[true, true, true, true, true, false, false, false, false, false, false, false, false, false, false, false, false, false, false, false, false, false, false, false, false, false]) 4 [] rfl (Y.move rfl) rfl rfl rfl (by kernel_rfl) (by kernel_rfl) (by kernel_rfl) rfl rfl ?_
  refine TA.y (listed' := #[true, true, true, true, true, true, false, false, false, false, false, false, false, false, false, false, false, false, false, false, false, false, false, false, false, false]) 5 [] rfl (Y.move rfl) rfl rfl rfl (by kernel_rfl) (by kernel_rfl) (by kernel_rfl) rfl rfl ?_
  refine TA.y (listed' := #[true, true, true, true, true, true, true, false, false, false, false, false, false, false, false, false, false, false, false, false, false, false, false, false, false, false]) 6 [] rfl (Y.add rfl rfl) rfl rfl rfl (by kernel_rfl) (by kernel_rfl) (by kernel_rfl) rfl rfl ?_
  refine TA.bind fun E3 H4 => ?_
  refine TA.y (listed' := #[true, true, true, true, true, true, true, true, false, false, false, false, false, false, false, false, false, false, false, false, false, false, false, false, false, false]) 7 [] rfl (Y.sidx H4 ks9 rfl rfl) rfl rfl rfl (by kernel_rfl) (by kernel_rfl) (by kernel_rfl) rfl rfl ?_
  refine TA.y (listed' := #[true, true, true, true, true, true, true, true, true, false, false, false, false, false, false, false, false, false, false, false, false, false, false, false, false, false]) 8 [] rfl (Y.conv ki5 ki3 rfl) rfl rfl rfl (by kernel_rfl) (by kernel_rfl) (by kernel_rfl) rfl rfl ?_
  refine TA.y (listed' := #[true, true, true, true, true, true, true, true, true, true, false, false, false, false, false, false, false, false, false, false, false, false, false, false, false, false]) 9 [] rfl (Y.shl (by decide) rfl rfl) rfl rfl rfl (by kernel_rfl) (by kernel_rfl) (by kernel_rfl) rfl rfl ?_
  refine TA.y (listed' := #[true, true, true, true, true, true, true, true, true, true, true, false, false, false, false, false, false, false, false, false, false, false, false, false, false, false]) 10 [] rfl (Y.or rfl rfl) rfl rfl rfl (by kernel_rfl) (by kernel_rfl) (by kernel_rfl) rfl rfl ?_
  refine TA.y (listed' := #[true, true, true, true, true, true, true, true, true, true, true, true, false, false, false, false, false, false, false, false, false, false, false, false, false, false]) 11 [] rfl (Y.move rfl) rfl rfl rfl (by kernel_rfl) (by kernel_rfl) (by kernel_rfl) rfl rfl ?_
  refine TA.y (listed' := #[true, true, true, true, true, true, true, true, true, true, true, true, true, false, false, false, false, false, false, false, false, false, false, false, false, false]) 12 [] rfl (Y.move rfl) rfl rfl rfl (by kernel_rfl) (by kernel_rfl) (by kernel_rfl) rfl rfl ?_
  refine TA.y (listed' := #[true, true, true, true, true, true, true, true, true, true, true, true, true, true, false, false, false, false, false, false, false, false, false, false, false, false]) 13 [] rfl (Y.add rfl rfl) rfl rfl rfl (by kernel_rfl) (by kernel_rfl) (by kernel_rfl) rfl rfl ?_
  refine TA.bind fun E5 H6 => ?_
  refine TA.y (listed' := #[true, true, true, true, true, true, true, true, true, true, true, true, true, true, true, false, false, false, false, false, false, false, false, false, false, false]) 14 [] rfl (Y.sidx H6 ks9 rfl rfl) rfl rfl rfl (by kernel_rfl) (by kernel_rfl) (by kernel_rfl) rfl rfl ?_
  refine TA.y (listed' := #[true, true, true, true, true, true, true, true, true, true, true, true, true, true, true, true, false, false, false, false, false, false, false, false, false, false]) 15 [] rfl (Y.conv ki5 ki3 rfl) rfl rfl rfl (by kernel_rfl) (by kernel_rfl) (by kernel_rfl) rfl rfl ?_
  refine TA.y (listed' := #[true, true, true, true, true, true, true, true, true, true, true, true, true, true, true, true, true, false, false, false, false, false, false, false, false, false]) 16 [] rfl (Y.shl (by decide) rfl rfl) rfl rfl rfl (by kernel_rfl) (by kernel_rfl) (by kernel_rfl) rfl rfl ?_
  refine TA.y (listed' := #[true, true, true, true, true, true, true, true, true, true, true, true, true, true, true, true, true, true, false, false, false, false, false, false, false, false]) 17 [] rfl (Y.or rfl rfl) rfl rfl rfl (by kernel_rfl) (by kernel_rfl) (by kernel_rfl) rfl rfl ?_
  refine TA.y (listed' := #[true, true, true, true, true, true, true, true, true, true, true, true, true, true, true, true, true, true, true, false, false, false, false, false, false, false]) 18 [] rfl (Y.move rfl) rfl rfl rfl (by kernel_rfl) (by kernel_rfl) (by kernel_rfl) rfl rfl ?_
  refine TA.y (listed' := #[true, true, true, true, true, true, true, true, true, true, true, true, true, true, true, true, true, true, true, true, false, false, false, false, false, false]) 19 [] rfl (Y.move rfl) rfl rfl rfl (by kernel_rfl) (by kernel_rfl) (by kernel_rfl) rfl rfl ?_
  refine TA.y (listed' := #[true, true, true, true, true, true, true, true, true, true, true, true, true, true, true, true, true, true, true, true, true, false, false, false, false, false]) 20 [] rfl (Y.add rfl rfl) rfl rfl rfl (by kernel_rfl) (by kernel_rfl) (by kernel_rfl) rfl rfl ?_
  refine TA.bind fun E7 H8 => ?_
  refine TA.y (listed' := #[true, true, true, true, true, true, true, true, true, true, true, true, true, true, true, true, true, true, true, true, true, true, false, false, false, false]) 21 [] rfl (Y.sidx H8 ks9 rfl rfl) rfl rfl rfl (by kernel_rfl) (by kernel_rfl) (by kernel_rfl) rfl rfl ?_
  refine TA.y (listed' := #[true, true, true, true, true, true, true, true, true, true, true, true, true, true, true, true, true, true, true, true, true, true, true, false, false, false]) 22 [] rfl (Y.conv ki5 ki3 rfl) rfl rfl rfl (by kernel_rfl) (by kernel_rfl) (by kernel_rfl) rfl rfl ?_
  refine TA.y (listed' := #[true, true, true, true, true, true, true, true, true, true, true, true, true, true, true, true, true, true, true, true, true, true, true, true, false, false]) 23 [] rfl (Y.shl (by decide) rfl rfl) rfl rfl rfl (by kernel_rfl) (by kernel_rfl) (by kernel_rfl) rfl rfl ?_
  refine TA.y (listed' := #[true, true, true, true, true, true, true, true, true, true, true, true, true, true, true, true, true, true, true, true, true, true, true, true, true, false]) 24 [] rfl (Y.or rfl rfl) rfl rfl rfl (by kernel_rfl) (by kernel_rfl) (by kernel_rfl) rfl rfl ?_
  refine TA.y (listed' := #[true, true, true, true, true, true, true, true, true, true, true, true, true, true, true, true, true, true, true, true, true, true, true, true, true, true]) 25 [] rfl (Y.assign rfl) rfl rfl rfl (by kernel_rfl) (by kernel_rfl) (by kernel_rfl) rfl rfl ?_
  refine TA.nil (by kernel_rfl) ?_
  refine TE.next ?_
  refine TW.ret ?_
  exact TE.leaf fun _ _ hf_ hs_ => ret_any (rs := [.tmp 4]) (vs := [.int .i64 (ior .i64 (ior .i64 (ior .i64 (IntKind.i64.wrap ((E1.toNat : Nat) : Int)) (ishl .i64 (IntKind.i64.wrap ((E3.toNat : Nat) : Int)) (8 : Int))) (ishl .i64 (IntKind.i64.wrap ((E5.toNat : Nat) : Int)) (16 : Int))) (ishl .i64 (IntKind.i64.wrap ((E7.toNat : Nat) : Int)) (24 : Int)))]) (.inl rfl) rfl ⟨rfl, trivial⟩ hf_ hs_ ⟨(), rfl, hs_.pulls [] rfl⟩

/-- loop.example/g00950/spec.l3Word -/
noncomputable def spec_l3Word (x : Int) : Option Int :=
  some (iand .i64 x (4294967295 : Int))

theorem spec_l3Word_con (x : Int)  (r : Int) (hm : spec_l3Word x = some r) :
    Con Try.prog 75 [.int .i64 x] [] [] (fun _ : Unit => .int .i64 r) (fun _ => []) := by
  refine Con.intro (args := [.int .i64 x]) (n := 5) (val := fun r (_ : Unit) => .int .i64 r) (post := fun _ _ => []) (m := spec_l3Word x) Try.func75 rfl rfl rfl hm ?_
  intro w S _
  unfold spec_l3Word
  refine TW.seq ?_
  refine TW.region ?_
  refine TO.y (Y.assign rfl) rfl rfl rfl ?_
  refine TO.nil ?_
  refine TE.next ?_
  refine TW.seq ?_
  refine TW.region ?_
  refine TO.y (Y.move rfl) rfl rfl rfl ?_
  refine TO.y (Y.and rfl rfl) rfl rfl rfl ?_
  refine TO.y (Y.assign rfl) rfl rfl rfl ?_
  refine TO.nil ?_
  refine TE.next ?_
  refine TW.ret ?_
  exact TE.leaf fun _ _ hf_ hs_ => ret_any (rs := [.tmp 2]) (vs := [.int .i64 (iand .i64 x (4294967295 : Int))]) (.inl rfl) rfl ⟨rfl, trivial⟩ hf_ hs_ ⟨(), rfl, hs_.pulls [] rfl⟩

/-- loop.example/g00950/spec.l3Left -/
noncomputable def spec_l3Left (x : Int) (n : Int) : Option Int :=
  (nn n).bind fun E1 =>
  (spec_l3Word (ior .i64 (ishl .i64 x n) (ishr .i64 x (IntKind.u64.wrap ((32 : Int) - n))))).bind fun R3 =>
  some R3

theorem spec_l3Left_con (x : Int) (n : Int)  (r : Int) (hm : spec_l3Left x n = some r) :
    Con Try.prog 78 [.int .i64 x, .int .u64 n] [] [] (fun _ : Unit => .int .i64 r) (fun _ => []) := by
  refine Con.intro (args := [.int .i64 x, .int .u64 n]) (n := 14) (val := fun r (_ : Unit) => .int .i64 r) (post := fun _ _ => []) (m := spec_l3Left x n) Try.func78 rfl rfl rfl hm ?_
  intro w S _
  unfold spec_l3Left
  refine TW.seq ?_
  refine TW.region ?_
  refine TO.y (Y.assign rfl) rfl rfl rfl ?_
  refine TO.nil ?_
  refine TE.next ?_
  refine TW.seq ?_
  refine TW.region ?_
  refine TO.y (Y.move rfl) rfl rfl rfl ?_
  refine TO.y (Y.move rfl) rfl rfl rfl ?_
  refine TO.bind fun E1 H2 => ?_
  refine TO.y (Y.shl (nn_ge H2) rfl rfl) rfl rfl rfl ?_
  refine TO.y (Y.move rfl) rfl rfl rfl ?_
  refine TO.y (Y.move rfl) rfl rfl rfl ?_
  refine TO.y (Y.sub rfl rfl) rfl rfl rfl ?_
  refine TO.y (Y.shr (wrap_u_nonneg rfl _) rfl rfl) rfl rfl rfl ?_
  refine TO.y (Y.or rfl rfl) rfl rfl rfl ?_
  refine TO.bind fun R3 H4 => ?_
  refine TO.ef (Ef.call (rest := []) [] (spec_l3Word_con (ior .i64 (ishl .i64 x n) (ishr .i64 x (IntKind.u64.wrap ((32 : Int) - n))))  R3 H4) kc75 rfl rfl trivial) rfl rfl rfl (fun _ => ?_)
  refine TO.y (Y.assign rfl) rfl rfl rfl ?_
  refine TO.nil ?_
  refine TE.next ?_
  refine TW.ret ?_
  exact TE.leaf fun _ _ hf_ hs_ => ret_any (rs := [.tmp 4]) (vs := [.int .i64 R3]) (.inl rfl) rfl ⟨rfl, trivial⟩ hf_ hs_ ⟨(), rfl, hs_.pulls [] rfl⟩

end Go.Proofs.Ytedpnkndjbhpnaa
