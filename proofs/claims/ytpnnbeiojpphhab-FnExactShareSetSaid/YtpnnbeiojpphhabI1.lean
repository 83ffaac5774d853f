/-
  The functions that a law reaches, each as a pure function, with the proof that the program computes it, and the step from a pure law to the given statement. Conditions: none.
-/
import Derived.Test.YtpnnbeiojpphhabSw
import Derived.Test.YtpnnbeiojpphhabRows
set_option linter.unusedVariables false
set_option maxRecDepth 100000
set_option maxHeartbeats 4000000
namespace Go.Proofs.Ytpnnbeiojpphhab
open Go Sl

structure Share where
  Tenant : Int
  Quota : Int
  deriving DecidableEq
instance : Enc Share := ⟨2, fun x => [.int .i64 x.Tenant, .int .i64 x.Quota], fun _ => rfl, by decide⟩
instance : Dec Share where
  sh := [.int .i64, .int .i64]
  ok x := okI x.Tenant ∧ okI x.Quota
  dec cs h := by
    obtain ⟨c0, r0, rfl, h0, h⟩ := h.cons_inv
    obtain ⟨c1, r1, rfl, h1, h⟩ := h.cons_inv
    obtain rfl := h.nil_inv
    obtain ⟨y0, rfl, w0_⟩ := h0.int_inv
    have w0 := okI_of w0_
    obtain ⟨y1, rfl, w1_⟩ := h1.int_inv
    have w1 := okI_of w1_
    exact ⟨{ Tenant := y0, Quota := y1 : Share }, rfl, w0, w1⟩
instance : Flat Share := { vals := fun x => [.int .i64 x.Tenant, .int .i64 x.Quota], flat := fun _ => rfl }
structure Shares where
  Size : Int
  List : _root_.List Share
  deriving DecidableEq
instance : Enc Shares := ⟨2, fun x => [.int .i64 x.Size, lc x.List], fun _ => rfl, by decide⟩
instance : Dec Shares where
  sh := [.int .i64, .sl 2 (Dec.sh Share)]
  ok x := okI x.Size ∧ okl x.List
  dec cs h := by
    obtain ⟨c0, r0, rfl, h0, h⟩ := h.cons_inv
    obtain ⟨c1, r1, rfl, h1, h⟩ := h.cons_inv
    obtain rfl := h.nil_inv
    obtain ⟨y0, rfl, w0_⟩ := h0.int_inv
    have w0 := okI_of w0_
    obtain ⟨y1, rfl, w1⟩ := h1.sl_inv (α := Share) rfl
    exact ⟨{ Size := y0, List := y1 : Shares }, rfl, w0, w1⟩
structure File where
  No : Int
  Level : Int
  Lo : List UInt8
  Hi : List UInt8
  deriving DecidableEq
instance : Enc File := ⟨4, fun x => [.int .i64 x.No, .int .i64 x.Level, .str x.Lo, .str x.Hi], fun _ => rfl, by decide⟩
instance : Dec File where
  sh := [.int .i64, .int .i64, .str, .str]
  ok x := okI x.No ∧ okI x.Level ∧ x.Lo.length ≤ 9223372036854775807 ∧ x.Hi.length ≤ 9223372036854775807
  dec cs h := by
    obtain ⟨c0, r0, rfl, h0, h⟩ := h.cons_inv
    obtain ⟨c1, r1, rfl, h1, h⟩ := h.cons_inv
    obtain ⟨c2, r2, rfl, h2, h⟩ := h.cons_inv
    obtain ⟨c3, r3, rfl, h3, h⟩ := h.cons_inv
    obtain rfl := h.nil_inv
    obtain ⟨y0, rfl, w0_⟩ := h0.int_inv
    have w0 := okI_of w0_
    obtain ⟨y1, rfl, w1_⟩ := h1.int_inv
    have w1 := okI_of w1_
    obtain ⟨y2, rfl, w2⟩ := h2.str_inv
    obtain ⟨y3, rfl, w3⟩ := h3.str_inv
    exact ⟨{ No := y0, Level := y1, Lo := y2, Hi := y3 : File }, rfl, w0, w1, w2, w3⟩
instance : Flat File := { vals := fun x => [.int .i64 x.No, .int .i64 x.Level, strV x.Lo, strV x.Hi], flat := fun _ => rfl }

theorem hMix : Try.prog.follows .mixedOrders = true := by kernel_rfl
theorem ke22 : elemB Try.prog 22 = some (136, 2, 16) := by kernel_rfl
theorem kf24_1 : fieldB Try.prog 24 1 = some 1 := by kernel_rfl
theorem kk22 : kindB Try.prog 22 = some (false, 1) := by kernel_rfl
theorem kc58 : callB Try.prog 58 = true := by kernel_rfl
theorem kz56 : zeroB Try.prog 56 = some (.agg #[.int .i64 (0 : Int), .int .i64 (0 : Int)]) := by kernel_rfl
theorem kf136_0 : fieldB Try.prog 136 0 = some 0 := by kernel_rfl
theorem kk3 : kindB Try.prog 3 = some (false, 1) := by kernel_rfl
theorem kf56_0 : fieldB Try.prog 56 0 = some 0 := by kernel_rfl
theorem kf136_1 : fieldB Try.prog 136 1 = some 1 := by kernel_rfl
theorem kf56_1 : fieldB Try.prog 56 1 = some 1 := by kernel_rfl
theorem kk56 : kindB Try.prog 56 = some (true, 2) := by kernel_rfl
theorem ke26 : elemB Try.prog 26 = some (56, 2, 16) := by kernel_rfl
theorem kk136 : kindB Try.prog 136 = some (true, 2) := by kernel_rfl
theorem kc109 : callB Try.prog 109 = true := by kernel_rfl
theorem kz28 : zeroB Try.prog 28 = some (.agg #[.int .i64 (0 : Int), .slice none 0 0]) := by kernel_rfl
theorem kf24_0 : fieldB Try.prog 24 0 = some 0 := by kernel_rfl
theorem kf28_0 : fieldB Try.prog 28 0 = some 0 := by kernel_rfl
theorem kc60 : callB Try.prog 60 = true := by kernel_rfl
theorem kf28_1 : fieldB Try.prog 28 1 = some 1 := by kernel_rfl
theorem kk26 : kindB Try.prog 26 = some (false, 1) := by kernel_rfl
theorem kk28 : kindB Try.prog 28 = some (true, 2) := by kernel_rfl
theorem kc79 : callB Try.prog 79 = true := by kernel_rfl
theorem kc29 : callB Try.prog 29 = true := by kernel_rfl
theorem kc80 : callB Try.prog 80 = true := by kernel_rfl
theorem kp28 : placesB Try.prog 28 = some [(0, 1), (1, 1)] := by kernel_rfl
theorem kc27 : callB Try.prog 27 = true := by kernel_rfl
theorem kp56 : placesB Try.prog 56 = some [(0, 1), (1, 1)] := by kernel_rfl
theorem kc59 : callB Try.prog 59 = true := by kernel_rfl
theorem kc82 : callB Try.prog 82 = true := by kernel_rfl
theorem kc30 : callB Try.prog 30 = true := by kernel_rfl
theorem kc110 : callB Try.prog 110 = true := by kernel_rfl
theorem kc81 : callB Try.prog 81 = true := by kernel_rfl
theorem kc111 : callB Try.prog 111 = true := by kernel_rfl
theorem ki3 : intB Try.prog 3 = some .i64 := by kernel_rfl
theorem kc61 : callB Try.prog 61 = true := by kernel_rfl
theorem kc62 : callB Try.prog 62 = true := by kernel_rfl
theorem kc63 : callB Try.prog 63 = true := by kernel_rfl
theorem kc64 : callB Try.prog 64 = true := by kernel_rfl
theorem kc114 : callB Try.prog 114 = true := by kernel_rfl
theorem kc65 : callB Try.prog 65 = true := by kernel_rfl
theorem kc66 : callB Try.prog 66 = true := by kernel_rfl
theorem kc67 : callB Try.prog 67 = true := by kernel_rfl
theorem kk24 : kindB Try.prog 24 = some (true, 2) := by kernel_rfl
theorem kc9 : callB Try.prog 9 = true := by kernel_rfl
theorem kc11 : callB Try.prog 11 = true := by kernel_rfl
theorem kc10 : callB Try.prog 10 = true := by kernel_rfl
theorem kc12 : callB Try.prog 12 = true := by kernel_rfl
theorem kc13 : callB Try.prog 13 = true := by kernel_rfl
theorem kb4 : Try.prog.underlying 4 = some .bool := by kernel_rfl
theorem kc14 : callB Try.prog 14 = true := by kernel_rfl
theorem kc15 : callB Try.prog 15 = true := by kernel_rfl
theorem kf37_2 : fieldB Try.prog 37 2 = some 2 := by kernel_rfl
theorem kk9 : kindB Try.prog 9 = some (false, 1) := by kernel_rfl
theorem ks9 : isStrB Try.prog 9 = true := by kernel_rfl
theorem kf37_3 : fieldB Try.prog 37 3 = some 3 := by kernel_rfl
theorem ke35 : elemB Try.prog 35 = some (37, 4, 48) := by kernel_rfl
theorem kk37 : kindB Try.prog 37 = some (true, 4) := by kernel_rfl
theorem kc17 : callB Try.prog 17 = true := by kernel_rfl
theorem kz44 : zeroB Try.prog 44 = some (.agg #[.int .i64 (0 : Int), .int .i64 (0 : Int), strV ([]), strV ([])]) := by kernel_rfl
theorem kf37_0 : fieldB Try.prog 37 0 = some 0 := by kernel_rfl
theorem kf44_0 : fieldB Try.prog 44 0 = some 0 := by kernel_rfl
theorem kf37_1 : fieldB Try.prog 37 1 = some 1 := by kernel_rfl
theorem kf44_1 : fieldB Try.prog 44 1 = some 1 := by kernel_rfl
theorem kf44_2 : fieldB Try.prog 44 2 = some 2 := by kernel_rfl
theorem kf44_3 : fieldB Try.prog 44 3 = some 3 := by kernel_rfl
theorem kk44 : kindB Try.prog 44 = some (true, 4) := by kernel_rfl
theorem ke40 : elemB Try.prog 40 = some (44, 4, 48) := by kernel_rfl
theorem kc20 : callB Try.prog 20 = true := by kernel_rfl
theorem kc115 : callB Try.prog 115 = true := by kernel_rfl
theorem kc69 : callB Try.prog 69 = true := by kernel_rfl
theorem kc68 : callB Try.prog 68 = true := by kernel_rfl
theorem kc127 : callB Try.prog 127 = true := by kernel_rfl
theorem kc141 : callB Try.prog 141 = true := by kernel_rfl
theorem kc140 : callB Try.prog 140 = true := by kernel_rfl
theorem kc142 : callB Try.prog 142 = true := by kernel_rfl
theorem kc143 : callB Try.prog 143 = true := by kernel_rfl
theorem kc118 : callB Try.prog 118 = true := by kernel_rfl
theorem kc119 : callB Try.prog 119 = true := by kernel_rfl
theorem kc116 : callB Try.prog 116 = true := by kernel_rfl
theorem kc117 : callB Try.prog 117 = true := by kernel_rfl
theorem kc71 : callB Try.prog 71 = true := by kernel_rfl
theorem kc70 : callB Try.prog 70 = true := by kernel_rfl
theorem kc73 : callB Try.prog 73 = true := by kernel_rfl
theorem kc72 : callB Try.prog 72 = true := by kernel_rfl
theorem kc74 : callB Try.prog 74 = true := by kernel_rfl
theorem ki5 : intB Try.prog 5 = some .u8 := by kernel_rfl
theorem kz5 : zeroB Try.prog 5 = some (.int .u8 (0 : Int)) := by kernel_rfl
theorem ke49 : elemB Try.prog 49 = some (5, 1, 1) := by kernel_rfl
theorem kc75 : callB Try.prog 75 = true := by kernel_rfl
theorem kc16 : callB Try.prog 16 = true := by kernel_rfl
theorem kc19 : callB Try.prog 19 = true := by kernel_rfl
theorem kc18 : callB Try.prog 18 = true := by kernel_rfl
theorem kc21 : callB Try.prog 21 = true := by kernel_rfl
theorem kc22 : callB Try.prog 22 = true := by kernel_rfl
theorem kc23 : callB Try.prog 23 = true := by kernel_rfl
theorem kc24 : callB Try.prog 24 = true := by kernel_rfl
theorem hu24 : Try.prog.underlying 24 = some (.struct #[⟨ "Size", 3, 0, Bool.false, "", "", 0⟩, ⟨ "List", 22, 1, Bool.false, "", "", 8⟩]) := by kernel_rfl
theorem hs24 : shB Try.prog 20 24 = some (Dec.sh Shares) := by kernel_rfl
theorem hu3 : Try.prog.underlying 3 = some (.int .i64) := by kernel_rfl
theorem hs3 : shB Try.prog 20 3 = some ([.int .i64]) := by kernel_rfl
theorem hu35 : Try.prog.underlying 35 = some (.slice 37) := by kernel_rfl
theorem hs35 : shB Try.prog 20 35 = some ([.sl 4 (Dec.sh File)]) := by kernel_rfl
theorem hu37 : Try.prog.underlying 37 = some (.struct #[⟨ "No", 3, 0, Bool.false, "", "", 0⟩, ⟨ "Level", 3, 1, Bool.false, "", "", 8⟩, ⟨ "Lo", 9, 2, Bool.false, "", "", 16⟩, ⟨ "Hi", 9, 3, Bool.false, "", "", 32⟩]) := by kernel_rfl
theorem hs37 : shB Try.prog 20 37 = some (Dec.sh File) := by kernel_rfl

/-- loop.example/g00950/laws.szShareS -/
noncomputable def laws_szShareS (a : List Share) (left : Int) : Option Int :=
  if (decide (IntKind.i64.wrap (left - ((a.length : Nat) : Int)) < (0 : Int))) = true then (some (-1 : Int))
  else (some (IntKind.i64.wrap (left - ((a.length : Nat) : Int))))

theorem laws_szShareS_con (a : List Share) (left : Int) (V_a0 : Value) (r : Int) (hm : laws_szShareS a left = some r) :
    Con Try.prog 58 [V_a0, .int .i64 left] [] [(V_a0, lc a)] (fun _ : Unit => .int .i64 r) (fun _ => []) := by
  refine Con.intro (args := [V_a0, .int .i64 left]) (n := 12) (val := fun r (_ : Unit) => .int .i64 r) (post := fun _ _ => []) (m := laws_szShareS a left) Try.func58 rfl rfl rfl hm ?_
  intro w S hrd
  have HB_V_a0 := hrd _ (.head _)
  clear hrd
  unfold laws_szShareS
  refine TW.seq ?_
  refine TW.region ?_
  refine TO.y (Y.assign rfl) rfl rfl rfl ?_
  refine TO.nil ?_
  refine TE.next ?_
  refine TW.seq ?_
  refine TW.region ?_
  refine TO.y (Y.move rfl) rfl rfl rfl ?_
  refine TO.y (Y.move rfl) rfl rfl rfl ?_
  refine TO.y (Y.len (l := a) ke22 (Base.can HB_V_a0) rfl) rfl rfl rfl ?_
  refine TO.y (Y.sub rfl rfl) rfl rfl rfl ?_
  refine TO.y (Y.assign rfl) rfl rfl rfl ?_
  refine TO.nil ?_
  refine TE.next ?_
  refine TW.seq ?_
  refine TW.seq ?_
  refine TW.region ?_
  refine TO.y (Y.move rfl) rfl rfl rfl ?_
  refine TO.y (Y.lss rfl rfl) rfl rfl rfl ?_
  refine TO.nil ?_
  refine TE.next ?_
  refine TW.cond rfl (fun H1 => ?_) (fun H1 => ?_)
  · refine TW.seq ?_
    refine TW.region ?_
    refine TO.y (Y.assign rfl) rfl rfl rfl ?_
    refine TO.nil ?_
    refine TE.next ?_
    refine TW.ret ?_
    refine TE.then_ret ?_
    exact TE.leaf fun _ _ hf_ hs_ => ret_any (rs := [.tmp 4]) (vs := [.int .i64 (-1 : Int)]) (.inl rfl) rfl ⟨rfl, trivial⟩ hf_ hs_ ⟨(), rfl, hs_.pulls [] rfl⟩
  · refine TW.skip ?_
    refine TE.next ?_
    refine TW.seq ?_
    refine TW.region ?_
    refine TO.y (Y.move rfl) rfl rfl rfl ?_
    refine TO.y (Y.assign rfl) rfl rfl rfl ?_
    refine TO.nil ?_
    refine TE.next ?_
    refine TW.ret ?_
    exact TE.leaf fun _ _ hf_ hs_ => ret_any (rs := [.tmp 4]) (vs := [.int .i64 (IntKind.i64.wrap (left - ((a.length : Nat) : Int)))]) (.inl rfl) rfl ⟨rfl, trivial⟩ hf_ hs_ ⟨(), rfl, hs_.pulls [] rfl⟩

/-- loop.example/g00950/laws.szShares -/
noncomputable def laws_szShares (a : Shares) (left : Int) : Option Int :=
  (laws_szShareS a.List left).bind fun R2 =>
  if (decide (R2 < (0 : Int))) = true then (some (-1 : Int))
  else (some R2)

theorem laws_szShares_con (a : Shares) (left : Int) (V_a1 : Value) (r : Int) (hm : laws_szShares a left = some r) :
    Con Try.prog 9 [.agg #[.int .i64 a.Size, V_a1], .int .i64 left] [] [(V_a1, lc a.List)] (fun _ : Unit => .int .i64 r) (fun _ => []) := by
  refine Con.intro (args := [.agg #[.int .i64 a.Size, V_a1], .int .i64 left]) (n := 12) (val := fun r (_ : Unit) => .int .i64 r) (post := fun _ _ => []) (m := laws_szShares a left) Try.func9 rfl rfl rfl hm ?_
  intro w S hrd
  have HB_V_a1 := hrd _ (.head _)
  clear hrd
  unfold laws_szShares
  refine TW.seq ?_
  refine TW.region ?_
  refine TO.ef (Ef.box rfl (Cel.agg ⟨(One.plain rfl), (One.can (Base.can HB_V_a1)), trivial⟩)) rfl rfl rfl (fun B1 => ?_)
  refine TO.y (Y.assign rfl) rfl rfl rfl ?_
  refine TO.nil ?_
  refine TE.next ?_
  refine TW.seq ?_
  refine TW.region ?_
  refine TO.y (Y.field_box kf24_1 rfl rfl) rfl rfl rfl ?_
  refine TO.y (Y.load_box (v := V_a1) 0 kk22 rfl rfl rfl) rfl rfl rfl ?_
  refine TO.y (Y.move rfl) rfl rfl rfl ?_
  refine TO.bind fun R2 H3 => ?_
  refine TO.ef (Ef.call (rest := [.box B1 24 [.int .i64 a.Size, V_a1]]) [0] (laws_szShareS_con a.List left V_a1 R2 H3) kc58 rfl rfl ⟨(Base.can HB_V_a1), trivial⟩) rfl rfl rfl (fun _ => ?_)
  refine TO.y (Y.assign rfl) rfl rfl rfl ?_
  refine TO.nil ?_
  refine TE.next ?_
  refine TW.seq ?_
  refine TW.seq ?_
  refine TW.region ?_
  refine TO.y (Y.move rfl) rfl rfl rfl ?_
  refine TO.y (Y.lss rfl rfl) rfl rfl rfl ?_
  refine TO.nil ?_
  refine TE.next ?_
  refine TW.cond rfl (fun H5 => ?_) (fun H5 => ?_)
  · refine TW.seq ?_
    refine TW.region ?_
    refine TO.y (Y.assign rfl) rfl rfl rfl ?_
    refine TO.nil ?_
    refine TE.next ?_
    refine TW.ret ?_
    refine TE.then_ret ?_
    exact TE.leaf fun _ _ hf_ hs_ => ret_any (rs := [.tmp 4]) (vs := [.int .i64 (-1 : Int)]) (.inl rfl) rfl ⟨rfl, trivial⟩ hf_ hs_ ⟨(), rfl, hs_.pulls [] rfl⟩
  · refine TW.skip ?_
    refine TE.next ?_
    refine TW.seq ?_
    refine TW.region ?_
    refine TO.y (Y.move rfl) rfl rfl rfl ?_
    refine TO.y (Y.assign rfl) rfl rfl rfl ?_
    refine TO.nil ?_
    refine TE.next ?_
    refine TW.ret ?_
    exact TE.leaf fun _ _ hf_ hs_ => ret_any (rs := [.tmp 4]) (vs := [.int .i64 R2]) (.inl rfl) rfl ⟨rfl, trivial⟩ hf_ hs_ ⟨(), rfl, hs_.pulls [] rfl⟩

/-- loop.example/g00950/laws.toShare -/
noncomputable def laws_toShare (a : Share) : Option Share :=
  some a

theorem laws_toShare_con (a : Share)  (r : Share) (hm : laws_toShare a = some r) :
    Con Try.prog 109 [.agg #[.int .i64 a.Tenant, .int .i64 a.Quota]] [] [] (fun _ : Unit => .agg #[.int .i64 r.Tenant, .int .i64 r.Quota]) (fun _ => []) := by
  refine Con.intro (args := [.agg #[.int .i64 a.Tenant, .int .i64 a.Quota]]) (n := 11) (val := fun r (_ : Unit) => .agg #[.int .i64 r.Tenant, .int .i64 r.Quota]) (post := fun _ _ => []) (m := laws_toShare a) Try.func109 rfl rfl rfl hm ?_
  intro w S _
  unfold laws_toShare
  refine TW.seq ?_
  refine TW.region ?_
  refine TO.ef (Ef.box rfl (Cel.plain rfl rfl)) rfl rfl rfl (fun B1 => ?_)
  refine TO.ef (Ef.alloc kz56 rfl) rfl rfl rfl (fun B2 => ?_)
  refine TO.nil ?_
  refine TE.next ?_
  refine TW.seq ?_
  refine TW.region ?_
  refine TO.ef (Ef.alloc kz56 rfl) rfl rfl rfl (fun B3 => ?_)
  refine TO.nil ?_
  refine TE.next ?_
  refine TW.seq ?_
  refine TW.region ?_
  refine TO.y (Y.field_box kf136_0 rfl rfl) rfl rfl rfl ?_
  refine TO.y (Y.load_box (v := .int .i64 a.Tenant) 2 kk3 rfl rfl rfl) rfl rfl rfl ?_
  refine TO.y (Y.field_box kf56_0 rfl rfl) rfl rfl rfl ?_
  refine TO.ef0 (Ef.store_box (us := [.int .i64 a.Tenant]) (vs' := [.int .i64 a.Tenant, .int .i64 (0 : Int)]) (is' := [.box B3 56 [.int .i64 a.Tenant, .int .i64 (0 : Int)], .box B2 56 [.int .i64 (0 : Int), .int .i64 (0 : Int)], .box B1 136 [.int .i64 a.Tenant, .int .i64 a.Quota]]) 0 kk3 rfl rfl rfl (Cel.plain rfl rfl) rfl rfl rfl rfl) rfl rfl (fun _ => ?_)
  refine TO.nil ?_
  refine TE.next ?_
  refine TW.seq ?_
  refine TW.region ?_
  refine TO.y (Y.field_box kf136_1 rfl rfl) rfl rfl rfl ?_
  refine TO.y (Y.load_box (v := .int .i64 a.Quota) 2 kk3 rfl rfl rfl) rfl rfl rfl ?_
  refine TO.y (Y.field_box kf56_1 rfl rfl) rfl rfl rfl ?_
  refine TO.ef0 (Ef.store_box (us := [.int .i64 a.Quota]) (vs' := [.int .i64 a.Tenant, .int .i64 a.Quota]) (is' := [.box B3 56 [.int .i64 a.Tenant, .int .i64 a.Quota], .box B2 56 [.int .i64 (0 : Int), .int .i64 (0 : Int)], .box B1 136 [.int .i64 a.Tenant, .int .i64 a.Quota]]) 0 kk3 rfl rfl rfl (Cel.plain rfl rfl) rfl rfl rfl rfl) rfl rfl (fun _ => ?_)
  refine TO.nil ?_
  refine TE.next ?_
  refine TW.seq ?_
  refine TW.region ?_
  refine TO.y (Y.load_box (v := .agg #[.int .i64 a.Tenant, .int .i64 a.Quota]) 0 kk56 rfl rfl rfl) rfl rfl rfl ?_
  refine TO.ef0 (Ef.store_box (us := [.int .i64 a.Tenant, .int .i64 a.Quota]) (vs' := [.int .i64 a.Tenant, .int .i64 a.Quota]) (is' := [.box B3 56 [.int .i64 a.Tenant, .int .i64 a.Quota], .box B2 56 [.int .i64 a.Tenant, .int .i64 a.Quota], .box B1 136 [.int .i64 a.Tenant, .int .i64 a.Quota]]) 1 kk56 rfl rfl rfl (Cel.plain rfl rfl) rfl rfl rfl rfl) rfl rfl (fun _ => ?_)
  refine TO.nil ?_
  refine TE.next ?_
  refine TW.ret ?_
  exact TE.leaf fun _ _ hf_ hs_ => ret_any (rs := [.cell 2 56]) (vs := [.agg #[.int .i64 a.Tenant, .int .i64 a.Quota]]) (.inl rfl) rfl (RV.cell 1 rfl rfl kk56 rfl trivial) hf_ hs_ ⟨(), rfl, hs_.pulls [] rfl⟩

/-- loop.example/g00950/laws.toShareS -/
noncomputable def laws_toShareS (a : List Share) : Option (List Share) :=
  (mkLen 16 ((a.length : Nat) : Int)).bind fun E2 =>
  bindC (loopO (fun (S4 : Int × List Share) => if (decide (S4.1 < ((a.length : Nat) : Int))) = true then ((idx a S4.1).bind fun E9 =>
  (laws_toShare E9).bind fun R11 =>
  (idx S4.2 S4.1).bind fun E14 =>
  some (.go (IntKind.i64.wrap (S4.1 + (1 : Int)), (S4.2.set S4.1.toNat R11))))
  else (some (.done (.go S4.2))))
  ((0 : Int), (List.replicate E2 ({ Tenant := (0 : Int), Quota := (0 : Int) : Share } : Share))))
  (fun (T6 : List Share) => some T6)

theorem laws_toShareS_con (a : List Share) (V_a0 : Value) (r : List Share) (hm : laws_toShareS a = some r) :
    Con Try.prog 60 [V_a0] [] [(V_a0, lc a)] (fun X : Value => X) (fun X => [.own X (lc r)]) := by
  refine Con.intro (args := [V_a0]) (n := 23) (val := fun _ (X : Value) => X) (post := fun r X => [.own X (lc r)]) (m := laws_toShareS a) Try.func60 rfl rfl rfl hm ?_
  intro w S hrd
  have HB_V_a0 := hrd _ (.head _)
  clear hrd
  unfold laws_toShareS
  refine TW.seq ?_
  refine TW.region ?_
  refine TO.y (Y.assign rfl) rfl rfl rfl ?_
  refine TO.nil ?_
  refine TE.next ?_
  refine TW.seq ?_
  refine TW.region ?_
  refine TO.y (Y.move rfl) rfl rfl rfl ?_
  refine TO.y (Y.len (l := a) ke22 (Base.can HB_V_a0) rfl) rfl rfl rfl ?_
  refine TO.bind fun E2 H3 => ?_
  refine TO.ef (Ef.make (α := Share) (z := ({ Tenant := (0 : Int), Quota := (0 : Int) : Share } : Share)) H3 ke26 kz56 rfl rfl rfl rfl) rfl rfl rfl (fun V1 => ?_)
  refine TO.y (Y.assign rfl) rfl rfl rfl ?_
  refine TO.nil ?_
  refine TE.next ?_
  refine TW.seq ?_
  refine TW.seq ?_
  refine TW.region ?_
  refine TO.y (Y.assign rfl) rfl rfl rfl ?_
  refine TO.nil ?_
  refine TE.next ?_
  refine TW.joinX (τ := List Share) (X := Unit) (fun _ _ => [(3, V1)]) (fun T _ => [.own V1 (lc T)]) ?_ (fun T6 X7 => ?_)
  · refine TW.block ?_
    refine TW.loopX (σ := Int × List Share) (X := Unit) (fun T _ => [(0, V_a0), (3, V1), (4, .int .i64 T.1)]) (fun T _ => [.own V1 (lc T.2)]) () [0] ⟨rfl, rfl, rfl, trivial⟩ rfl (fun S4 X5 => ?_)
    refine TW.seq ?_
    refine TW.seq ?_
    refine TW.region ?_
    refine TO.y (Y.move rfl) rfl rfl rfl ?_
    refine TO.y (Y.move rfl) rfl rfl rfl ?_
    refine TO.y (Y.len (l := a) ke22 (Base.can HB_V_a0) rfl) rfl rfl rfl ?_
    refine TO.y (Y.lss rfl rfl) rfl rfl rfl ?_
    refine TO.nil ?_
    refine TE.next ?_
    refine TW.cond rfl (fun H8 => ?_) (fun H8 => ?_)
    · refine TW.skip ?_
      refine TE.next ?_
      refine TW.seq ?_
      refine TW.block ?_
      refine TW.region ?_
      refine TO.y (Y.move rfl) rfl rfl rfl ?_
      refine TO.y (Y.move rfl) rfl rfl rfl ?_
      refine TO.y (Y.move rfl) rfl rfl rfl ?_
      refine TO.y (Y.move rfl) rfl rfl rfl ?_
      refine TO.bind fun E9 H10 => ?_
      refine TO.y (Y.index ke22 (Base.can HB_V_a0) H10 rfl rfl) rfl rfl rfl ?_
      refine TO.y (Y.load_el (us := [.int .i64 E9.Tenant, .int .i64 E9.Quota]) (u := .agg #[.int .i64 E9.Tenant, .int .i64 E9.Quota]) kk136 rfl (Base.can HB_V_a0) (idx_get H10).2.2 rfl rfl rfl rfl rfl) rfl rfl rfl ?_
      refine TO.bind fun R11 H12 => ?_
      refine TO.ef (Ef.call (rest := [.own V1 (lc S4.2)]) [0] (laws_toShare_con E9  R11 H12) kc109 rfl rfl trivial) rfl rfl rfl (fun _ => ?_)
      refine TO.bind fun E14 H15 => ?_
      refine TO.y (Y.index ke26 (Can.own 0 rfl) H15 rfl rfl) rfl rfl rfl ?_
      refine TO.ef0 (Ef.store_el (us := [.int .i64 R11.Tenant, .int .i64 R11.Quota]) (is' := [.own V1 (lc (S4.2.set S4.1.toNat R11))]) R11 0 kk56 rfl rfl (idx_get H15).2.2 rfl rfl (Cel.plain rfl rfl) rfl rfl rfl rfl) rfl rfl (fun _ => ?_)
      refine TO.nil ?_
      refine TE.block_normal ?_
      refine TE.next ?_
      refine TW.region ?_
      refine TO.y (Y.move rfl) rfl rfl rfl ?_
      refine TO.y (Y.add rfl rfl) rfl rfl rfl ?_
      refine TO.y (Y.assign rfl) rfl rfl rfl ?_
      refine TO.nil ?_
      exact TE.lp_go () [0] ⟨rfl, rfl, rfl, trivial⟩ rfl
    · refine TW.exit ?_
      refine TE.then_exit ?_
      refine TE.lp_exit ?_
      refine TE.block_exit ?_
      exact TE.jn_go () [0] ⟨rfl, trivial⟩ rfl
  · refine TE.next ?_
    refine TW.seq ?_
    refine TW.region ?_
    refine TO.y (Y.move rfl) rfl rfl rfl ?_
    refine TO.y (Y.assign rfl) rfl rfl rfl ?_
    refine TO.nil ?_
    refine TE.next ?_
    refine TW.ret ?_
    exact TE.leaf fun _ _ hf_ hs_ => ret_any (rs := [.tmp 2]) (vs := [V1]) (.inl rfl) rfl ⟨rfl, trivial⟩ hf_ hs_ ⟨V1, rfl, hs_.pulls [0] rfl⟩

/-- loop.example/g00950/laws.toShares -/
noncomputable def laws_toShares (a : Shares) : Option Shares :=
  (laws_toShareS a.List).bind fun R4 =>
  some ({ Size := a.Size, List := R4 : Shares })

theorem laws_toShares_con (a : Shares) (V_a1 : Value) (r : Shares) (hm : laws_toShares a = some r) :
    Con Try.prog 11 [.agg #[.int .i64 a.Size, V_a1]] [] [(V_a1, lc a.List)] (fun X : Value => .agg #[.int .i64 r.Size, X]) (fun X => [.own X (lc r.List)]) := by
  refine Con.intro (args := [.agg #[.int .i64 a.Size, V_a1]]) (n := 12) (val := fun r (X : Value) => .agg #[.int .i64 r.Size, X]) (post := fun r X => [.own X (lc r.List)]) (m := laws_toShares a) Try.func11 rfl rfl rfl hm ?_
  intro w S hrd
  have HB_V_a1 := hrd _ (.head _)
  clear hrd
  unfold laws_toShares
  refine TW.seq ?_
  refine TW.region ?_
  refine TO.ef (Ef.box rfl (Cel.agg ⟨(One.plain rfl), (One.can (Base.can HB_V_a1)), trivial⟩)) rfl rfl rfl (fun B1 => ?_)
  refine TO.ef (Ef.alloc kz28 rfl) rfl rfl rfl (fun B2 => ?_)
  refine TO.nil ?_
  refine TE.next ?_
  refine TW.seq ?_
  refine TW.region ?_
  refine TO.ef (Ef.alloc kz28 rfl) rfl rfl rfl (fun B3 => ?_)
  refine TO.nil ?_
  refine TE.next ?_
  refine TW.seq ?_
  refine TW.region ?_
  refine TO.y (Y.field_box kf24_0 rfl rfl) rfl rfl rfl ?_
  refine TO.y (Y.load_box (v := .int .i64 a.Size) 2 kk3 rfl rfl rfl) rfl rfl rfl ?_
  refine TO.y (Y.field_box kf28_0 rfl rfl) rfl rfl rfl ?_
  refine TO.ef0 (Ef.store_box (us := [.int .i64 a.Size]) (vs' := [.int .i64 a.Size, .slice none 0 0]) (is' := [.box B3 28 [.int .i64 a.Size, .slice none 0 0], .box B2 28 [.int .i64 (0 : Int), .slice none 0 0], .box B1 24 [.int .i64 a.Size, V_a1]]) 0 kk3 rfl rfl rfl (Cel.plain rfl rfl) rfl rfl rfl rfl) rfl rfl (fun _ => ?_)
  refine TO.nil ?_
  refine TE.next ?_
  refine TW.seq ?_
  refine TW.region ?_
  refine TO.y (Y.field_box kf24_1 rfl rfl) rfl rfl rfl ?_
  refine TO.y (Y.load_box (v := V_a1) 2 kk22 rfl rfl rfl) rfl rfl rfl ?_
  refine TO.bind fun R4 H5 => ?_
  refine TO.ef (Ef.call (rest := [.box B3 28 [.int .i64 a.Size, .slice none 0 0], .box B2 28 [.int .i64 (0 : Int), .slice none 0 0], .box B1 24 [.int .i64 a.Size, V_a1]]) [0, 0, 0] (laws_toShareS_con a.List V_a1 R4 H5) kc60 rfl rfl ⟨(Base.can HB_V_a1), trivial⟩) rfl rfl rfl (fun Y6 => ?_)
  refine TO.y (Y.field_box kf28_1 rfl rfl) rfl rfl rfl ?_
  refine TO.ef0 (Ef.store_box (us := [Y6]) (vs' := [.int .i64 a.Size, Y6]) (is' := [.own Y6 (lc R4), .box B3 28 [.int .i64 a.Size, Y6], .box B2 28 [.int .i64 (0 : Int), .slice none 0 0], .box B1 24 [.int .i64 a.Size, V_a1]]) 1 kk26 rfl rfl rfl (Cel.one (One.can (Can.own 0 rfl))) rfl rfl rfl rfl) rfl rfl (fun _ => ?_)
  refine TO.nil ?_
  refine TE.next ?_
  refine TW.seq ?_
  refine TW.region ?_
  refine TO.y (Y.load_box (v := .agg #[.int .i64 a.Size, Y6]) 1 kk28 rfl rfl rfl) rfl rfl rfl ?_
  refine TO.ef0 (Ef.store_box (us := [.int .i64 a.Size, Y6]) (vs' := [.int .i64 a.Size, Y6]) (is' := [.own Y6 (lc R4), .box B3 28 [.int .i64 a.Size, Y6], .box B2 28 [.int .i64 a.Size, Y6], .box B1 24 [.int .i64 a.Size, V_a1]]) 2 kk28 rfl rfl rfl (Cel.agg ⟨(One.plain rfl), (One.can (Can.own 0 rfl)), trivial⟩) rfl rfl rfl rfl) rfl rfl (fun _ => ?_)
  refine TO.nil ?_
  refine TE.next ?_
  refine TW.ret ?_
  exact TE.leaf fun _ _ hf_ hs_ => ret_any (rs := [.cell 2 28]) (vs := [.agg #[.int .i64 a.Size, Y6]]) (.inl rfl) rfl (RV.cell 2 rfl rfl kk28 rfl trivial) hf_ hs_ ⟨Y6, rfl, hs_.pulls [0] rfl⟩

/-- loop.example/g00950/spec.l1In -/
noncomputable def spec_l1In (x : Int) (low : Int) (high : Int) : Option Bool :=
  (if (decide (x ≥ low)) = true then (some (decide (x ≤ high)))
  else (some false)).bind (fun (T1 : Bool) =>
  some T1)

theorem spec_l1In_con (x : Int) (low : Int) (high : Int)  (r : Bool) (hm : spec_l1In x low high = some r) :
    Con Try.prog 79 [.int .i64 x, .int .i64 low, .int .i64 high] [] [] (fun _ : Unit => .bool r) (fun _ => []) := by
  refine Con.intro (args := [.int .i64 x, .int .i64 low, .int .i64 high]) (n := 15) (val := fun r (_ : Unit) => .bool r) (post := fun _ _ => []) (m := spec_l1In x low high) Try.func79 rfl rfl rfl hm ?_
  intro w S _
  unfold spec_l1In
  refine TW.seq ?_
  refine TW.region ?_
  refine TO.y (Y.assign rfl) rfl rfl rfl ?_
  refine TO.nil ?_
  refine TE.next ?_
  refine TW.seq ?_
  refine TW.joinBX (τ := Bool) (X := Unit) (fun T _ => [(6, .bool T)]) (fun _ _ => []) ?_ (fun T1 X2 => ?_)
  · refine TW.region ?_
    refine TO.y (Y.move rfl) rfl rfl rfl ?_
    refine TO.y (Y.move rfl) rfl rfl rfl ?_
    refine TO.y (Y.geq rfl rfl) rfl rfl rfl ?_
    refine TO.y (Y.move rfl) rfl rfl rfl ?_
    refine TO.ite (b := decide (x ≥ low)) (fun H3 => ?_) (fun H3 => ?_)
    · refine TO.y (Y.move rfl) (Gd.at 3 true 10 (decide (x ≥ low)) rfl rfl rfl (beq_tt H3)) rfl rfl ?_
      refine TO.y (Y.move rfl) (Gd.at 3 true 10 (decide (x ≥ low)) rfl rfl rfl (beq_tt H3)) rfl rfl ?_
      refine TO.y (Y.leq rfl rfl) (Gd.at 3 true 10 (decide (x ≥ low)) rfl rfl rfl (beq_tt H3)) rfl rfl ?_
      refine TO.y (Y.pick_t H3 rfl rfl) rfl rfl rfl ?_
      refine TO.y (Y.assign rfl) rfl rfl rfl ?_
      refine TO.nil ?_
      exact TE.jb_go () [] ⟨rfl, trivial⟩ rfl
    · refine TO.off (Gd.at 3 true 10 (decide (x ≥ low)) rfl rfl rfl (beq_ft H3)) rfl rfl ?_
      refine TO.off (Gd.at 3 true 10 (decide (x ≥ low)) rfl rfl rfl (beq_ft H3)) rfl rfl ?_
      refine TO.off (Gd.at 3 true 10 (decide (x ≥ low)) rfl rfl rfl (beq_ft H3)) rfl rfl ?_
      refine TO.y (Y.pick_f H3 rfl rfl) rfl rfl rfl ?_
      refine TO.y (Y.assign rfl) rfl rfl rfl ?_
      refine TO.nil ?_
      exact TE.jb_go () [] ⟨rfl, trivial⟩ rfl
  · refine TE.next ?_
    refine TW.ret ?_
    exact TE.leaf fun _ _ hf_ hs_ => ret_any (rs := [.tmp 6]) (vs := [.bool T1]) (.inl rfl) rfl ⟨rfl, trivial⟩ hf_ hs_ ⟨(), rfl, hs_.pulls [] rfl⟩

/-- loop.example/g00950/spec.Need -/
noncomputable def spec_Need (quota : Int) : Option Int :=
  (spec_l1In quota (0 : Int) (1000 : Int)).bind fun R1 =>
  if (!R1) = true then (some (0 : Int))
  else (some (IntKind.i64.wrap ((2 : Int) + (IntKind.i64.wrap ((2 : Int) * (IntKind.i64.wrap (Int.tdiv (IntKind.i64.wrap (quota + (49 : Int))) (50 : Int))))))))

theorem spec_Need_con (quota : Int)  (r : Int) (hm : spec_Need quota = some r) :
    Con Try.prog 29 [.int .i64 quota] [] [] (fun _ : Unit => .int .i64 r) (fun _ => []) := by
  refine Con.intro (args := [.int .i64 quota]) (n := 11) (val := fun r (_ : Unit) => .int .i64 r) (post := fun _ _ => []) (m := spec_Need quota) Try.func29 rfl rfl rfl hm ?_
  intro w S _
  unfold spec_Need
  refine TW.seq ?_
  refine TW.region ?_
  refine TO.y (Y.assign rfl) rfl rfl rfl ?_
  refine TO.nil ?_
  refine TE.next ?_
  refine TW.seq ?_
  refine TW.seq ?_
  refine TW.region ?_
  refine TO.y (Y.move rfl) rfl rfl rfl ?_
  refine TO.bind fun R1 H2 => ?_
  refine TO.ef (Ef.call (rest := []) [] (spec_l1In_con quota (0 : Int) (1000 : Int)  R1 H2) kc79 rfl rfl trivial) rfl rfl rfl (fun _ => ?_)
  refine TO.y (Y.not rfl) rfl rfl rfl ?_
  refine TO.nil ?_
  refine TE.next ?_
  refine TW.cond rfl (fun H4 => ?_) (fun H4 => ?_)
  · refine TW.seq ?_
    refine TW.region ?_
    refine TO.y (Y.assign rfl) rfl rfl rfl ?_
    refine TO.nil ?_
    refine TE.next ?_
    refine TW.ret ?_
    refine TE.then_ret ?_
    exact TE.leaf fun _ _ hf_ hs_ => ret_any (rs := [.tmp 2]) (vs := [.int .i64 (0 : Int)]) (.inl rfl) rfl ⟨rfl, trivial⟩ hf_ hs_ ⟨(), rfl, hs_.pulls [] rfl⟩
  · refine TW.skip ?_
    refine TE.next ?_
    refine TW.seq ?_
    refine TW.region ?_
    refine TO.y (Y.move rfl) rfl rfl rfl ?_
    refine TO.y (Y.add rfl rfl) rfl rfl rfl ?_
    refine TO.y (Y.quo (by decide) rfl rfl) rfl rfl rfl ?_
    refine TO.y (Y.mul rfl rfl) rfl rfl rfl ?_
    refine TO.y (Y.add rfl rfl) rfl rfl rfl ?_
    refine TO.y (Y.assign rfl) rfl rfl rfl ?_
    refine TO.nil ?_
    refine TE.next ?_
    refine TW.ret ?_
    exact TE.leaf fun _ _ hf_ hs_ => ret_any (rs := [.tmp 2]) (vs := [.int .i64 (IntKind.i64.wrap ((2 : Int) + (IntKind.i64.wrap ((2 : Int) * (IntKind.i64.wrap (Int.tdiv (IntKind.i64.wrap (quota + (49 : Int))) (50 : Int)))))))]) (.inl rfl) rfl ⟨rfl, trivial⟩ hf_ hs_ ⟨(), rfl, hs_.pulls [] rfl⟩

/-- loop.example/g00950/spec.l19All -/
noncomputable def spec_l19All (s : Shares) : Option Int :=
  bindC (loopO (fun (S2 : Int × Int) => if (decide (S2.2 < ((s.List.length : Nat) : Int))) = true then ((idx s.List S2.2).bind fun E7 =>
  (spec_Need E7.Quota).bind fun R9 =>
  some (.go (IntKind.i64.wrap (S2.1 + R9), IntKind.i64.wrap (S2.2 + (1 : Int)))))
  else (some (.done (.go S2.1))))
  ((0 : Int), (0 : Int)))
  (fun (T4 : Int) => bindC (if (decide (((s.List.length : Nat) : Int) > (0 : Int))) = true then (some (.go (IntKind.i64.wrap (T4 + (4 : Int)))))
  else (some (.go T4)))
  (fun (T12 : Int) => some T12))

theorem spec_l19All_con (s : Shares) (V_s1 : Value) (r : Int) (hm : spec_l19All s = some r) :
    Con Try.prog 80 [.agg #[.int .i64 s.Size, V_s1]] [] [(V_s1, lc s.List)] (fun _ : Unit => .int .i64 r) (fun _ => []) := by
  refine Con.intro (args := [.agg #[.int .i64 s.Size, V_s1]]) (n := 28) (val := fun r (_ : Unit) => .int .i64 r) (post := fun _ _ => []) (m := spec_l19All s) Try.func80 rfl rfl rfl hm ?_
  intro w S hrd
  have HB_V_s1 := hrd _ (.head _)
  clear hrd
  unfold spec_l19All
  refine TW.seq ?_
  refine TW.region ?_
  refine TO.ef (Ef.box rfl (Cel.agg ⟨(One.plain rfl), (One.can (Base.can HB_V_s1)), trivial⟩)) rfl rfl rfl (fun B1 => ?_)
  refine TO.y (Y.assign rfl) rfl rfl rfl ?_
  refine TO.nil ?_
  refine TE.next ?_
  refine TW.seq ?_
  refine TW.region ?_
  refine TO.y (Y.assign rfl) rfl rfl rfl ?_
  refine TO.nil ?_
  refine TE.next ?_
  refine TW.seq ?_
  refine TW.seq ?_
  refine TW.region ?_
  refine TO.y (Y.assign rfl) rfl rfl rfl ?_
  refine TO.nil ?_
  refine TE.next ?_
  refine TW.joinX (τ := Int) (X := Unit) (fun T _ => [(1, .pointer (some ⟨B1, 0, none⟩)), (3, .int .i64 T)]) (fun _ _ => [.box B1 28 [.int .i64 s.Size, V_s1]]) ?_ (fun T4 X5 => ?_)
  · refine TW.block ?_
    refine TW.loopX (σ := Int × Int) (X := Unit) (fun T _ => [(1, .pointer (some ⟨B1, 0, none⟩)), (3, .int .i64 T.1), (4, .int .i64 T.2)]) (fun _ _ => [.box B1 28 [.int .i64 s.Size, V_s1]]) () [0] ⟨rfl, rfl, rfl, trivial⟩ rfl (fun S2 X3 => ?_)
    refine TW.seq ?_
    refine TW.seq ?_
    refine TW.region ?_
    refine TO.y (Y.move rfl) rfl rfl rfl ?_
    refine TO.y (Y.field_box kf28_1 rfl rfl) rfl rfl rfl ?_
    refine TO.y (Y.load_box (v := V_s1) 0 kk26 rfl rfl rfl) rfl rfl rfl ?_
    refine TO.y (Y.len (l := s.List) ke26 (Base.can HB_V_s1) rfl) rfl rfl rfl ?_
    refine TO.y (Y.lss rfl rfl) rfl rfl rfl ?_
    refine TO.nil ?_
    refine TE.next ?_
    refine TW.cond rfl (fun H6 => ?_) (fun H6 => ?_)
    · refine TW.skip ?_
      refine TE.next ?_
      refine TW.seq ?_
      refine TW.block ?_
      refine TW.region ?_
      refine TO.y (Y.move rfl) rfl rfl rfl ?_
      refine TO.y (Y.field_box kf28_1 rfl rfl) rfl rfl rfl ?_
      refine TO.y (Y.load_box (v := V_s1) 0 kk26 rfl rfl rfl) rfl rfl rfl ?_
      refine TO.y (Y.move rfl) rfl rfl rfl ?_
      refine TO.bind fun E7 H8 => ?_
      refine TO.y (Y.index ke26 (Base.can HB_V_s1) H8 rfl rfl) rfl rfl rfl ?_
      refine TO.y (Y.field_el kf56_1 (Base.can HB_V_s1) (idx_get H8).2.2 rfl rfl) rfl rfl rfl ?_
      refine TO.y (Y.load_el (us := [.int .i64 E7.Quota]) (u := .int .i64 E7.Quota) kk3 rfl (Base.can HB_V_s1) (idx_get H8).2.2 rfl rfl rfl rfl rfl) rfl rfl rfl ?_
      refine TO.bind fun R9 H10 => ?_
      refine TO.ef (Ef.call (rest := [.box B1 28 [.int .i64 s.Size, V_s1]]) [0] (spec_Need_con E7.Quota  R9 H10) kc29 rfl rfl trivial) rfl rfl rfl (fun _ => ?_)
      refine TO.y (Y.add rfl rfl) rfl rfl rfl ?_
      refine TO.y (Y.assign rfl) rfl rfl rfl ?_
      refine TO.nil ?_
      refine TE.block_normal ?_
      refine TE.next ?_
      refine TW.region ?_
      refine TO.y (Y.move rfl) rfl rfl rfl ?_
      refine TO.y (Y.add rfl rfl) rfl rfl rfl ?_
      refine TO.y (Y.assign rfl) rfl rfl rfl ?_
      refine TO.nil ?_
      exact TE.lp_go () [0] ⟨rfl, rfl, rfl, trivial⟩ rfl
    · refine TW.exit ?_
      refine TE.then_exit ?_
      refine TE.lp_exit ?_
      refine TE.block_exit ?_
      exact TE.jn_go () [0] ⟨rfl, rfl, trivial⟩ rfl
  · refine TE.next ?_
    refine TW.seq ?_
    refine TW.seq ?_
    refine TW.region ?_
    refine TO.y (Y.field_box kf28_1 rfl rfl) rfl rfl rfl ?_
    refine TO.y (Y.load_box (v := V_s1) 0 kk26 rfl rfl rfl) rfl rfl rfl ?_
    refine TO.y (Y.len (l := s.List) ke26 (Base.can HB_V_s1) rfl) rfl rfl rfl ?_
    refine TO.y (Y.gtr rfl rfl) rfl rfl rfl ?_
    refine TO.nil ?_
    refine TE.next ?_
    refine TW.joinX (τ := Int) (X := Unit) (fun T _ => [(3, .int .i64 T)]) (fun _ _ => []) ?_ (fun T12 X13 => ?_)
    · refine TW.cond rfl (fun H14 => ?_) (fun H14 => ?_)
      · refine TW.region ?_
        refine TO.y (Y.move rfl) rfl rfl rfl ?_
        refine TO.y (Y.add rfl rfl) rfl rfl rfl ?_
        refine TO.y (Y.assign rfl) rfl rfl rfl ?_
        refine TO.nil ?_
        exact TE.jn_go () [] ⟨rfl, trivial⟩ rfl
      · refine TW.skip ?_
        exact TE.jn_go () [] ⟨rfl, trivial⟩ rfl
    · refine TE.next ?_
      refine TW.seq ?_
      refine TW.region ?_
      refine TO.y (Y.move rfl) rfl rfl rfl ?_
      refine TO.y (Y.assign rfl) rfl rfl rfl ?_
      refine TO.nil ?_
      refine TE.next ?_
      refine TW.ret ?_
      exact TE.leaf fun _ _ hf_ hs_ => ret_any (rs := [.tmp 2]) (vs := [.int .i64 T12]) (.inl rfl) rfl ⟨rfl, trivial⟩ hf_ hs_ ⟨(), rfl, hs_.pulls [] rfl⟩

/-- loop.example/g00950/spec.SharesOk -/
noncomputable def spec_SharesOk (s : Shares) : Option Bool :=
  ((spec_l1In s.Size (0 : Int) (1000 : Int)).bind fun R4 =>
  if (!R4) = true then (some true)
  else (some (decide (((s.List.length : Nat) : Int) > (4 : Int))))).bind (fun (T2 : Bool) =>
  if T2 = true then (some false)
  else (bindC (loopO (fun (S9 : Int) => if (decide (S9 < ((s.List.length : Nat) : Int))) = true then ((idx s.List S9).bind fun E14 =>
  ((spec_l1In E14.Tenant (1 : Int) (99 : Int)).bind fun R19 =>
  if (!R19) = true then (some true)
  else ((spec_l1In E14.Quota (0 : Int) (1000 : Int)).bind fun R23 =>
  if (!R23) = true then (some true)
  else (if (decide (S9 > (0 : Int))) = true then ((idx s.List (IntKind.i64.wrap (S9 - (1 : Int)))).bind fun E28 =>
  some (decide (E28.Tenant ≥ E14.Tenant)))
  else (some false)))).bind (fun (T17 : Bool) =>
  if T17 = true then (some (.done (.done false)))
  else (some (.go (IntKind.i64.wrap (S9 + (1 : Int)))))))
  else (some (.done (.go ()))))
  (0 : Int))
  (fun (T11 : Unit) => (spec_l19All s).bind fun R31 =>
  some (decide (R31 ≤ s.Size)))))

theorem spec_SharesOk_con (s : Shares) (V_s1 : Value) (r : Bool) (hm : spec_SharesOk s = some r) :
    Con Try.prog 27 [.agg #[.int .i64 s.Size, V_s1]] [] [(V_s1, lc s.List)] (fun _ : Unit => .bool r) (fun _ => []) := by
  refine Con.intro (args := [.agg #[.int .i64 s.Size, V_s1]]) (n := 58) (val := fun r (_ : Unit) => .bool r) (post := fun _ _ => []) (m := spec_SharesOk s) Try.func27 rfl rfl rfl hm ?_
  intro w S hrd
  have HB_V_s1 := hrd _ (.head _)
  clear hrd
  unfold spec_SharesOk
  refine TW.seq ?_
  refine TW.region ?_
  refine TO.ef (Ef.box rfl (Cel.agg ⟨(One.plain rfl), (One.can (Base.can HB_V_s1)), trivial⟩)) rfl rfl rfl (fun B1 => ?_)
  refine TO.y (Y.assign rfl) rfl rfl rfl ?_
  refine TO.nil ?_
  refine TE.next ?_
  refine TW.seq ?_
  refine TW.seq ?_
  refine TW.joinBX (τ := Bool) (X := Unit) (fun T _ => [(1, .pointer (some ⟨B1, 0, none⟩)), (14, .bool T)]) (fun _ _ => [.box B1 28 [.int .i64 s.Size, V_s1]]) ?_ (fun T2 X3 => ?_)
  · refine TW.region ?_
    refine TO.y (Y.field_box kf28_0 rfl rfl) rfl rfl rfl ?_
    refine TO.y (Y.load_box (v := .int .i64 s.Size) 0 kk3 rfl rfl rfl) rfl rfl rfl ?_
    refine TO.bind fun R4 H5 => ?_
    refine TO.ef (Ef.call (rest := [.box B1 28 [.int .i64 s.Size, V_s1]]) [0] (spec_l1In_con s.Size (0 : Int) (1000 : Int)  R4 H5) kc79 rfl rfl trivial) rfl rfl rfl (fun _ => ?_)
    refine TO.y (Y.not rfl) rfl rfl rfl ?_
    refine TO.y (Y.move rfl) rfl rfl rfl ?_
    refine TO.ite (b := !R4) (fun H7 => ?_) (fun H7 => ?_)
    · refine TO.off (Gd.at 4 false 9 (!R4) rfl rfl rfl (beq_tf H7)) rfl rfl ?_
      refine TO.off (Gd.at 4 false 9 (!R4) rfl rfl rfl (beq_tf H7)) rfl rfl ?_
      refine TO.off (Gd.at 4 false 9 (!R4) rfl rfl rfl (beq_tf H7)) rfl rfl ?_
      refine TO.off (Gd.at 4 false 9 (!R4) rfl rfl rfl (beq_tf H7)) rfl rfl ?_
      refine TO.y (Y.pick_t H7 rfl rfl) rfl rfl rfl ?_
      refine TO.nil ?_
      exact TE.jb_go () [0] ⟨rfl, rfl, trivial⟩ rfl
    · refine TO.y (Y.field_box kf28_1 rfl rfl) (Gd.at 4 false 9 (!R4) rfl rfl rfl (beq_ff H7)) rfl rfl ?_
      refine TO.y (Y.load_box (v := V_s1) 0 kk26 rfl rfl rfl) (Gd.at 4 false 9 (!R4) rfl rfl rfl (beq_ff H7)) rfl rfl ?_
      refine TO.y (Y.len (l := s.List) ke26 (Base.can HB_V_s1) rfl) (Gd.at 4 false 9 (!R4) rfl rfl rfl (beq_ff H7)) rfl rfl ?_
      refine TO.y (Y.gtr rfl rfl) (Gd.at 4 false 9 (!R4) rfl rfl rfl (beq_ff H7)) rfl rfl ?_
      refine TO.y (Y.pick_f H7 rfl rfl) rfl rfl rfl ?_
      refine TO.nil ?_
      exact TE.jb_go () [0] ⟨rfl, rfl, trivial⟩ rfl
  · refine TE.next ?_
    refine TW.cond rfl (fun H8 => ?_) (fun H8 => ?_)
    · refine TW.seq ?_
      refine TW.region ?_
      refine TO.y (Y.assign rfl) rfl rfl rfl ?_
      refine TO.nil ?_
      refine TE.next ?_
      refine TW.ret ?_
      refine TE.then_ret ?_
      exact TE.leaf fun _ _ hf_ hs_ => ret_any (rs := [.tmp 2]) (vs := [.bool false]) (.inl rfl) rfl ⟨rfl, trivial⟩ hf_ hs_ ⟨(), rfl, hs_.pulls [] rfl⟩
    · refine TW.skip ?_
      refine TE.next ?_
      refine TW.seq ?_
      refine TW.seq ?_
      refine TW.region ?_
      refine TO.y (Y.assign rfl) rfl rfl rfl ?_
      refine TO.nil ?_
      refine TE.next ?_
      refine TW.joinX (τ := Unit) (X := Unit) (fun _ _ => [(1, .pointer (some ⟨B1, 0, none⟩))]) (fun _ _ => [.box B1 28 [.int .i64 s.Size, V_s1]]) ?_ (fun T11 X12 => ?_)
      · refine TW.block ?_
        refine TW.loopX (σ := Int) (X := Unit) (fun T _ => [(1, .pointer (some ⟨B1, 0, none⟩)), (3, .int .i64 T)]) (fun _ _ => [.box B1 28 [.int .i64 s.Size, V_s1]]) () [0] ⟨rfl, rfl, trivial⟩ rfl (fun S9 X10 => ?_)
        refine TW.seq ?_
        refine TW.seq ?_
        refine TW.region ?_
        refine TO.y (Y.move rfl) rfl rfl rfl ?_
        refine TO.y (Y.field_box kf28_1 rfl rfl) rfl rfl rfl ?_
        refine TO.y (Y.load_box (v := V_s1) 0 kk26 rfl rfl rfl) rfl rfl rfl ?_
        refine TO.y (Y.len (l := s.List) ke26 (Base.can HB_V_s1) rfl) rfl rfl rfl ?_
        refine TO.y (Y.lss rfl rfl) rfl rfl rfl ?_
        refine TO.nil ?_
        refine TE.next ?_
        refine TW.cond rfl (fun H13 => ?_) (fun H13 => ?_)
        · refine TW.skip ?_
          refine TE.next ?_
          refine TW.seq ?_
          refine TW.block ?_
          refine TW.seq ?_
          refine TW.region ?_
          refine TO.y (Y.field_box kf28_1 rfl rfl) rfl rfl rfl ?_
          refine TO.y (Y.load_box (v := V_s1) 0 kk26 rfl rfl rfl) rfl rfl rfl ?_
          refine TO.y (Y.move rfl) rfl rfl rfl ?_
          refine TO.bind fun E14 H15 => ?_
          refine TO.y (Y.index ke26 (Base.can HB_V_s1) H15 rfl rfl) rfl rfl rfl ?_
          refine TO.y (Y.load_el (us := [.int .i64 E14.Tenant, .int .i64 E14.Quota]) (u := .agg #[.int .i64 E14.Tenant, .int .i64 E14.Quota]) kk56 rfl (Base.can HB_V_s1) (idx_get H15).2.2 rfl rfl rfl rfl rfl) rfl rfl rfl ?_
          refine TO.ef (Ef.alloc kz56 rfl) rfl rfl rfl (fun B16 => ?_)
          refine TO.ef0 (Ef.store_box (us := [.int .i64 E14.Tenant, .int .i64 E14.Quota]) (vs' := [.int .i64 E14.Tenant, .int .i64 E14.Quota]) (is' := [.box B16 56 [.int .i64 E14.Tenant, .int .i64 E14.Quota], .box B1 28 [.int .i64 s.Size, V_s1]]) 0 kk56 rfl rfl rfl (Cel.plain rfl rfl) rfl rfl rfl rfl) rfl rfl (fun _ => ?_)
          refine TO.nil ?_
          refine TE.next ?_
          refine TW.seq ?_
          refine TW.joinBX (τ := Bool) (X := Unit) (fun T _ => [(1, .pointer (some ⟨B1, 0, none⟩)), (3, .int .i64 S9), (52, .bool T)]) (fun _ _ => [.box B1 28 [.int .i64 s.Size, V_s1]]) ?_ (fun T17 X18 => ?_)
          · refine TW.draw (isH := [.box B16 56 [.int .i64 E14.Tenant, .int .i64 E14.Quota], .box B1 28 [.int .i64 s.Size, V_s1]]) hMix ?_
            refine TA.y (listed' := #[true, false, false, false, false, false, false, false, false, false, false, false, false, false, false, false, false, false, false, false, false, false, false, false, false, false]) 0 [0, 0] rfl (Y.field_box kf56_0 rfl rfl) rfl rfl rfl (by kernel_rfl) (by kernel_rfl) (by kernel_rfl) rfl rfl ?_
            refine TA.y (listed' := #[true, true, false, false, false, false, false, false, false, false, false, false, false, false, false, false, false, false, false, false, false, false, false, false, false, false]) 1 [0, 0] rfl (Y.load_box (v := .int .i64 E14.Tenant) 0 kk3 rfl rfl rfl) rfl rfl rfl (by kernel_rfl) (by kernel_rfl) (by kernel_rfl) rfl rfl ?_
            refine TA.bind fun R19 H20 => ?_
            refine TA.one 2 (by kernel_rfl) ?_
            refine TX.ef (listed' := #[true, true, true, false, false, false, false, false, false, false, false, false, false, false, false, false, false, false, false, false, false, false, false, false, false, false]) [0, 0] rfl (Ef.call (rest := [.box B16 56 [.int .i64 E14.Tenant, .int .i64 E14.Quota], .box B1 28 [.int .i64 s.Size, V_s1]]) [0, 0] (spec_l1In_con E14.Tenant (1 : Int) (99 : Int)  R19 H20) kc79 rfl rfl trivial) rfl rfl rfl rfl (fun _ => rfl) (fun _ => ?_)
            refine TA.y (listed' := #[true, true, true, true, false, false, false, false, false, false, false, false, false, false, false, false, false, false, false, false, false, false, false, false, false, false]) 3 [0, 0] rfl (Y.not rfl) rfl rfl rfl (by kernel_rfl) (by kernel_rfl) (by kernel_rfl) rfl rfl ?_
            refine TA.y (listed' := #[true, true, true, true, true, false, false, false, false, false, false, false, false, false, false, false, false, false, false, false, false, false, false, false, false, false]) 4 [0, 0] rfl (Y.move rfl) rfl rfl rfl (by kernel_rfl) (by kernel_rfl) (by kernel_rfl) rfl rfl ?_
            refine TA.ite (b := !R19) (fun H22 => ?_) (fun H22 => ?_)
            · refine TA.off (listed' := #[true, true, true, true, true, true, false, false, false, false, false, false, false, false, false, false, false, false, false, false, false, false, false, false, false, false]) 5 [0, 0] rfl (Gd.at 4 false 31 (!R19) rfl rfl rfl (beq_tf H22)) rfl rfl (by kernel_rfl) (by kernel_rfl) (by kernel_rfl) rfl rfl ?_
              refine TA.off (listed' := #[true, true, true, true, true, true, true, false, false, false, false, false, false, false, false, false, false, false, false, false, false, false, false, false, false, false]) 6 [0, 0] rfl (Gd.at 4 false 31 (!R19) rfl rfl rfl (beq_tf H22)) rfl rfl (by kernel_rfl) (by kernel_rfl) (by kernel_rfl) rfl rfl ?_
              refine TA.off (listed' := #[true, true, true, true, true, true, true, true, false, false, false, false, false, false, false, false, false, false, false, false, false, false, false, false, false, false]) 7 [0, 0] rfl (Gd.at 4 false 31 (!R19) rfl rfl rfl (beq_tf H22)) rfl rfl (by kernel_rfl) (by kernel_rfl) (by kernel_rfl) rfl rfl ?_
              refine TA.off (listed' := #[true, true, true, true, true, true, true, true, true, false, false, false, false, false, false, false, false, false, false, false, false, false, false, false, false, false]) 8 [0, 0] rfl (Gd.at 4 false 31 (!R19) rfl rfl rfl (beq_tf H22)) rfl rfl (by kernel_rfl) (by kernel_rfl) (by kernel_rfl) rfl rfl ?_
              refine TA.y (listed' := #[true, true, true, true, true, true, true, true, true, true, false, false, false, false, false, false, false, false, false, false, false, false, false, false, false, false]) 9 [0, 0] rfl (Y.pick_t H22 rfl rfl) rfl rfl rfl (by kernel_rfl) (by kernel_rfl) (by kernel_rfl) rfl rfl ?_
              refine TA.y (listed' := #[true, true, true, true, true, true, true, true, true, true, true, false, false, false, false, false, false, false, false, false, false, false, false, false, false, false]) 10 [0, 0] rfl (Y.move rfl) rfl rfl rfl (by kernel_rfl) (by kernel_rfl) (by kernel_rfl) rfl rfl ?_
              refine TA.off (listed' := #[true, true, true, true, true, true, true, true, true, true, true, true, false, false, false, false, false, false, false, false, false, false, false, false, false, false]) 11 [0, 0] rfl (Gd.at 10 false 37 true rfl rfl rfl rfl) rfl rfl (by kernel_rfl) (by kernel_rfl) (by kernel_rfl) rfl rfl ?_
              refine TA.off (listed' := #[true, true, true, true, true, true, true, true, true, true, true, true, true, false, false, false, false, false, false, false, false, false, false, false, false, false]) 12 [0, 0] rfl (Gd.at 10 false 37 true rfl rfl rfl rfl) rfl rfl (by kernel_rfl) (by kernel_rfl) (by kernel_rfl) rfl rfl ?_
              refine TA.off (listed' := #[true, true, true, true, true, true, true, true, true, true, true, true, true, true, false, false, false, false, false, false, false, false, false, false, false, false]) 13 [0, 0] rfl (Gd.at 10 false 37 true rfl rfl rfl rfl) rfl rfl (by kernel_rfl) (by kernel_rfl) (by kernel_rfl) rfl rfl ?_
              refine TA.off (listed' := #[true, true, true, true, true, true, true, true, true, true, true, true, true, true, true, false, false, false, false, false, false, false, false, false, false, false]) 14 [0, 0] rfl (Gd.un 13 true 40 rfl rfl rfl) rfl rfl (by kernel_rfl) (by kernel_rfl) (by kernel_rfl) rfl rfl ?_
              refine TA.off (listed' := #[true, true, true, true, true, true, true, true, true, true, true, true, true, true, true, true, false, false, false, false, false, false, false, false, false, false]) 15 [0, 0] rfl (Gd.un 13 true 40 rfl rfl rfl) rfl rfl (by kernel_rfl) (by kernel_rfl) (by kernel_rfl) rfl rfl ?_
              refine TA.off (listed' := #[true, true, true, true, true, true, true, true, true, true, true, true, true, true, true, true, true, false, false, false, false, false, false, false, false, false]) 16 [0, 0] rfl (Gd.un 13 true 40 rfl rfl rfl) rfl rfl (by kernel_rfl) (by kernel_rfl) (by kernel_rfl) rfl rfl ?_
              refine TA.off (listed' := #[true, true, true, true, true, true, true, true, true, true, true, true, true, true, true, true, true, true, false, false, false, false, false, false, false, false]) 17 [0, 0] rfl (Gd.un 13 true 40 rfl rfl rfl) rfl rfl (by kernel_rfl) (by kernel_rfl) (by kernel_rfl) rfl rfl ?_
              refine TA.off (listed' := #[true, true, true, true, true, true, true, true, true, true, true, true, true, true, true, true, true, true, true, false, false, false, false, false, false, false]) 18 [0, 0] rfl (Gd.un 13 true 40 rfl rfl rfl) rfl rfl (by kernel_rfl) (by kernel_rfl) (by kernel_rfl) rfl rfl ?_
              refine TA.off (listed' := #[true, true, true, true, true, true, true, true, true, true, true, true, true, true, true, true, true, true, true, true, false, false, false, false, false, false]) 19 [0, 0] rfl (Gd.un 13 true 40 rfl rfl rfl) rfl rfl (by kernel_rfl) (by kernel_rfl) (by kernel_rfl) rfl rfl ?_
              refine TA.off (listed' := #[true, true, true, true, true, true, true, true, true, true, true, true, true, true, true, true, true, true, true, true, true, false, false, false, false, false]) 20 [0, 0] rfl (Gd.un 13 true 40 rfl rfl rfl) rfl rfl (by kernel_rfl) (by kernel_rfl) (by kernel_rfl) rfl rfl ?_
              refine TA.off (listed' := #[true, true, true, true, true, true, true, true, true, true, true, true, true, true, true, true, true, true, true, true, true, true, false, false, false, false]) 21 [0, 0] rfl (Gd.un 13 true 40 rfl rfl rfl) rfl rfl (by kernel_rfl) (by kernel_rfl) (by kernel_rfl) rfl rfl ?_
              refine TA.off (listed' := #[true, true, true, true, true, true, true, true, true, true, true, true, true, true, true, true, true, true, true, true, true, true, true, false, false, false]) 22 [0, 0] rfl (Gd.un 13 true 40 rfl rfl rfl) rfl rfl (by kernel_rfl) (by kernel_rfl) (by kernel_rfl) rfl rfl ?_
              refine TA.off (listed' := #[true, true, true, true, true, true, true, true, true, true, true, true, true, true, true, true, true, true, true, true, true, true, true, true, false, false]) 23 [0, 0] rfl (Gd.un 13 true 40 rfl rfl rfl) rfl rfl (by kernel_rfl) (by kernel_rfl) (by kernel_rfl) rfl rfl ?_
              refine TA.off (listed' := #[true, true, true, true, true, true, true, true, true, true, true, true, true, true, true, true, true, true, true, true, true, true, true, true, true, false]) 24 [0, 0] rfl (Gd.at 10 false 37 true rfl rfl rfl rfl) rfl rfl (by kernel_rfl) (by kernel_rfl) (by kernel_rfl) rfl rfl ?_
              refine TA.y (listed' := #[true, true, true, true, true, true, true, true, true, true, true, true, true, true, true, true, true, true, true, true, true, true, true, true, true, true]) 25 [0, 0] rfl (Y.pick_t rfl rfl rfl) rfl rfl rfl (by kernel_rfl) (by kernel_rfl) (by kernel_rfl) rfl rfl ?_
              refine TA.nil (by kernel_rfl) ?_
              exact TE.jb_go () [1] ⟨rfl, rfl, rfl, trivial⟩ rfl
            · refine TA.y (listed' := #[true, true, true, true, true, true, false, false, false, false, false, false, false, false, false, false, false, false, false, false, false, false, false, false, false, false]) 5 [0, 0] rfl (Y.field_box kf56_1 rfl rfl) (Gd.at 4 false 31 (!R19) rfl rfl rfl (beq_ff H22)) rfl rfl (by kernel_rfl) (by kernel_rfl) (by kernel_rfl) rfl rfl ?_
              refine TA.y (listed' := #[true, true, true, true, true, true, true, false, false, false, false, false, false, false, false, false, false, false, false, false, false, false, false, false, false, false]) 6 [0, 0] rfl (Y.load_box (v := .int .i64 E14.Quota) 0 kk3 rfl rfl rfl) (Gd.at 4 false 31 (!R19) rfl rfl rfl (beq_ff H22)) rfl rfl (by kernel_rfl) (by kernel_rfl) (by kernel_rfl) rfl rfl ?_
              refine TA.bind fun R23 H24 => ?_
              refine TA.one 7 (by kernel_rfl) ?_
              refine TX.ef (listed' := #[true, true, true, true, true, true, true, true, false, false, false, false, false, false, false, false, false, false, false, false, false, false, false, false, false, false]) [0, 0] rfl (Ef.call (rest := [.box B16 56 [.int .i64 E14.Tenant, .int .i64 E14.Quota], .box B1 28 [.int .i64 s.Size, V_s1]]) [0, 0] (spec_l1In_con E14.Quota (0 : Int) (1000 : Int)  R23 H24) kc79 rfl rfl trivial) (Gd.at 4 false 31 (!R19) rfl rfl rfl (beq_ff H22)) rfl rfl rfl (fun _ => rfl) (fun _ => ?_)
              refine TA.y (listed' := #[true, true, true, true, true, true, true, true, true, false, false, false, false, false, false, false, false, false, false, false, false, false, false, false, false, false]) 8 [0, 0] rfl (Y.not rfl) (Gd.at 4 false 31 (!R19) rfl rfl rfl (beq_ff H22)) rfl rfl (by kernel_rfl) (by kernel_rfl) (by kernel_rfl) rfl rfl ?_
              refine TA.y (listed' := #[true, true, true, true, true, true, true, true, true, true, false, false, false, false, false, false, false, false, false, false, false, false, false, false, false, false]) 9 [0, 0] rfl (Y.pick_f H22 rfl rfl) rfl rfl rfl (by kernel_rfl) (by kernel_rfl) (by kernel_rfl) rfl rfl ?_
              refine TA.y (listed' := #[true, true, true, true, true, true, true, true, true, true, true, false, false, false, false, false, false, false, false, false, false, false, false, false, false, false]) 10 [0, 0] rfl (Y.move rfl) rfl rfl rfl (by kernel_rfl) (by kernel_rfl) (by kernel_rfl) rfl rfl ?_
              refine TA.ite (b := !R23) (fun H26 => ?_) (fun H26 => ?_)
              · refine TA.off (listed' := #[true, true, true, true, true, true, true, true, true, true, true, true, false, false, false, false, false, false, false, false, false, false, false, false, false, false]) 11 [0, 0] rfl (Gd.at 10 false 37 (!R23) rfl rfl rfl (beq_tf H26)) rfl rfl (by kernel_rfl) (by kernel_rfl) (by kernel_rfl) rfl rfl ?_
                refine TA.off (listed' := #[true, true, true, true, true, true, true, true, true, true, true, true, true, false, false, false, false, false, false, false, false, false, false, false, false, false]) 12 [0, 0] rfl (Gd.at 10 false 37 (!R23) rfl rfl rfl (beq_tf H26)) rfl rfl (by kernel_rfl) (by kernel_rfl) (by kernel_rfl) rfl rfl ?_
                refine TA.off (listed' := #[true, true, true, true, true, true, true, true, true, true, true, true, true, true, false, false, false, false, false, false, false, false, false, false, false, false]) 13 [0, 0] rfl (Gd.at 10 false 37 (!R23) rfl rfl rfl (beq_tf H26)) rfl rfl (by kernel_rfl) (by kernel_rfl) (by kernel_rfl) rfl rfl ?_
                refine TA.off (listed' := #[true, true, true, true, true, true, true, true, true, true, true, true, true, true, true, false, false, false, false, false, false, false, false, false, false, false]) 14 [0, 0] rfl (Gd.un 13 true 40 rfl rfl rfl) rfl rfl (by kernel_rfl) (by kernel_rfl) (by kernel_rfl) rfl rfl ?_
                refine TA.off (listed' := #[true, true, true, true, true, true, true, true, true, true, true, true, true, true, true, true, false, false, false, false, false, false, false, false, false, false]) 15 [0, 0] rfl (Gd.un 13 true 40 rfl rfl rfl) rfl rfl (by kernel_rfl) (by kernel_rfl) (by kernel_rfl) rfl rfl ?_
                refine TA.off (listed' := #[true, true, true, true, true, true, true, true, true, true, true, true, true, true, true, true, true, false, false, false, false, false, false, false, false, false]) 16 [0, 0] rfl (Gd.un 13 true 40 rfl rfl rfl) rfl rfl (by kernel_rfl) (by kernel_rfl) (by kernel_rfl) rfl rfl ?_
                refine TA.off (listed' := #[true, true, true, true, true, true, true, true, true, true, true, true, true, true, true, true, true, true, false, false, false, false, false, false, false, false]) 17 [0, 0] rfl (Gd.un 13 true 40 rfl rfl rfl) rfl rfl (by kernel_rfl) (by kernel_rfl) (by kernel_rfl) rfl rfl ?_
                refine TA.off (listed' := #[true, true, true, true, true, true, true, true, true, true, true, true, true, true, true, true, true, true, true, false, false, false, false, false, false, false]) 18 [0, 0] rfl (Gd.un 13 true 40 rfl rfl rfl) rfl rfl (by kernel_rfl) (by kernel_rfl) (by kernel_rfl) rfl rfl ?_
                refine TA.off (listed' := #[true, true, true, true, true, true, true, true, true, true, true, true, true, true, true, true, true, true, true, true, false, false, false, false, false, false]) 19 [0, 0] rfl (Gd.un 13 true 40 rfl rfl rfl) rfl rfl (by kernel_rfl) (by kernel_rfl) (by kernel_rfl) rfl rfl ?_
                refine TA.off (listed' := #[true, true, true, true, true, true, true, true, true, true, true, true, true, true, true, true, true, true, true, true, true, false, false, false, false, false]) 20 [0, 0] rfl (Gd.un 13 true 40 rfl rfl rfl) rfl rfl (by kernel_rfl) (by kernel_rfl) (by kernel_rfl) rfl rfl ?_
                refine TA.off (listed' := #[true, true, true, true, true, true, true, true, true, true, true, true, true, true, true, true, true, true, true, true, true, true, false, false, false, false]) 21 [0, 0] rfl (Gd.un 13 true 40 rfl rfl rfl) rfl rfl (by kernel_rfl) (by kernel_rfl) (by kernel_rfl) rfl rfl ?_
                refine TA.off (listed' := #[true, true, true, true, true, true, true, true, true, true, true, true, true, true, true, true, true, true, true, true, true, true, true, false, false, false]) 22 [0, 0] rfl (Gd.un 13 true 40 rfl rfl rfl) rfl rfl (by kernel_rfl) (by kernel_rfl) (by kernel_rfl) rfl rfl ?_
                refine TA.off (listed' := #[true, true, true, true, true, true, true, true, true, true, true, true, true, true, true, true, true, true, true, true, true, true, true, true, false, false]) 23 [0, 0] rfl (Gd.un 13 true 40 rfl rfl rfl) rfl rfl (by kernel_rfl) (by kernel_rfl) (by kernel_rfl) rfl rfl ?_
                refine TA.off (listed' := #[true, true, true, true, true, true, true, true, true, true, true, true, true, true, true, true, true, true, true, true, true, true, true, true, true, false]) 24 [0, 0] rfl (Gd.at 10 false 37 (!R23) rfl rfl rfl (beq_tf H26)) rfl rfl (by kernel_rfl) (by kernel_rfl) (by kernel_rfl) rfl rfl ?_
                refine TA.y (listed' := #[true, true, true, true, true, true, true, true, true, true, true, true, true, true, true, true, true, true, true, true, true, true, true, true, true, true]) 25 [0, 0] rfl (Y.pick_t H26 rfl rfl) rfl rfl rfl (by kernel_rfl) (by kernel_rfl) (by kernel_rfl) rfl rfl ?_
                refine TA.nil (by kernel_rfl) ?_
                exact TE.jb_go () [1] ⟨rfl, rfl, rfl, trivial⟩ rfl
              · refine TA.y (listed' := #[true, true, true, true, true, true, true, true, true, true, true, true, false, false, false, false, false, false, false, false, false, false, false, false, false, false]) 11 [0, 0] rfl (Y.move rfl) (Gd.at 10 false 37 (!R23) rfl rfl rfl (beq_ff H26)) rfl rfl (by kernel_rfl) (by kernel_rfl) (by kernel_rfl) rfl rfl ?_
                refine TA.y (listed' := #[true, true, true, true, true, true, true, true, true, true, true, true, true, false, false, false, false, false, false, false, false, false, false, false, false, false]) 12 [0, 0] rfl (Y.gtr rfl rfl) (Gd.at 10 false 37 (!R23) rfl rfl rfl (beq_ff H26)) rfl rfl (by kernel_rfl) (by kernel_rfl) (by kernel_rfl) rfl rfl ?_
                refine TA.y (listed' := #[true, true, true, true, true, true, true, true, true, true, true, true, true, true, false, false, false, false, false, false, false, false, false, false, false, false]) 13 [0, 0] rfl (Y.move rfl) (Gd.at 10 false 37 (!R23) rfl rfl rfl (beq_ff H26)) rfl rfl (by kernel_rfl) (by kernel_rfl) (by kernel_rfl) rfl rfl ?_
                refine TA.ite (b := decide (S9 > (0 : Int))) (fun H27 => ?_) (fun H27 => ?_)
                · refine TA.y (listed' := #[true, true, true, true, true, true, true, true, true, true, true, true, true, true, true, false, false, false, false, false, false, false, false, false, false, false]) 14 [0, 0] rfl (Y.field_box kf28_1 rfl rfl) (Gd.at 13 true 40 (decide (S9 > (0 : Int))) rfl rfl rfl (beq_tt H27)) rfl rfl (by kernel_rfl) (by kernel_rfl) (by kernel_rfl) rfl rfl ?_
                  refine TA.y (listed' := #[true, true, true, true, true, true, true, true, true, true, true, true, true, true, true, true, false, false, false, false, false, false, false, false, false, false]) 15 [0, 0] rfl (Y.load_box (v := V_s1) 1 kk26 rfl rfl rfl) (Gd.at 13 true 40 (decide (S9 > (0 : Int))) rfl rfl rfl (beq_tt H27)) rfl rfl (by kernel_rfl) (by kernel_rfl) (by kernel_rfl) rfl rfl ?_
                  refine TA.y (listed' := #[true, true, true, true, true, true, true, true, true, true, true, true, true, true, true, true, true, false, false, false, false, false, false, false, false, false]) 16 [0, 0] rfl (Y.move rfl) (Gd.at 13 true 40 (decide (S9 > (0 : Int))) rfl rfl rfl (beq_tt H27)) rfl rfl (by kernel_rfl) (by kernel_rfl) (by kernel_rfl) rfl rfl ?_
                  refine TA.y (listed' := #[true, true, true, true, true, true, true, true, true, true, true, true, true, true, true, true, true, true, false, false, false, false, false, false, false, false]) 17 [0, 0] rfl (Y.sub rfl rfl) (Gd.at 13 true 40 (decide (S9 > (0 : Int))) rfl rfl rfl (beq_tt H27)) rfl rfl (by kernel_rfl) (by kernel_rfl) (by kernel_rfl) rfl rfl ?_
                  refine TA.bind fun E28 H29 => ?_
                  refine TA.y (listed' := #[true, true, true, true, true, true, true, true, true, true, true, true, true, true, true, true, true, true, true, false, false, false, false, false, false, false]) 18 [0, 0] rfl (Y.index ke26 (Base.can HB_V_s1) H29 rfl rfl) (Gd.at 13 true 40 (decide (S9 > (0 : Int))) rfl rfl rfl (beq_tt H27)) rfl rfl (by kernel_rfl) (by kernel_rfl) (by kernel_rfl) rfl rfl ?_
                  refine TA.y (listed' := #[true, true, true, true, true, true, true, true, true, true, true, true, true, true, true, true, true, true, true, true, false, false, false, false, false, false]) 19 [0, 0] rfl (Y.field_el kf56_0 (Base.can HB_V_s1) (idx_get H29).2.2 rfl rfl) (Gd.at 13 true 40 (decide (S9 > (0 : Int))) rfl rfl rfl (beq_tt H27)) rfl rfl (by kernel_rfl) (by kernel_rfl) (by kernel_rfl) rfl rfl ?_
                  refine TA.y (listed' := #[true, true, true, true, true, true, true, true, true, true, true, true, true, true, true, true, true, true, true, true, true, false, false, false, false, false]) 20 [0, 0] rfl (Y.load_el (us := [.int .i64 E28.Tenant]) (u := .int .i64 E28.Tenant) kk3 rfl (Base.can HB_V_s1) (idx_get H29).2.2 rfl rfl rfl rfl rfl) (Gd.at 13 true 40 (decide (S9 > (0 : Int))) rfl rfl rfl (beq_tt H27)) rfl rfl (by kernel_rfl) (by kernel_rfl) (by kernel_rfl) rfl rfl ?_
                  refine TA.y (listed' := #[true, true, true, true, true, true, true, true, true, true, true, true, true, true, true, true, true, true, true, true, true, true, false, false, false, false]) 21 [0, 0] rfl (Y.field_box kf56_0 rfl rfl) (Gd.at 13 true 40 (decide (S9 > (0 : Int))) rfl rfl rfl (beq_tt H27)) rfl rfl (by kernel_rfl) (by kernel_rfl) (by kernel_rfl) rfl rfl ?_
                  refine TA.y (listed' := #[true, true, true, true, true, true, true, true, true, true, true, true, true, true, true, true, true, true, true, true, true, true, true, false, false, false]) 22 [0, 0] rfl (Y.load_box (v := .int .i64 E14.Tenant) 0 kk3 rfl rfl rfl) (Gd.at 13 true 40 (decide (S9 > (0 : Int))) rfl rfl rfl (beq_tt H27)) rfl rfl (by kernel_rfl) (by kernel_rfl) (by kernel_rfl) rfl rfl ?_
                  refine TA.y (listed' := #[true, true, true, true, true, true, true, true, true, true, true, true, true, true, true, true, true, true, true, true, true, true, true, true, false, false]) 23 [0, 0] rfl (Y.geq rfl rfl) (Gd.at 13 true 40 (decide (S9 > (0 : Int))) rfl rfl rfl (beq_tt H27)) rfl rfl (by kernel_rfl) (by kernel_rfl) (by kernel_rfl) rfl rfl ?_
                  refine TA.y (listed' := #[true, true, true, true, true, true, true, true, true, true, true, true, true, true, true, true, true, true, true, true, true, true, true, true, true, false]) 24 [0, 0] rfl (Y.pick_t H27 rfl rfl) (Gd.at 10 false 37 (!R23) rfl rfl rfl (beq_ff H26)) rfl rfl (by kernel_rfl) (by kernel_rfl) (by kernel_rfl) rfl rfl ?_
                  refine TA.y (listed' := #[true, true, true, true, true, true, true, true, true, true, true, true, true, true, true, true, true, true, true, true, true, true, true, true, true, true]) 25 [0, 0] rfl (Y.pick_f H26 rfl rfl) rfl rfl rfl (by kernel_rfl) (by kernel_rfl) (by kernel_rfl) rfl rfl ?_
                  refine TA.nil (by kernel_rfl) ?_
                  exact TE.jb_go () [1] ⟨rfl, rfl, rfl, trivial⟩ rfl
                · refine TA.off (listed' := #[true, true, true, true, true, true, true, true, true, true, true, true, true, true, true, false, false, false, false, false, false, false, false, false, false, false]) 14 [0, 0] rfl (Gd.at 13 true 40 (decide (S9 > (0 : Int))) rfl rfl rfl (beq_ft H27)) rfl rfl (by kernel_rfl) (by kernel_rfl) (by kernel_rfl) rfl rfl ?_
                  refine TA.off (listed' := #[true, true, true, true, true, true, true, true, true, true, true, true, true, true, true, true, false, false, false, false, false, false, false, false, false, false]) 15 [0, 0] rfl (Gd.at 13 true 40 (decide (S9 > (0 : Int))) rfl rfl rfl (beq_ft H27)) rfl rfl (by kernel_rfl) (by kernel_rfl) (by kernel_rfl) rfl rfl ?_
                  refine TA.off (listed' := #[true, true, true, true, true, true, true, true, true, true, true, true, true, true, true, true, true, false, false, false, false, false, false, false, false, false]) 16 [0, 0] rfl (Gd.at 13 true 40 (decide (S9 > (0 : Int))) rfl rfl rfl (beq_ft H27)) rfl rfl (by kernel_rfl) (by kernel_rfl) (by kernel_rfl) rfl rfl ?_
                  refine TA.off (listed' := #[true, true, true, true, true, true, true, true, true, true, true, true, true, true, true, true, true, true, false, false, false, false, false, false, false, false]) 17 [0, 0] rfl (Gd.at 13 true 40 (decide (S9 > (0 : Int))) rfl rfl rfl (beq_ft H27)) rfl rfl (by kernel_rfl) (by kernel_rfl) (by kernel_rfl) rfl rfl ?_
                  refine TA.off (listed' := #[true, true, true, true, true, true, true, true, true, true, true, true, true, true, true, true, true, true, true, false, false, false, false, false, false, false]) 18 [0, 0] rfl (Gd.at 13 true 40 (decide (S9 > (0 : Int))) rfl rfl rfl (beq_ft H27)) rfl rfl (by kernel_rfl) (by kernel_rfl) (by kernel_rfl) rfl rfl ?_
                  refine TA.off (listed' := #[true, true, true, true, true, true, true, true, true, true, true, true, true, true, true, true, true, true, true, true, false, false, false, false, false, false]) 19 [0, 0] rfl (Gd.at 13 true 40 (decide (S9 > (0 : Int))) rfl rfl rfl (beq_ft H27)) rfl rfl (by kernel_rfl) (by kernel_rfl) (by kernel_rfl) rfl rfl ?_
                  refine TA.off (listed' := #[true, true, true, true, true, true, true, true, true, true, true, true, true, true, true, true, true, true, true, true, true, false, false, false, false, false]) 20 [0, 0] rfl (Gd.at 13 true 40 (decide (S9 > (0 : Int))) rfl rfl rfl (beq_ft H27)) rfl rfl (by kernel_rfl) (by kernel_rfl) (by kernel_rfl) rfl rfl ?_
                  refine TA.off (listed' := #[true, true, true, true, true, true, true, true, true, true, true, true, true, true, true, true, true, true, true, true, true, true, false, false, false, false]) 21 [0, 0] rfl (Gd.at 13 true 40 (decide (S9 > (0 : Int))) rfl rfl rfl (beq_ft H27)) rfl rfl (by kernel_rfl) (by kernel_rfl) (by kernel_rfl) rfl rfl ?_
                  refine TA.off (listed' := #[true, true, true, true, true, true, true, true, true, true, true, true, true, true, true, true, true, true, true, true, true, true, true, false, false, false]) 22 [0, 0] rfl (Gd.at 13 true 40 (decide (S9 > (0 : Int))) rfl rfl rfl (beq_ft H27)) rfl rfl (by kernel_rfl) (by kernel_rfl) (by kernel_rfl) rfl rfl ?_
                  refine TA.off (listed' := #[true, true, true, true, true, true, true, true, true, true, true, true, true, true, true, true, true, true, true, true, true, true, true, true, false, false]) 23 [0, 0] rfl (Gd.at 13 true 40 (decide (S9 > (0 : Int))) rfl rfl rfl (beq_ft H27)) rfl rfl (by kernel_rfl) (by kernel_rfl) (by kernel_rfl) rfl rfl ?_
                  refine TA.y (listed' := #[true, true, true, true, true, true, true, true, true, true, true, true, true, true, true, true, true, true, true, true, true, true, true, true, true, false]) 24 [0, 0] rfl (Y.pick_f H27 rfl rfl) (Gd.at 10 false 37 (!R23) rfl rfl rfl (beq_ff H26)) rfl rfl (by kernel_rfl) (by kernel_rfl) (by kernel_rfl) rfl rfl ?_
                  refine TA.y (listed' := #[true, true, true, true, true, true, true, true, true, true, true, true, true, true, true, true, true, true, true, true, true, true, true, true, true, true]) 25 [0, 0] rfl (Y.pick_f H26 rfl rfl) rfl rfl rfl (by kernel_rfl) (by kernel_rfl) (by kernel_rfl) rfl rfl ?_
                  refine TA.nil (by kernel_rfl) ?_
                  exact TE.jb_go () [1] ⟨rfl, rfl, rfl, trivial⟩ rfl
          · refine TE.next ?_
            refine TW.cond rfl (fun H30 => ?_) (fun H30 => ?_)
            · refine TW.seq ?_
              refine TW.region ?_
              refine TO.y (Y.assign rfl) rfl rfl rfl ?_
              refine TO.nil ?_
              refine TE.next ?_
              refine TW.ret ?_
              refine TE.block_ret ?_
              refine TE.then_ret ?_
              refine TE.lp_ret ?_
              refine TE.block_ret ?_
              refine TE.jn_done ?_
              refine TE.then_ret ?_
              exact TE.leaf fun _ _ hf_ hs_ => ret_any (rs := [.tmp 2]) (vs := [.bool false]) (.inl rfl) rfl ⟨rfl, trivial⟩ hf_ hs_ ⟨(), rfl, hs_.pulls [] rfl⟩
            · refine TW.skip ?_
              refine TE.block_normal ?_
              refine TE.next ?_
              refine TW.region ?_
              refine TO.y (Y.move rfl) rfl rfl rfl ?_
              refine TO.y (Y.add rfl rfl) rfl rfl rfl ?_
              refine TO.y (Y.assign rfl) rfl rfl rfl ?_
              refine TO.nil ?_
              exact TE.lp_go () [0] ⟨rfl, rfl, trivial⟩ rfl
        · refine TW.exit ?_
          refine TE.then_exit ?_
          refine TE.lp_exit ?_
          refine TE.block_exit ?_
          exact TE.jn_go () [0] ⟨rfl, trivial⟩ rfl
      · refine TE.next ?_
        refine TW.seq ?_
        refine TW.draw (isH := [.box B1 28 [.int .i64 s.Size, V_s1]]) hMix ?_
        refine TA.y (listed' := #[true, false, false, false, false, false]) 0 [0] rfl (Y.load_box (v := .agg #[.int .i64 s.Size, V_s1]) 0 kk28 rfl rfl rfl) rfl rfl rfl (by kernel_rfl) (by kernel_rfl) (by kernel_rfl) rfl rfl ?_
        refine TA.y (listed' := #[true, false, true, false, false, false]) 2 [0] rfl (Y.field_box kf28_0 rfl rfl) rfl rfl rfl (by kernel_rfl) (by kernel_rfl) (by kernel_rfl) rfl rfl ?_
        refine TA.y (listed' := #[true, false, true, true, false, false]) 3 [0] rfl (Y.load_box (v := .int .i64 s.Size) 0 kk3 rfl rfl rfl) rfl rfl rfl (by kernel_rfl) (by kernel_rfl) (by kernel_rfl) rfl rfl ?_
        refine TA.bind fun R31 H32 => ?_
        refine TA.one 1 (by kernel_rfl) ?_
        refine TX.ef (listed' := #[true, true, true, true, false, false]) [0] rfl (Ef.call (rest := [.box B1 28 [.int .i64 s.Size, V_s1]]) [0] (spec_l19All_con s V_s1 R31 H32) kc80 rfl rfl ⟨(Base.can HB_V_s1), trivial⟩) rfl rfl rfl rfl (fun _ => rfl) (fun _ => ?_)
        refine TA.y (listed' := #[true, true, true, true, true, false]) 4 [0] rfl (Y.leq rfl rfl) rfl rfl rfl (by kernel_rfl) (by kernel_rfl) (by kernel_rfl) rfl rfl ?_
        refine TA.y (listed' := #[true, true, true, true, true, true]) 5 [0] rfl (Y.assign rfl) rfl rfl rfl (by kernel_rfl) (by kernel_rfl) (by kernel_rfl) rfl rfl ?_
        refine TA.nil (by kernel_rfl) ?_
        refine TE.next ?_
        refine TW.ret ?_
        exact TE.leaf fun _ _ hf_ hs_ => ret_any (rs := [.tmp 2]) (vs := [.bool (decide (R31 ≤ s.Size))]) (.inl rfl) rfl ⟨rfl, trivial⟩ hf_ hs_ ⟨(), rfl, hs_.pulls [] rfl⟩

/-- loop.example/g00950/spec.l19Copy -/
noncomputable def spec_l19Copy (s : Shares) : Option Shares :=
  (app 16 ([] : List Share) s.List).bind fun E5 =>
  some ({ Size := s.Size, List := E5 : Shares })

theorem spec_l19Copy_con (s : Shares) (V_s1 : Value) (r : Shares) (hm : spec_l19Copy s = some r) :
    Con Try.prog 59 [.agg #[.int .i64 s.Size, V_s1]] [] [(V_s1, lc s.List)] (fun X : Value => .agg #[.int .i64 r.Size, X]) (fun X => [.own X (lc r.List)]) := by
  refine Con.intro (args := [.agg #[.int .i64 s.Size, V_s1]]) (n := 10) (val := fun r (X : Value) => .agg #[.int .i64 r.Size, X]) (post := fun r X => [.own X (lc r.List)]) (m := spec_l19Copy s) Try.func59 rfl rfl rfl hm ?_
  intro w S hrd
  have HB_V_s1 := hrd _ (.head _)
  clear hrd
  unfold spec_l19Copy
  refine TW.seq ?_
  refine TW.region ?_
  refine TO.ef (Ef.box rfl (Cel.agg ⟨(One.plain rfl), (One.can (Base.can HB_V_s1)), trivial⟩)) rfl rfl rfl (fun B1 => ?_)
  refine TO.ef (Ef.alloc kz28 rfl) rfl rfl rfl (fun B2 => ?_)
  refine TO.nil ?_
  refine TE.next ?_
  refine TW.seq ?_
  refine TW.draw (isH := [.box B1 28 [.int .i64 s.Size, V_s1]]) hMix ?_
  refine TA.y (listed' := #[true, false, false, false, false, false, false, false]) 0 [1] rfl (Y.field_box kf28_0 rfl rfl) rfl rfl rfl (by kernel_rfl) (by kernel_rfl) (by kernel_rfl) rfl rfl ?_
  refine TA.y (listed' := #[true, true, false, false, false, false, false, false]) 1 [1] rfl (Y.load_box (v := .int .i64 s.Size) 0 kk3 rfl rfl rfl) rfl rfl rfl (by kernel_rfl) (by kernel_rfl) (by kernel_rfl) rfl rfl ?_
  refine TA.y (listed' := #[true, true, false, true, false, false, false, false]) 3 [1] rfl (Y.field_box kf28_1 rfl rfl) rfl rfl rfl (by kernel_rfl) (by kernel_rfl) (by kernel_rfl) rfl rfl ?_
  refine TA.y (listed' := #[true, true, false, true, true, false, false, false]) 4 [1] rfl (Y.load_box (v := V_s1) 0 kk26 rfl rfl rfl) rfl rfl rfl (by kernel_rfl) (by kernel_rfl) (by kernel_rfl) rfl rfl ?_
  refine TA.one 2 (by kernel_rfl) ?_
  refine TX.ef (listed' := #[true, true, true, true, true, false, false, false]) [2] rfl (Ef.buildSlice (α := Share) (Vs := []) ([] : List Share) ke26 kz56 rfl rfl rfl rfl rfl) rfl rfl rfl rfl (fun _ => rfl) (fun B3 => ?_)
  refine TA.bind fun E5 H6 => ?_
  refine TA.one 5 (by kernel_rfl) ?_
  refine TX.ef (listed' := #[true, true, true, true, true, true, false, false]) [2] rfl (Ef.append (α := Share) (is' := [.box B2 28 [.int .i64 (0 : Int), .slice none 0 0], .box B1 28 [.int .i64 s.Size, V_s1]]) [0, 0, 0] H6 ke26 kz56 rfl rfl rfl rfl rfl (Base.can HB_V_s1)) rfl rfl rfl rfl (fun _ => rfl) (fun V4 => ?_)
  refine TA.one 6 (by kernel_rfl) ?_
  refine TX.y (listed' := #[true, true, true, true, true, true, true, false]) [2] rfl (Y.build (cells := [.int .i64 s.Size, V4]) [(0, [.int .i64 s.Size]), (1, [V4])] kp28 kz28 ⟨rfl, ⟨_, rfl, (Cel.plain rfl rfl)⟩, ⟨rfl, ⟨_, rfl, (Cel.one (One.can (Can.own 0 rfl)))⟩, trivial⟩⟩ rfl) rfl rfl rfl rfl rfl ?_
  refine TA.one 7 (by kernel_rfl) ?_
  refine TX.ef0 (listed' := #[true, true, true, true, true, true, true, true]) [2] rfl (Ef.store_box (us := [.int .i64 s.Size, V4]) (vs' := [.int .i64 s.Size, V4]) (is' := [.own V4 (lc E5), .box B2 28 [.int .i64 s.Size, V4], .box B1 28 [.int .i64 s.Size, V_s1]]) 1 kk28 rfl rfl rfl (Cel.agg ⟨(One.plain rfl), (One.can (Can.own 0 rfl)), trivial⟩) rfl rfl rfl rfl) rfl rfl rfl (fun _ => rfl) (fun _ => ?_)
  refine TA.nil (by kernel_rfl) ?_
  refine TE.next ?_
  refine TW.ret ?_
  exact TE.leaf fun _ _ hf_ hs_ => ret_any (rs := [.cell 2 28]) (vs := [.agg #[.int .i64 s.Size, V4]]) (.inl rfl) rfl (RV.cell 1 rfl rfl kk28 rfl trivial) hf_ hs_ ⟨V4, rfl, hs_.pulls [0] rfl⟩

/-- loop.example/g00950/spec.ShareSet -/
noncomputable def spec_ShareSet (s : Shares) (tenant : Int) (quota : Int) : Option (Shares × Bool) :=
  (spec_SharesOk s).bind fun R3 =>
  if (!R3) = true then (some ({ Size := (0 : Int), List := ([] : List Share) : Shares }, false))
  else (bindC (loopO (fun (S9 : Bool × Int × List Share) => if (decide (S9.2.1 < ((s.List.length : Nat) : Int))) = true then ((if (!S9.1) = true then ((idx s.List S9.2.1).bind fun E17 =>
  some (decide (E17.Tenant ≥ tenant)))
  else (some false)).bind (fun (T14 : Bool) =>
  bindC (if T14 = true then ((app 16 S9.2.2 ([{ Tenant := tenant, Quota := quota : Share }])).bind fun E24 =>
  some (.go (true, E24)))
  else (some (.go (S9.1, S9.2.2))))
  (fun (T19 : Bool × List Share) => (idx s.List S9.2.1).bind fun E26 =>
  bindC (if (!(decide (E26.Tenant = tenant))) = true then ((app 16 T19.2 ([E26])).bind fun E34 =>
  some (.go E34))
  else (some (.go T19.2)))
  (fun (T28 : List Share) => some (.go (T19.1, IntKind.i64.wrap (S9.2.1 + (1 : Int)), T28))))))
  else (some (.done (.go (S9.1, S9.2.2)))))
  (false, (0 : Int), ([] : List Share)))
  (fun (T11 : Bool × List Share) => bindC (if (!T11.1) = true then ((app 16 T11.2 ([{ Tenant := tenant, Quota := quota : Share }])).bind fun E44 =>
  some (.go E44))
  else (some (.go T11.2)))
  (fun (T39 : List Share) => (spec_SharesOk ({ Size := s.Size, List := T39 : Shares })).bind fun R46 =>
  if (!R46) = true then ((spec_l19Copy s).bind fun R50 =>
  some (R50, false))
  else (some ({ Size := s.Size, List := T39 : Shares }, true)))))

theorem spec_ShareSet_con (s : Shares) (tenant : Int) (quota : Int) (V_s1 : Value) (r : Shares × Bool) (hm : spec_ShareSet s tenant quota = some r) :
    Con Try.prog 10 [.agg #[.int .i64 s.Size, V_s1], .int .i64 tenant, .int .i64 quota] [] [(V_s1, lc s.List)] (fun X : Value => .tuple #[.agg #[.int .i64 r.1.Size, X], .bool r.2]) (fun X => [.own X (lc r.1.List)]) := by
  refine Con.intro (args := [.agg #[.int .i64 s.Size, V_s1], .int .i64 tenant, .int .i64 quota]) (n := 79) (val := fun r (X : Value) => .tuple #[.agg #[.int .i64 r.1.Size, X], .bool r.2]) (post := fun r X => [.own X (lc r.1.List)]) (m := spec_ShareSet s tenant quota) Try.func10 rfl rfl rfl hm ?_
  intro w S hrd
  have HB_V_s1 := hrd _ (.head _)
  clear hrd
  unfold spec_ShareSet
  refine TW.seq ?_
  refine TW.region ?_
  refine TO.ef (Ef.box rfl (Cel.agg ⟨(One.plain rfl), (One.can (Base.can HB_V_s1)), trivial⟩)) rfl rfl rfl (fun B1 => ?_)
  refine TO.ef (Ef.alloc kz28 rfl) rfl rfl rfl (fun B2 => ?_)
  refine TO.y (Y.assign rfl) rfl rfl rfl ?_
  refine TO.nil ?_
  refine TE.next ?_
  refine TW.seq ?_
  refine TW.seq ?_
  refine TW.region ?_
  refine TO.y (Y.load_box (v := .agg #[.int .i64 s.Size, V_s1]) 1 kk28 rfl rfl rfl) rfl rfl rfl ?_
  refine TO.bind fun R3 H4 => ?_
  refine TO.ef (Ef.call (rest := [.box B2 28 [.int .i64 (0 : Int), .slice none 0 0], .box B1 28 [.int .i64 s.Size, V_s1]]) [0, 0] (spec_SharesOk_con s V_s1 R3 H4) kc27 rfl rfl ⟨(Base.can HB_V_s1), trivial⟩) rfl rfl rfl (fun _ => ?_)
  refine TO.y (Y.not rfl) rfl rfl rfl ?_
  refine TO.nil ?_
  refine TE.next ?_
  refine TW.cond rfl (fun H6 => ?_) (fun H6 => ?_)
  · refine TW.seq ?_
    refine TW.region ?_
    refine TO.y (Y.build (cells := [.int .i64 (0 : Int), .slice none 0 0]) [] kp28 kz28 trivial rfl) rfl rfl rfl ?_
    refine TO.ef0 (Ef.store_box (us := [.int .i64 (0 : Int), .slice none 0 0]) (vs' := [.int .i64 (0 : Int), .slice none 0 0]) (is' := [.box B2 28 [.int .i64 (0 : Int), .slice none 0 0], .box B1 28 [.int .i64 s.Size, V_s1]]) 0 kk28 rfl rfl rfl (Cel.plain rfl rfl) rfl rfl rfl rfl) rfl rfl (fun _ => ?_)
    refine TO.y (Y.assign rfl) rfl rfl rfl ?_
    refine TO.nil ?_
    refine TE.next ?_
    refine TW.ret ?_
    refine TE.then_ret ?_
    exact TE.leaf fun _ _ hf_ hs_ => ret_any (rs := [.cell 6 28, .tmp 7]) (vs := [.agg #[.int .i64 (0 : Int), .slice none 0 0], .bool false]) (.inl rfl) rfl (RV.cell 0 rfl rfl kk28 rfl ⟨rfl, trivial⟩) hf_ hs_ ⟨(.slice none 0 0), rfl, (hs_.nilItem 2).pulls [0] rfl⟩
  · refine TW.skip ?_
    refine TE.next ?_
    refine TW.seq ?_
    refine TW.region ?_
    refine TO.y (Y.field_box kf28_0 rfl rfl) rfl rfl rfl ?_
    refine TO.y (Y.load_box (v := .int .i64 s.Size) 1 kk3 rfl rfl rfl) rfl rfl rfl ?_
    refine TO.y (Y.build (cells := [.int .i64 s.Size, .slice none 0 0]) [(0, [.int .i64 s.Size])] kp28 kz28 ⟨rfl, ⟨_, rfl, (Cel.plain rfl rfl)⟩, trivial⟩ rfl) rfl rfl rfl ?_
    refine TO.ef (Ef.alloc kz28 rfl) rfl rfl rfl (fun B8 => ?_)
    refine TO.ef0 (Ef.store_box (us := [.int .i64 s.Size, .slice none 0 0]) (vs' := [.int .i64 s.Size, .slice none 0 0]) (is' := [.box B8 28 [.int .i64 s.Size, .slice none 0 0], .box B2 28 [.int .i64 (0 : Int), .slice none 0 0], .box B1 28 [.int .i64 s.Size, V_s1]]) 0 kk28 rfl rfl rfl (Cel.plain rfl rfl) rfl rfl rfl rfl) rfl rfl (fun _ => ?_)
    refine TO.nil ?_
    refine TE.next ?_
    refine TW.seq ?_
    refine TW.region ?_
    refine TO.y (Y.assign rfl) rfl rfl rfl ?_
    refine TO.nil ?_
    refine TE.next ?_
    refine TW.seq ?_
    refine TW.seq ?_
    refine TW.region ?_
    refine TO.y (Y.assign rfl) rfl rfl rfl ?_
    refine TO.nil ?_
    refine TE.next ?_
    refine TW.joinX (τ := Bool × List Share) (X := Value) (fun T _ => [(1, .int .i64 tenant), (2, .int .i64 quota), (3, .pointer (some ⟨B1, 0, none⟩)), (6, .pointer (some ⟨B2, 0, none⟩)), (8, .pointer (some ⟨B8, 0, none⟩)), (9, .bool T.1)]) (fun T X => [.box B1 28 [.int .i64 s.Size, V_s1], .box B2 28 [.int .i64 (0 : Int), .slice none 0 0], .box B8 28 [.int .i64 s.Size, X], .own X (lc T.2)]) ?_ (fun T11 X12 => ?_)
    · refine TW.block ?_
      refine TW.nilItem 2 ?_
      refine TW.loopX (σ := Bool × Int × List Share) (X := Value) (fun T _ => [(1, .int .i64 tenant), (2, .int .i64 quota), (3, .pointer (some ⟨B1, 0, none⟩)), (6, .pointer (some ⟨B2, 0, none⟩)), (8, .pointer (some ⟨B8, 0, none⟩)), (9, .bool T.1), (10, .int .i64 T.2.1)]) (fun T X => [.box B1 28 [.int .i64 s.Size, V_s1], .box B2 28 [.int .i64 (0 : Int), .slice none 0 0], .box B8 28 [.int .i64 s.Size, X], .own X (lc T.2.2)]) (.slice none 0 0) [3, 2, 1, 0] ⟨rfl, rfl, rfl, rfl, rfl, rfl, rfl, trivial⟩ rfl (fun S9 X10 => ?_)
      refine TW.seq ?_
      refine TW.seq ?_
      refine TW.region ?_
      refine TO.y (Y.move rfl) rfl rfl rfl ?_
      refine TO.y (Y.field_box kf28_1 rfl rfl) rfl rfl rfl ?_
      refine TO.y (Y.load_box (v := V_s1) 0 kk26 rfl rfl rfl) rfl rfl rfl ?_
      refine TO.y (Y.len (l := s.List) ke26 (Base.can HB_V_s1) rfl) rfl rfl rfl ?_
      refine TO.y (Y.lss rfl rfl) rfl rfl rfl ?_
      refine TO.nil ?_
      refine TE.next ?_
      refine TW.cond rfl (fun H13 => ?_) (fun H13 => ?_)
      · refine TW.skip ?_
        refine TE.next ?_
        refine TW.seq ?_
        refine TW.block ?_
        refine TW.seq ?_
        refine TW.seq ?_
        refine TW.joinBX (τ := Bool) (X := Unit) (fun T _ => [(1, .int .i64 tenant), (2, .int .i64 quota), (3, .pointer (some ⟨B1, 0, none⟩)), (6, .pointer (some ⟨B2, 0, none⟩)), (8, .pointer (some ⟨B8, 0, none⟩)), (9, .bool S9.1), (10, .int .i64 S9.2.1), (36, .bool T)]) (fun _ _ => [.box B1 28 [.int .i64 s.Size, V_s1], .box B2 28 [.int .i64 (0 : Int), .slice none 0 0], .box B8 28 [.int .i64 s.Size, X10], .own X10 (lc S9.2.2)]) ?_ (fun T14 X15 => ?_)
        · refine TW.region ?_
          refine TO.y (Y.move rfl) rfl rfl rfl ?_
          refine TO.y (Y.not rfl) rfl rfl rfl ?_
          refine TO.y (Y.move rfl) rfl rfl rfl ?_
          refine TO.ite (b := !S9.1) (fun H16 => ?_) (fun H16 => ?_)
          · refine TO.y (Y.field_box kf28_1 rfl rfl) (Gd.at 2 true 27 (!S9.1) rfl rfl rfl (beq_tt H16)) rfl rfl ?_
            refine TO.y (Y.load_box (v := V_s1) 0 kk26 rfl rfl rfl) (Gd.at 2 true 27 (!S9.1) rfl rfl rfl (beq_tt H16)) rfl rfl ?_
            refine TO.y (Y.move rfl) (Gd.at 2 true 27 (!S9.1) rfl rfl rfl (beq_tt H16)) rfl rfl ?_
            refine TO.bind fun E17 H18 => ?_
            refine TO.y (Y.index ke26 (Base.can HB_V_s1) H18 rfl rfl) (Gd.at 2 true 27 (!S9.1) rfl rfl rfl (beq_tt H16)) rfl rfl ?_
            refine TO.y (Y.field_el kf56_0 (Base.can HB_V_s1) (idx_get H18).2.2 rfl rfl) (Gd.at 2 true 27 (!S9.1) rfl rfl rfl (beq_tt H16)) rfl rfl ?_
            refine TO.y (Y.load_el (us := [.int .i64 E17.Tenant]) (u := .int .i64 E17.Tenant) kk3 rfl (Base.can HB_V_s1) (idx_get H18).2.2 rfl rfl rfl rfl rfl) (Gd.at 2 true 27 (!S9.1) rfl rfl rfl (beq_tt H16)) rfl rfl ?_
            refine TO.y (Y.move rfl) (Gd.at 2 true 27 (!S9.1) rfl rfl rfl (beq_tt H16)) rfl rfl ?_
            refine TO.y (Y.geq rfl rfl) (Gd.at 2 true 27 (!S9.1) rfl rfl rfl (beq_tt H16)) rfl rfl ?_
            refine TO.y (Y.pick_t H16 rfl rfl) rfl rfl rfl ?_
            refine TO.nil ?_
            exact TE.jb_go () [0, 0, 0, 0] ⟨rfl, rfl, rfl, rfl, rfl, rfl, rfl, rfl, trivial⟩ rfl
          · refine TO.off (Gd.at 2 true 27 (!S9.1) rfl rfl rfl (beq_ft H16)) rfl rfl ?_
            refine TO.off (Gd.at 2 true 27 (!S9.1) rfl rfl rfl (beq_ft H16)) rfl rfl ?_
            refine TO.off (Gd.at 2 true 27 (!S9.1) rfl rfl rfl (beq_ft H16)) rfl rfl ?_
            refine TO.off (Gd.at 2 true 27 (!S9.1) rfl rfl rfl (beq_ft H16)) rfl rfl ?_
            refine TO.off (Gd.at 2 true 27 (!S9.1) rfl rfl rfl (beq_ft H16)) rfl rfl ?_
            refine TO.off (Gd.at 2 true 27 (!S9.1) rfl rfl rfl (beq_ft H16)) rfl rfl ?_
            refine TO.off (Gd.at 2 true 27 (!S9.1) rfl rfl rfl (beq_ft H16)) rfl rfl ?_
            refine TO.off (Gd.at 2 true 27 (!S9.1) rfl rfl rfl (beq_ft H16)) rfl rfl ?_
            refine TO.y (Y.pick_f H16 rfl rfl) rfl rfl rfl ?_
            refine TO.nil ?_
            exact TE.jb_go () [0, 0, 0, 0] ⟨rfl, rfl, rfl, rfl, rfl, rfl, rfl, rfl, trivial⟩ rfl
        · refine TE.next ?_
          refine TW.joinX (τ := Bool × List Share) (X := Value) (fun T _ => [(1, .int .i64 tenant), (2, .int .i64 quota), (3, .pointer (some ⟨B1, 0, none⟩)), (6, .pointer (some ⟨B2, 0, none⟩)), (8, .pointer (some ⟨B8, 0, none⟩)), (9, .bool T.1), (10, .int .i64 S9.2.1)]) (fun T X => [.box B1 28 [.int .i64 s.Size, V_s1], .box B2 28 [.int .i64 (0 : Int), .slice none 0 0], .box B8 28 [.int .i64 s.Size, X], .own X (lc T.2)]) ?_ (fun T19 X20 => ?_)
          · refine TW.cond rfl (fun H21 => ?_) (fun H21 => ?_)
            · refine TW.seq ?_
              refine TW.region ?_
              refine TO.y (Y.field_box kf28_1 rfl rfl) rfl rfl rfl ?_
              refine TO.y (Y.load_box (v := X10) 2 kk26 rfl rfl rfl) rfl rfl rfl ?_
              refine TO.y (Y.move rfl) rfl rfl rfl ?_
              refine TO.y (Y.move rfl) rfl rfl rfl ?_
              refine TO.y (Y.build (cells := [.int .i64 tenant, .int .i64 quota]) [(0, [.int .i64 tenant]), (1, [.int .i64 quota])] kp56 kz56 ⟨rfl, ⟨_, rfl, (Cel.plain rfl rfl)⟩, ⟨rfl, ⟨_, rfl, (Cel.plain rfl rfl)⟩, trivial⟩⟩ rfl) rfl rfl rfl ?_
              refine TO.ef (Ef.buildSlice (α := Share) (Vs := [.agg #[.int .i64 tenant, .int .i64 quota]]) [{ Tenant := tenant, Quota := quota : Share }] ke26 kz56 rfl rfl rfl rfl rfl) rfl rfl rfl (fun B22 => ?_)
              refine TO.bind fun E24 H25 => ?_
              refine TO.ef (Ef.append (α := Share) (is' := [.own (.slice (some ⟨B22, 0, none⟩) 1 1) (lc ([{ Tenant := tenant, Quota := quota : Share }])), .box B1 28 [.int .i64 s.Size, V_s1], .box B2 28 [.int .i64 (0 : Int), .slice none 0 0], .box B8 28 [.int .i64 s.Size, X10]]) [4, 0, 0, 0, 0] H25 ke26 kz56 rfl rfl rfl rfl rfl (Can.own 0 rfl)) rfl rfl rfl (fun V23 => ?_)
              refine TO.y (Y.field_box kf28_1 rfl rfl) rfl rfl rfl ?_
              refine TO.ef0 (Ef.store_box (us := [V23]) (vs' := [.int .i64 s.Size, V23]) (is' := [.own V23 (lc E24), .own (.slice (some ⟨B22, 0, none⟩) 1 1) (lc ([{ Tenant := tenant, Quota := quota : Share }])), .box B1 28 [.int .i64 s.Size, V_s1], .box B2 28 [.int .i64 (0 : Int), .slice none 0 0], .box B8 28 [.int .i64 s.Size, V23]]) 4 kk26 rfl rfl rfl (Cel.one (One.can (Can.own 0 rfl))) rfl rfl rfl rfl) rfl rfl (fun _ => ?_)
              refine TO.nil ?_
              refine TE.next ?_
              refine TW.region ?_
              refine TO.y (Y.assign rfl) rfl rfl rfl ?_
              refine TO.nil ?_
              exact TE.jn_go V23 [2, 2, 2, 0] ⟨rfl, rfl, rfl, rfl, rfl, rfl, rfl, trivial⟩ rfl
            · refine TW.skip ?_
              exact TE.jn_go X10 [0, 0, 0, 0] ⟨rfl, rfl, rfl, rfl, rfl, rfl, rfl, trivial⟩ rfl
          · refine TE.next ?_
            refine TW.seq ?_
            refine TW.region ?_
            refine TO.y (Y.field_box kf28_1 rfl rfl) rfl rfl rfl ?_
            refine TO.y (Y.load_box (v := V_s1) 0 kk26 rfl rfl rfl) rfl rfl rfl ?_
            refine TO.y (Y.move rfl) rfl rfl rfl ?_
            refine TO.bind fun E26 H27 => ?_
            refine TO.y (Y.index ke26 (Base.can HB_V_s1) H27 rfl rfl) rfl rfl rfl ?_
            refine TO.y (Y.field_el kf56_0 (Base.can HB_V_s1) (idx_get H27).2.2 rfl rfl) rfl rfl rfl ?_
            refine TO.y (Y.load_el (us := [.int .i64 E26.Tenant]) (u := .int .i64 E26.Tenant) kk3 rfl (Base.can HB_V_s1) (idx_get H27).2.2 rfl rfl rfl rfl rfl) rfl rfl rfl ?_
            refine TO.y (Y.move rfl) rfl rfl rfl ?_
            refine TO.y (Y.neq rfl rfl) rfl rfl rfl ?_
            refine TO.nil ?_
            refine TE.next ?_
            refine TW.joinX (τ := List Share) (X := Value) (fun _ _ => [(1, .int .i64 tenant), (2, .int .i64 quota), (3, .pointer (some ⟨B1, 0, none⟩)), (6, .pointer (some ⟨B2, 0, none⟩)), (8, .pointer (some ⟨B8, 0, none⟩)), (9, .bool T19.1), (10, .int .i64 S9.2.1)]) (fun T X => [.box B1 28 [.int .i64 s.Size, V_s1], .box B2 28 [.int .i64 (0 : Int), .slice none 0 0], .box B8 28 [.int .i64 s.Size, X], .own X (lc T)]) ?_ (fun T28 X29 => ?_)
            · refine TW.cond rfl (fun H30 => ?_) (fun H30 => ?_)
              · refine TW.bind fun E34 H35 => ?_
                refine TW.joinU (X := Value) (fun _ _ => [(1, .int .i64 tenant), (2, .int .i64 quota), (3, .pointer (some ⟨B1, 0, none⟩)), (6, .pointer (some ⟨B2, 0, none⟩)), (8, .pointer (some ⟨B8, 0, none⟩)), (9, .bool T19.1), (10, .int .i64 S9.2.1)]) (fun _ X => [.box B1 28 [.int .i64 s.Size, V_s1], .box B2 28 [.int .i64 (0 : Int), .slice none 0 0], .box B8 28 [.int .i64 s.Size, X], .own X (lc E34)]) ?_ (fun _ X37 => ?_)
                · refine TW.draw (isH := [.box B1 28 [.int .i64 s.Size, V_s1], .box B2 28 [.int .i64 (0 : Int), .slice none 0 0]]) hMix ?_
                  refine TA.y (listed' := #[true, false, false, false, false, false, false, false, false, false, false]) 0 [0, 0] rfl (Y.field_box kf28_1 rfl rfl) rfl rfl rfl (by kernel_rfl) (by kernel_rfl) (by kernel_rfl) rfl rfl ?_
                  refine TA.y (listed' := #[true, false, true, false, false, false, false, false, false, false, false]) 2 [0, 0] rfl (Y.field_box kf28_1 rfl rfl) rfl rfl rfl (by kernel_rfl) (by kernel_rfl) (by kernel_rfl) rfl rfl ?_
                  refine TA.y (listed' := #[true, false, true, true, false, false, false, false, false, false, false]) 3 [0, 0] rfl (Y.load_box (v := V_s1) 0 kk26 rfl rfl rfl) rfl rfl rfl (by kernel_rfl) (by kernel_rfl) (by kernel_rfl) rfl rfl ?_
                  refine TA.y (listed' := #[true, false, true, true, true, false, false, false, false, false, false]) 4 [0, 0] rfl (Y.move rfl) rfl rfl rfl (by kernel_rfl) (by kernel_rfl) (by kernel_rfl) rfl rfl ?_
                  refine TA.y (listed' := #[true, false, true, true, true, true, false, false, false, false, false]) 5 [0, 0] rfl (Y.index ke26 (Base.can HB_V_s1) H27 rfl rfl) rfl rfl rfl (by kernel_rfl) (by kernel_rfl) (by kernel_rfl) rfl rfl ?_
                  refine TA.y (listed' := #[true, false, true, true, true, true, true, false, false, false, false]) 6 [0, 0] rfl (Y.load_el (us := [.int .i64 E26.Tenant, .int .i64 E26.Quota]) (u := .agg #[.int .i64 E26.Tenant, .int .i64 E26.Quota]) kk56 rfl (Base.can HB_V_s1) (idx_get H27).2.2 rfl rfl rfl rfl rfl) rfl rfl rfl (by kernel_rfl) (by kernel_rfl) (by kernel_rfl) rfl rfl ?_
                  refine TA.two 1 7 (by kernel_rfl) ?_ ?_
                  · refine TX.y (listed' := #[true, true, true, true, true, true, true, false, false, false, false]) [0, 0] rfl (Y.load_box (v := X20) 2 kk26 rfl rfl rfl) rfl rfl rfl rfl rfl ?_
                    refine TA.one 7 (by kernel_rfl) ?_
                    refine TX.ef (listed' := #[true, true, true, true, true, true, true, true, false, false, false]) [1, 1] rfl (Ef.buildSlice (α := Share) (Vs := [.agg #[.int .i64 E26.Tenant, .int .i64 E26.Quota]]) [E26] ke26 kz56 rfl rfl rfl rfl rfl) rfl rfl rfl rfl (fun _ => rfl) (fun B39 => ?_)
                    refine TA.one 8 (by kernel_rfl) ?_
                    refine TX.ef (listed' := #[true, true, true, true, true, true, true, true, true, false, false]) [2, 2] rfl (Ef.append (α := Share) (is' := [.own (.slice (some ⟨B39, 0, none⟩) 1 1) (lc ([E26])), .box B1 28 [.int .i64 s.Size, V_s1], .box B2 28 [.int .i64 (0 : Int), .slice none 0 0], .box B8 28 [.int .i64 s.Size, X20]]) [4, 0, 0, 0, 0] H35 ke26 kz56 rfl rfl rfl rfl rfl (Can.own 0 rfl)) rfl rfl rfl rfl (fun _ => rfl) (fun V40 => ?_)
                    refine TA.y (listed' := #[true, true, true, true, true, true, true, true, true, true, false]) 9 [2, 2] rfl (Y.field_box kf28_1 rfl rfl) rfl rfl rfl (by kernel_rfl) (by kernel_rfl) (by kernel_rfl) rfl rfl ?_
                    refine TA.one 10 (by kernel_rfl) ?_
                    refine TX.ef0 (listed' := #[true, true, true, true, true, true, true, true, true, true, true]) [2, 2] rfl (Ef.store_box (us := [V40]) (vs' := [.int .i64 s.Size, V40]) (is' := [.own V40 (lc E34), .own (.slice (some ⟨B39, 0, none⟩) 1 1) (lc ([E26])), .box B1 28 [.int .i64 s.Size, V_s1], .box B2 28 [.int .i64 (0 : Int), .slice none 0 0], .box B8 28 [.int .i64 s.Size, V40]]) 4 kk26 rfl rfl rfl (Cel.one (One.can (Can.own 0 rfl))) rfl rfl rfl rfl) rfl rfl rfl (fun _ => rfl) (fun _ => ?_)
                    refine TA.nil (by kernel_rfl) ?_
                    exact TE.jb_go V40 [2, 2, 2, 0] ⟨rfl, rfl, rfl, rfl, rfl, rfl, rfl, trivial⟩ rfl
                  · refine TX.ef (listed' := #[true, false, true, true, true, true, true, true, false, false, false]) [1, 1] rfl (Ef.buildSlice (α := Share) (Vs := [.agg #[.int .i64 E26.Tenant, .int .i64 E26.Quota]]) [E26] ke26 kz56 rfl rfl rfl rfl rfl) rfl rfl rfl rfl (fun _ => rfl) (fun B38 => ?_)
                    refine TA.one 1 (by kernel_rfl) ?_
                    refine TX.y (listed' := #[true, true, true, true, true, true, true, true, false, false, false]) [1, 1] rfl (Y.load_box (v := X20) 3 kk26 rfl rfl rfl) rfl rfl rfl rfl rfl ?_
                    refine TA.one 8 (by kernel_rfl) ?_
                    refine TX.ef (listed' := #[true, true, true, true, true, true, true, true, true, false, false]) [2, 2] rfl (Ef.append (α := Share) (is' := [.own (.slice (some ⟨B38, 0, none⟩) 1 1) (lc ([E26])), .box B1 28 [.int .i64 s.Size, V_s1], .box B2 28 [.int .i64 (0 : Int), .slice none 0 0], .box B8 28 [.int .i64 s.Size, X20]]) [4, 0, 0, 0, 0] H35 ke26 kz56 rfl rfl rfl rfl rfl (Can.own 0 rfl)) rfl rfl rfl rfl (fun _ => rfl) (fun V39 => ?_)
                    refine TA.y (listed' := #[true, true, true, true, true, true, true, true, true, true, false]) 9 [2, 2] rfl (Y.field_box kf28_1 rfl rfl) rfl rfl rfl (by kernel_rfl) (by kernel_rfl) (by kernel_rfl) rfl rfl ?_
                    refine TA.one 10 (by kernel_rfl) ?_
                    refine TX.ef0 (listed' := #[true, true, true, true, true, true, true, true, true, true, true]) [2, 2] rfl (Ef.store_box (us := [V39]) (vs' := [.int .i64 s.Size, V39]) (is' := [.own V39 (lc E34), .own (.slice (some ⟨B38, 0, none⟩) 1 1) (lc ([E26])), .box B1 28 [.int .i64 s.Size, V_s1], .box B2 28 [.int .i64 (0 : Int), .slice none 0 0], .box B8 28 [.int .i64 s.Size, V39]]) 4 kk26 rfl rfl rfl (Cel.one (One.can (Can.own 0 rfl))) rfl rfl rfl rfl) rfl rfl rfl (fun _ => rfl) (fun _ => ?_)
                    refine TA.nil (by kernel_rfl) ?_
                    exact TE.jb_go V39 [2, 2, 2, 0] ⟨rfl, rfl, rfl, rfl, rfl, rfl, rfl, trivial⟩ rfl
                · exact TE.jn_go X37 [0, 0, 0, 0] ⟨rfl, rfl, rfl, rfl, rfl, rfl, rfl, trivial⟩ rfl
              · refine TW.skip ?_
                exact TE.jn_go X20 [0, 0, 0, 0] ⟨rfl, rfl, rfl, rfl, rfl, rfl, rfl, trivial⟩ rfl
            · refine TE.block_normal ?_
              refine TE.next ?_
              refine TW.region ?_
              refine TO.y (Y.move rfl) rfl rfl rfl ?_
              refine TO.y (Y.add rfl rfl) rfl rfl rfl ?_
              refine TO.y (Y.assign rfl) rfl rfl rfl ?_
              refine TO.nil ?_
              exact TE.lp_go X29 [0, 0, 0, 0] ⟨rfl, rfl, rfl, rfl, rfl, rfl, rfl, trivial⟩ rfl
      · refine TW.exit ?_
        refine TE.then_exit ?_
        refine TE.lp_exit ?_
        refine TE.block_exit ?_
        exact TE.jn_go X10 [0, 0, 0, 0] ⟨rfl, rfl, rfl, rfl, rfl, rfl, trivial⟩ rfl
    · refine TE.next ?_
      refine TW.seq ?_
      refine TW.seq ?_
      refine TW.region ?_
      refine TO.y (Y.move rfl) rfl rfl rfl ?_
      refine TO.y (Y.not rfl) rfl rfl rfl ?_
      refine TO.nil ?_
      refine TE.next ?_
      refine TW.joinX (τ := List Share) (X := Value) (fun _ _ => [(3, .pointer (some ⟨B1, 0, none⟩)), (6, .pointer (some ⟨B2, 0, none⟩)), (8, .pointer (some ⟨B8, 0, none⟩))]) (fun T X => [.box B1 28 [.int .i64 s.Size, V_s1], .box B2 28 [.int .i64 (0 : Int), .slice none 0 0], .box B8 28 [.int .i64 s.Size, X], .own X (lc T)]) ?_ (fun T39 X40 => ?_)
      · refine TW.cond rfl (fun H41 => ?_) (fun H41 => ?_)
        · refine TW.region ?_
          refine TO.y (Y.field_box kf28_1 rfl rfl) rfl rfl rfl ?_
          refine TO.y (Y.load_box (v := X12) 2 kk26 rfl rfl rfl) rfl rfl rfl ?_
          refine TO.y (Y.move rfl) rfl rfl rfl ?_
          refine TO.y (Y.move rfl) rfl rfl rfl ?_
          refine TO.y (Y.build (cells := [.int .i64 tenant, .int .i64 quota]) [(0, [.int .i64 tenant]), (1, [.int .i64 quota])] kp56 kz56 ⟨rfl, ⟨_, rfl, (Cel.plain rfl rfl)⟩, ⟨rfl, ⟨_, rfl, (Cel.plain rfl rfl)⟩, trivial⟩⟩ rfl) rfl rfl rfl ?_
          refine TO.ef (Ef.buildSlice (α := Share) (Vs := [.agg #[.int .i64 tenant, .int .i64 quota]]) [{ Tenant := tenant, Quota := quota : Share }] ke26 kz56 rfl rfl rfl rfl rfl) rfl rfl rfl (fun B42 => ?_)
          refine TO.bind fun E44 H45 => ?_
          refine TO.ef (Ef.append (α := Share) (is' := [.own (.slice (some ⟨B42, 0, none⟩) 1 1) (lc ([{ Tenant := tenant, Quota := quota : Share }])), .box B1 28 [.int .i64 s.Size, V_s1], .box B2 28 [.int .i64 (0 : Int), .slice none 0 0], .box B8 28 [.int .i64 s.Size, X12]]) [4, 0, 0, 0, 0] H45 ke26 kz56 rfl rfl rfl rfl rfl (Can.own 0 rfl)) rfl rfl rfl (fun V43 => ?_)
          refine TO.y (Y.field_box kf28_1 rfl rfl) rfl rfl rfl ?_
          refine TO.ef0 (Ef.store_box (us := [V43]) (vs' := [.int .i64 s.Size, V43]) (is' := [.own V43 (lc E44), .own (.slice (some ⟨B42, 0, none⟩) 1 1) (lc ([{ Tenant := tenant, Quota := quota : Share }])), .box B1 28 [.int .i64 s.Size, V_s1], .box B2 28 [.int .i64 (0 : Int), .slice none 0 0], .box B8 28 [.int .i64 s.Size, V43]]) 4 kk26 rfl rfl rfl (Cel.one (One.can (Can.own 0 rfl))) rfl rfl rfl rfl) rfl rfl (fun _ => ?_)
          refine TO.nil ?_
          exact TE.jn_go V43 [2, 2, 2, 0] ⟨rfl, rfl, rfl, trivial⟩ rfl
        · refine TW.skip ?_
          exact TE.jn_go X12 [0, 0, 0, 0] ⟨rfl, rfl, rfl, trivial⟩ rfl
      · refine TE.next ?_
        refine TW.seq ?_
        refine TW.seq ?_
        refine TW.region ?_
        refine TO.y (Y.load_box (v := .agg #[.int .i64 s.Size, X40]) 2 kk28 rfl rfl rfl) rfl rfl rfl ?_
        refine TO.bind fun R46 H47 => ?_
        refine TO.ef (Ef.call (rest := [.box B1 28 [.int .i64 s.Size, V_s1], .box B2 28 [.int .i64 (0 : Int), .slice none 0 0], .box B8 28 [.int .i64 s.Size, X40], .own X40 (lc T39)]) [0, 0, 0, 0] (spec_SharesOk_con ({ Size := s.Size, List := T39 : Shares }) X40 R46 H47) kc27 rfl rfl ⟨(Can.own 3 rfl), trivial⟩) rfl rfl rfl (fun _ => ?_)
        refine TO.y (Y.not rfl) rfl rfl rfl ?_
        refine TO.nil ?_
        refine TE.next ?_
        refine TW.cond rfl (fun H49 => ?_) (fun H49 => ?_)
        · refine TW.seq ?_
          refine TW.region ?_
          refine TO.y (Y.load_box (v := .agg #[.int .i64 s.Size, V_s1]) 0 kk28 rfl rfl rfl) rfl rfl rfl ?_
          refine TO.bind fun R50 H51 => ?_
          refine TO.ef (Ef.call (rest := [.box B1 28 [.int .i64 s.Size, V_s1], .box B2 28 [.int .i64 (0 : Int), .slice none 0 0], .box B8 28 [.int .i64 s.Size, X40], .own X40 (lc T39)]) [0, 0, 0, 0] (spec_l19Copy_con s V_s1 R50 H51) kc59 rfl rfl ⟨(Base.can HB_V_s1), trivial⟩) rfl rfl rfl (fun Y52 => ?_)
          refine TO.ef0 (Ef.store_box (us := [.int .i64 R50.Size, Y52]) (vs' := [.int .i64 R50.Size, Y52]) (is' := [.own Y52 (lc R50.List), .box B1 28 [.int .i64 s.Size, V_s1], .box B2 28 [.int .i64 R50.Size, Y52], .box B8 28 [.int .i64 s.Size, X40], .own X40 (lc T39)]) 2 kk28 rfl rfl rfl (Cel.agg ⟨(One.plain rfl), (One.can (Can.own 0 rfl)), trivial⟩) rfl rfl rfl rfl) rfl rfl (fun _ => ?_)
          refine TO.y (Y.assign rfl) rfl rfl rfl ?_
          refine TO.nil ?_
          refine TE.next ?_
          refine TW.ret ?_
          refine TE.then_ret ?_
          exact TE.leaf fun _ _ hf_ hs_ => ret_any (rs := [.cell 6 28, .tmp 7]) (vs := [.agg #[.int .i64 R50.Size, Y52], .bool false]) (.inl rfl) rfl (RV.cell 2 rfl rfl kk28 rfl ⟨rfl, trivial⟩) hf_ hs_ ⟨Y52, rfl, hs_.pulls [0] rfl⟩
        · refine TW.skip ?_
          refine TE.next ?_
          refine TW.seq ?_
          refine TW.region ?_
          refine TO.y (Y.load_box (v := .agg #[.int .i64 s.Size, X40]) 2 kk28 rfl rfl rfl) rfl rfl rfl ?_
          refine TO.ef0 (Ef.store_box (us := [.int .i64 s.Size, X40]) (vs' := [.int .i64 s.Size, X40]) (is' := [.box B1 28 [.int .i64 s.Size, V_s1], .box B2 28 [.int .i64 s.Size, X40], .box B8 28 [.int .i64 s.Size, X40], .own X40 (lc T39)]) 1 kk28 rfl rfl rfl (Cel.agg ⟨(One.plain rfl), (One.can (Can.own 3 rfl)), trivial⟩) rfl rfl rfl rfl) rfl rfl (fun _ => ?_)
          refine TO.y (Y.assign rfl) rfl rfl rfl ?_
          refine TO.nil ?_
          refine TE.next ?_
          refine TW.ret ?_
          exact TE.leaf fun _ _ hf_ hs_ => ret_any (rs := [.cell 6 28, .tmp 7]) (vs := [.agg #[.int .i64 s.Size, X40], .bool true]) (.inl rfl) rfl (RV.cell 1 rfl rfl kk28 rfl ⟨rfl, trivial⟩) hf_ hs_ ⟨X40, rfl, hs_.pulls [3] rfl⟩

/-- loop.example/g00950/impl.inRange -/
noncomputable def impl_inRange (n : Int) (least : Int) (most : Int) : Option Bool :=
  (if (decide (n ≥ least)) = true then (some (decide (n ≤ most)))
  else (some false)).bind (fun (T1 : Bool) =>
  some T1)

theorem impl_inRange_con (n : Int) (least : Int) (most : Int)  (r : Bool) (hm : impl_inRange n least most = some r) :
    Con Try.prog 82 [.int .i64 n, .int .i64 least, .int .i64 most] [] [] (fun _ : Unit => .bool r) (fun _ => []) := by
  refine Con.intro (args := [.int .i64 n, .int .i64 least, .int .i64 most]) (n := 15) (val := fun r (_ : Unit) => .bool r) (post := fun _ _ => []) (m := impl_inRange n least most) Try.func82 rfl rfl rfl hm ?_
  intro w S _
  unfold impl_inRange
  refine TW.seq ?_
  refine TW.region ?_
  refine TO.y (Y.assign rfl) rfl rfl rfl ?_
  refine TO.nil ?_
  refine TE.next ?_
  refine TW.seq ?_
  refine TW.joinBX (τ := Bool) (X := Unit) (fun T _ => [(6, .bool T)]) (fun _ _ => []) ?_ (fun T1 X2 => ?_)
  · refine TW.region ?_
    refine TO.y (Y.move rfl) rfl rfl rfl ?_
    refine TO.y (Y.move rfl) rfl rfl rfl ?_
    refine TO.y (Y.geq rfl rfl) rfl rfl rfl ?_
    refine TO.y (Y.move rfl) rfl rfl rfl ?_
    refine TO.ite (b := decide (n ≥ least)) (fun H3 => ?_) (fun H3 => ?_)
    · refine TO.y (Y.move rfl) (Gd.at 3 true 10 (decide (n ≥ least)) rfl rfl rfl (beq_tt H3)) rfl rfl ?_
      refine TO.y (Y.move rfl) (Gd.at 3 true 10 (decide (n ≥ least)) rfl rfl rfl (beq_tt H3)) rfl rfl ?_
      refine TO.y (Y.leq rfl rfl) (Gd.at 3 true 10 (decide (n ≥ least)) rfl rfl rfl (beq_tt H3)) rfl rfl ?_
      refine TO.y (Y.pick_t H3 rfl rfl) rfl rfl rfl ?_
      refine TO.y (Y.assign rfl) rfl rfl rfl ?_
      refine TO.nil ?_
      exact TE.jb_go () [] ⟨rfl, trivial⟩ rfl
    · refine TO.off (Gd.at 3 true 10 (decide (n ≥ least)) rfl rfl rfl (beq_ft H3)) rfl rfl ?_
      refine TO.off (Gd.at 3 true 10 (decide (n ≥ least)) rfl rfl rfl (beq_ft H3)) rfl rfl ?_
      refine TO.off (Gd.at 3 true 10 (decide (n ≥ least)) rfl rfl rfl (beq_ft H3)) rfl rfl ?_
      refine TO.y (Y.pick_f H3 rfl rfl) rfl rfl rfl ?_
      refine TO.y (Y.assign rfl) rfl rfl rfl ?_
      refine TO.nil ?_
      exact TE.jb_go () [] ⟨rfl, trivial⟩ rfl
  · refine TE.next ?_
    refine TW.ret ?_
    exact TE.leaf fun _ _ hf_ hs_ => ret_any (rs := [.tmp 6]) (vs := [.bool T1]) (.inl rfl) rfl ⟨rfl, trivial⟩ hf_ hs_ ⟨(), rfl, hs_.pulls [] rfl⟩

/-- loop.example/g00950/impl.isTenant -/
noncomputable def impl_isTenant (n : Int) : Option Bool :=
  (impl_inRange n (1 : Int) (99 : Int)).bind fun R1 =>
  some R1

theorem impl_isTenant_con (n : Int)  (r : Bool) (hm : impl_isTenant n = some r) :
    Con Try.prog 110 [.int .i64 n] [] [] (fun _ : Unit => .bool r) (fun _ => []) := by
  refine Con.intro (args := [.int .i64 n]) (n := 5) (val := fun r (_ : Unit) => .bool r) (post := fun _ _ => []) (m := impl_isTenant n) Try.func110 rfl rfl rfl hm ?_
  intro w S _
  unfold impl_isTenant
  refine TW.seq ?_
  refine TW.region ?_
  refine TO.y (Y.assign rfl) rfl rfl rfl ?_
  refine TO.nil ?_
  refine TE.next ?_
  refine TW.seq ?_
  refine TW.region ?_
  refine TO.y (Y.move rfl) rfl rfl rfl ?_
  refine TO.bind fun R1 H2 => ?_
  refine TO.ef (Ef.call (rest := []) [] (impl_inRange_con n (1 : Int) (99 : Int)  R1 H2) kc82 rfl rfl trivial) rfl rfl rfl (fun _ => ?_)
  refine TO.y (Y.assign rfl) rfl rfl rfl ?_
  refine TO.nil ?_
  refine TE.next ?_
  refine TW.ret ?_
  exact TE.leaf fun _ _ hf_ hs_ => ret_any (rs := [.tmp 2]) (vs := [.bool R1]) (.inl rfl) rfl ⟨rfl, trivial⟩ hf_ hs_ ⟨(), rfl, hs_.pulls [] rfl⟩

/-- loop.example/g00950/impl.Need -/
noncomputable def impl_Need (quota : Int) : Option Int :=
  (impl_inRange quota (0 : Int) (1000 : Int)).bind fun R1 =>
  if (!R1) = true then (some (0 : Int))
  else (some (IntKind.i64.wrap ((2 : Int) + (IntKind.i64.wrap ((2 : Int) * (IntKind.i64.wrap (Int.tdiv (IntKind.i64.wrap (IntKind.i64.wrap (quota + (50 : Int)) - (1 : Int))) (50 : Int))))))))

theorem impl_Need_con (quota : Int)  (r : Int) (hm : impl_Need quota = some r) :
    Con Try.prog 30 [.int .i64 quota] [] [] (fun _ : Unit => .int .i64 r) (fun _ => []) := by
  refine Con.intro (args := [.int .i64 quota]) (n := 12) (val := fun r (_ : Unit) => .int .i64 r) (post := fun _ _ => []) (m := impl_Need quota) Try.func30 rfl rfl rfl hm ?_
  intro w S _
  unfold impl_Need
  refine TW.seq ?_
  refine TW.region ?_
  refine TO.y (Y.assign rfl) rfl rfl rfl ?_
  refine TO.nil ?_
  refine TE.next ?_
  refine TW.seq ?_
  refine TW.seq ?_
  refine TW.region ?_
  refine TO.y (Y.move rfl) rfl rfl rfl ?_
  refine TO.bind fun R1 H2 => ?_
  refine TO.ef (Ef.call (rest := []) [] (impl_inRange_con quota (0 : Int) (1000 : Int)  R1 H2) kc82 rfl rfl trivial) rfl rfl rfl (fun _ => ?_)
  refine TO.y (Y.not rfl) rfl rfl rfl ?_
  refine TO.nil ?_
  refine TE.next ?_
  refine TW.cond rfl (fun H4 => ?_) (fun H4 => ?_)
  · refine TW.seq ?_
    refine TW.region ?_
    refine TO.y (Y.assign rfl) rfl rfl rfl ?_
    refine TO.nil ?_
    refine TE.next ?_
    refine TW.ret ?_
    refine TE.then_ret ?_
    exact TE.leaf fun _ _ hf_ hs_ => ret_any (rs := [.tmp 2]) (vs := [.int .i64 (0 : Int)]) (.inl rfl) rfl ⟨rfl, trivial⟩ hf_ hs_ ⟨(), rfl, hs_.pulls [] rfl⟩
  · refine TW.skip ?_
    refine TE.next ?_
    refine TW.seq ?_
    refine TW.region ?_
    refine TO.y (Y.move rfl) rfl rfl rfl ?_
    refine TO.y (Y.add rfl rfl) rfl rfl rfl ?_
    refine TO.y (Y.sub rfl rfl) rfl rfl rfl ?_
    refine TO.y (Y.quo (by decide) rfl rfl) rfl rfl rfl ?_
    refine TO.y (Y.mul rfl rfl) rfl rfl rfl ?_
    refine TO.y (Y.add rfl rfl) rfl rfl rfl ?_
    refine TO.y (Y.assign rfl) rfl rfl rfl ?_
    refine TO.nil ?_
    refine TE.next ?_
    refine TW.ret ?_
    exact TE.leaf fun _ _ hf_ hs_ => ret_any (rs := [.tmp 2]) (vs := [.int .i64 (IntKind.i64.wrap ((2 : Int) + (IntKind.i64.wrap ((2 : Int) * (IntKind.i64.wrap (Int.tdiv (IntKind.i64.wrap (IntKind.i64.wrap (quota + (50 : Int)) - (1 : Int))) (50 : Int)))))))]) (.inl rfl) rfl ⟨rfl, trivial⟩ hf_ hs_ ⟨(), rfl, hs_.pulls [] rfl⟩

/-- loop.example/g00950/impl.needOf -/
noncomputable def impl_needOf (s : Shares) : Option Int :=
  bindC (loopO (fun (S2 : Int × Int) => if (decide (S2.2 < ((s.List.length : Nat) : Int))) = true then ((idx s.List S2.2).bind fun E7 =>
  (impl_Need E7.Quota).bind fun R10 =>
  some (.go (IntKind.i64.wrap (S2.1 + R10), IntKind.i64.wrap (S2.2 + (1 : Int)))))
  else (some (.done (.go S2.1))))
  ((4 : Int), (0 : Int)))
  (fun (T4 : Int) => some T4)

theorem impl_needOf_con (s : Shares) (V_s1 : Value) (r : Int) (hm : impl_needOf s = some r) :
    Con Try.prog 81 [.agg #[.int .i64 s.Size, V_s1]] [] [(V_s1, lc s.List)] (fun _ : Unit => .int .i64 r) (fun _ => []) := by
  refine Con.intro (args := [.agg #[.int .i64 s.Size, V_s1]]) (n := 20) (val := fun r (_ : Unit) => .int .i64 r) (post := fun _ _ => []) (m := impl_needOf s) Try.func81 rfl rfl rfl hm ?_
  intro w S hrd
  have HB_V_s1 := hrd _ (.head _)
  clear hrd
  unfold impl_needOf
  refine TW.seq ?_
  refine TW.region ?_
  refine TO.ef (Ef.box rfl (Cel.agg ⟨(One.plain rfl), (One.can (Base.can HB_V_s1)), trivial⟩)) rfl rfl rfl (fun B1 => ?_)
  refine TO.y (Y.assign rfl) rfl rfl rfl ?_
  refine TO.nil ?_
  refine TE.next ?_
  refine TW.seq ?_
  refine TW.region ?_
  refine TO.y (Y.assign rfl) rfl rfl rfl ?_
  refine TO.nil ?_
  refine TE.next ?_
  refine TW.seq ?_
  refine TW.seq ?_
  refine TW.region ?_
  refine TO.y (Y.field_box kf28_1 rfl rfl) rfl rfl rfl ?_
  refine TO.y (Y.load_box (v := V_s1) 0 kk26 rfl rfl rfl) rfl rfl rfl ?_
  refine TO.y (Y.len (l := s.List) ke26 (Base.can HB_V_s1) rfl) rfl rfl rfl ?_
  refine TO.y (Y.move rfl) rfl rfl rfl ?_
  refine TO.nil ?_
  refine TE.next ?_
  refine TW.joinX (τ := Int) (X := Unit) (fun T _ => [(3, .int .i64 T)]) (fun _ _ => []) ?_ (fun T4 X5 => ?_)
  · refine TW.block ?_
    refine TW.loopX (σ := Int × Int) (X := Unit) (fun T _ => [(3, .int .i64 T.1), (7, V_s1), (8, .int .i64 ((s.List.length : Nat) : Int)), (9, .int .i64 T.2)]) (fun _ _ => []) () [] ⟨rfl, rfl, rfl, rfl, trivial⟩ rfl (fun S2 X3 => ?_)
    refine TW.seq ?_
    refine TW.region ?_
    refine TO.y (Y.lss rfl rfl) rfl rfl rfl ?_
    refine TO.nil ?_
    refine TE.next ?_
    refine TW.seq ?_
    refine TW.cond rfl (fun H6 => ?_) (fun H6 => ?_)
    · refine TW.skip ?_
      refine TE.next ?_
      refine TW.seq ?_
      refine TW.block ?_
      refine TW.seq ?_
      refine TW.region ?_
      refine TO.bind fun E7 H8 => ?_
      refine TO.y (Y.index ke26 (Base.can HB_V_s1) H8 rfl rfl) rfl rfl rfl ?_
      refine TO.y (Y.load_el (us := [.int .i64 E7.Tenant, .int .i64 E7.Quota]) (u := .agg #[.int .i64 E7.Tenant, .int .i64 E7.Quota]) kk56 rfl (Base.can HB_V_s1) (idx_get H8).2.2 rfl rfl rfl rfl rfl) rfl rfl rfl ?_
      refine TO.ef (Ef.alloc kz56 rfl) rfl rfl rfl (fun B9 => ?_)
      refine TO.ef0 (Ef.store_box (us := [.int .i64 E7.Tenant, .int .i64 E7.Quota]) (vs' := [.int .i64 E7.Tenant, .int .i64 E7.Quota]) (is' := [.box B9 56 [.int .i64 E7.Tenant, .int .i64 E7.Quota]]) 0 kk56 rfl rfl rfl (Cel.plain rfl rfl) rfl rfl rfl rfl) rfl rfl (fun _ => ?_)
      refine TO.nil ?_
      refine TE.next ?_
      refine TW.region ?_
      refine TO.y (Y.move rfl) rfl rfl rfl ?_
      refine TO.y (Y.field_box kf56_1 rfl rfl) rfl rfl rfl ?_
      refine TO.y (Y.load_box (v := .int .i64 E7.Quota) 0 kk3 rfl rfl rfl) rfl rfl rfl ?_
      refine TO.bind fun R10 H11 => ?_
      refine TO.ef (Ef.call (rest := [.box B9 56 [.int .i64 E7.Tenant, .int .i64 E7.Quota]]) [0] (impl_Need_con E7.Quota  R10 H11) kc30 rfl rfl trivial) rfl rfl rfl (fun _ => ?_)
      refine TO.y (Y.add rfl rfl) rfl rfl rfl ?_
      refine TO.y (Y.assign rfl) rfl rfl rfl ?_
      refine TO.nil ?_
      refine TE.block_normal ?_
      refine TE.next ?_
      refine TW.region ?_
      refine TO.y (Y.add rfl rfl) rfl rfl rfl ?_
      refine TO.y (Y.move rfl) rfl rfl rfl ?_
      refine TO.nil ?_
      exact TE.lp_go () [] ⟨rfl, rfl, rfl, rfl, trivial⟩ rfl
    · refine TW.exit ?_
      refine TE.then_exit ?_
      refine TE.lp_exit ?_
      refine TE.block_exit ?_
      exact TE.jn_go () [] ⟨rfl, trivial⟩ rfl
  · refine TE.next ?_
    refine TW.seq ?_
    refine TW.region ?_
    refine TO.y (Y.move rfl) rfl rfl rfl ?_
    refine TO.y (Y.assign rfl) rfl rfl rfl ?_
    refine TO.nil ?_
    refine TE.next ?_
    refine TW.ret ?_
    exact TE.leaf fun _ _ hf_ hs_ => ret_any (rs := [.tmp 2]) (vs := [.int .i64 T4]) (.inl rfl) rfl ⟨rfl, trivial⟩ hf_ hs_ ⟨(), rfl, hs_.pulls [] rfl⟩

/-- loop.example/g00950/impl.SharesOk -/
noncomputable def impl_SharesOk (s : Shares) : Option Bool :=
  ((impl_inRange s.Size (0 : Int) (1000 : Int)).bind fun R4 =>
  if (!R4) = true then (some true)
  else (some (decide (((s.List.length : Nat) : Int) > (4 : Int))))).bind (fun (T2 : Bool) =>
  if T2 = true then (some false)
  else (bindC (loopO (fun (S9 : Int) => if (decide (S9 < ((s.List.length : Nat) : Int))) = true then ((idx s.List S9).bind fun E14 =>
  ((impl_isTenant E14.Tenant).bind fun R19 =>
  if (!R19) = true then (some true)
  else ((impl_inRange E14.Quota (0 : Int) (1000 : Int)).bind fun R23 =>
  if (!R23) = true then (some true)
  else (if (decide (S9 > (0 : Int))) = true then ((idx s.List (IntKind.i64.wrap (S9 - (1 : Int)))).bind fun E28 =>
  some (decide (E14.Tenant ≤ E28.Tenant)))
  else (some false)))).bind (fun (T17 : Bool) =>
  if T17 = true then (some (.done (.done false)))
  else (some (.go (IntKind.i64.wrap (S9 + (1 : Int)))))))
  else (some (.done (.go ()))))
  (0 : Int))
  (fun (T11 : Unit) => (if (decide (((s.List.length : Nat) : Int) = (0 : Int))) = true then (some true)
  else ((impl_needOf s).bind fun R34 =>
  some (decide (R34 ≤ s.Size)))).bind (fun (T31 : Bool) =>
  some T31))))

theorem impl_SharesOk_con (s : Shares) (V_s1 : Value) (r : Bool) (hm : impl_SharesOk s = some r) :
    Con Try.prog 61 [.agg #[.int .i64 s.Size, V_s1]] [] [(V_s1, lc s.List)] (fun _ : Unit => .bool r) (fun _ => []) := by
  refine Con.intro (args := [.agg #[.int .i64 s.Size, V_s1]]) (n := 61) (val := fun r (_ : Unit) => .bool r) (post := fun _ _ => []) (m := impl_SharesOk s) Try.func61 rfl rfl rfl hm ?_
  intro w S hrd
  have HB_V_s1 := hrd _ (.head _)
  clear hrd
  unfold impl_SharesOk
  refine TW.seq ?_
  refine TW.region ?_
  refine TO.ef (Ef.box rfl (Cel.agg ⟨(One.plain rfl), (One.can (Base.can HB_V_s1)), trivial⟩)) rfl rfl rfl (fun B1 => ?_)
  refine TO.y (Y.assign rfl) rfl rfl rfl ?_
  refine TO.nil ?_
  refine TE.next ?_
  refine TW.seq ?_
  refine TW.seq ?_
  refine TW.joinBX (τ := Bool) (X := Unit) (fun T _ => [(1, .pointer (some ⟨B1, 0, none⟩)), (14, .bool T)]) (fun _ _ => [.box B1 28 [.int .i64 s.Size, V_s1]]) ?_ (fun T2 X3 => ?_)
  · refine TW.region ?_
    refine TO.y (Y.field_box kf28_0 rfl rfl) rfl rfl rfl ?_
    refine TO.y (Y.load_box (v := .int .i64 s.Size) 0 kk3 rfl rfl rfl) rfl rfl rfl ?_
    refine TO.bind fun R4 H5 => ?_
    refine TO.ef (Ef.call (rest := [.box B1 28 [.int .i64 s.Size, V_s1]]) [0] (impl_inRange_con s.Size (0 : Int) (1000 : Int)  R4 H5) kc82 rfl rfl trivial) rfl rfl rfl (fun _ => ?_)
    refine TO.y (Y.not rfl) rfl rfl rfl ?_
    refine TO.y (Y.move rfl) rfl rfl rfl ?_
    refine TO.ite (b := !R4) (fun H7 => ?_) (fun H7 => ?_)
    · refine TO.off (Gd.at 4 false 9 (!R4) rfl rfl rfl (beq_tf H7)) rfl rfl ?_
      refine TO.off (Gd.at 4 false 9 (!R4) rfl rfl rfl (beq_tf H7)) rfl rfl ?_
      refine TO.off (Gd.at 4 false 9 (!R4) rfl rfl rfl (beq_tf H7)) rfl rfl ?_
      refine TO.off (Gd.at 4 false 9 (!R4) rfl rfl rfl (beq_tf H7)) rfl rfl ?_
      refine TO.y (Y.pick_t H7 rfl rfl) rfl rfl rfl ?_
      refine TO.nil ?_
      exact TE.jb_go () [0] ⟨rfl, rfl, trivial⟩ rfl
    · refine TO.y (Y.field_box kf28_1 rfl rfl) (Gd.at 4 false 9 (!R4) rfl rfl rfl (beq_ff H7)) rfl rfl ?_
      refine TO.y (Y.load_box (v := V_s1) 0 kk26 rfl rfl rfl) (Gd.at 4 false 9 (!R4) rfl rfl rfl (beq_ff H7)) rfl rfl ?_
      refine TO.y (Y.len (l := s.List) ke26 (Base.can HB_V_s1) rfl) (Gd.at 4 false 9 (!R4) rfl rfl rfl (beq_ff H7)) rfl rfl ?_
      refine TO.y (Y.gtr rfl rfl) (Gd.at 4 false 9 (!R4) rfl rfl rfl (beq_ff H7)) rfl rfl ?_
      refine TO.y (Y.pick_f H7 rfl rfl) rfl rfl rfl ?_
      refine TO.nil ?_
      exact TE.jb_go () [0] ⟨rfl, rfl, trivial⟩ rfl
  · refine TE.next ?_
    refine TW.cond rfl (fun H8 => ?_) (fun H8 => ?_)
    · refine TW.seq ?_
      refine TW.region ?_
      refine TO.y (Y.assign rfl) rfl rfl rfl ?_
      refine TO.nil ?_
      refine TE.next ?_
      refine TW.ret ?_
      refine TE.then_ret ?_
      exact TE.leaf fun _ _ hf_ hs_ => ret_any (rs := [.tmp 2]) (vs := [.bool false]) (.inl rfl) rfl ⟨rfl, trivial⟩ hf_ hs_ ⟨(), rfl, hs_.pulls [] rfl⟩
    · refine TW.skip ?_
      refine TE.next ?_
      refine TW.seq ?_
      refine TW.seq ?_
      refine TW.region ?_
      refine TO.y (Y.field_box kf28_1 rfl rfl) rfl rfl rfl ?_
      refine TO.y (Y.load_box (v := V_s1) 0 kk26 rfl rfl rfl) rfl rfl rfl ?_
      refine TO.y (Y.len (l := s.List) ke26 (Base.can HB_V_s1) rfl) rfl rfl rfl ?_
      refine TO.y (Y.move rfl) rfl rfl rfl ?_
      refine TO.nil ?_
      refine TE.next ?_
      refine TW.joinX (τ := Unit) (X := Unit) (fun _ _ => [(1, .pointer (some ⟨B1, 0, none⟩))]) (fun _ _ => [.box B1 28 [.int .i64 s.Size, V_s1]]) ?_ (fun T11 X12 => ?_)
      · refine TW.block ?_
        refine TW.loopX (σ := Int) (X := Unit) (fun T _ => [(1, .pointer (some ⟨B1, 0, none⟩)), (16, V_s1), (17, .int .i64 ((s.List.length : Nat) : Int)), (18, .int .i64 T)]) (fun _ _ => [.box B1 28 [.int .i64 s.Size, V_s1]]) () [0] ⟨rfl, rfl, rfl, rfl, trivial⟩ rfl (fun S9 X10 => ?_)
        refine TW.seq ?_
        refine TW.region ?_
        refine TO.y (Y.lss rfl rfl) rfl rfl rfl ?_
        refine TO.nil ?_
        refine TE.next ?_
        refine TW.seq ?_
        refine TW.cond rfl (fun H13 => ?_) (fun H13 => ?_)
        · refine TW.skip ?_
          refine TE.next ?_
          refine TW.seq ?_
          refine TW.block ?_
          refine TW.seq ?_
          refine TW.region ?_
          refine TO.y (Y.move rfl) rfl rfl rfl ?_
          refine TO.bind fun E14 H15 => ?_
          refine TO.y (Y.index ke26 (Base.can HB_V_s1) H15 rfl rfl) rfl rfl rfl ?_
          refine TO.y (Y.load_el (us := [.int .i64 E14.Tenant, .int .i64 E14.Quota]) (u := .agg #[.int .i64 E14.Tenant, .int .i64 E14.Quota]) kk56 rfl (Base.can HB_V_s1) (idx_get H15).2.2 rfl rfl rfl rfl rfl) rfl rfl rfl ?_
          refine TO.ef (Ef.alloc kz56 rfl) rfl rfl rfl (fun B16 => ?_)
          refine TO.y (Y.assign rfl) rfl rfl rfl ?_
          refine TO.ef0 (Ef.store_box (us := [.int .i64 E14.Tenant, .int .i64 E14.Quota]) (vs' := [.int .i64 E14.Tenant, .int .i64 E14.Quota]) (is' := [.box B16 56 [.int .i64 E14.Tenant, .int .i64 E14.Quota], .box B1 28 [.int .i64 s.Size, V_s1]]) 0 kk56 rfl rfl rfl (Cel.plain rfl rfl) rfl rfl rfl rfl) rfl rfl (fun _ => ?_)
          refine TO.nil ?_
          refine TE.next ?_
          refine TW.seq ?_
          refine TW.joinBX (τ := Bool) (X := Unit) (fun T _ => [(1, .pointer (some ⟨B1, 0, none⟩)), (16, V_s1), (17, .int .i64 ((s.List.length : Nat) : Int)), (18, .int .i64 S9), (48, .bool T)]) (fun _ _ => [.box B1 28 [.int .i64 s.Size, V_s1]]) ?_ (fun T17 X18 => ?_)
          · refine TW.draw (isH := [.box B16 56 [.int .i64 E14.Tenant, .int .i64 E14.Quota], .box B1 28 [.int .i64 s.Size, V_s1]]) hMix ?_
            refine TA.y (listed' := #[true, false, false, false, false, false, false, false, false, false, false, false, false, false, false, false, false, false, false, false, false, false, false, false, false, false]) 0 [0, 0] rfl (Y.field_box kf56_0 rfl rfl) rfl rfl rfl (by kernel_rfl) (by kernel_rfl) (by kernel_rfl) rfl rfl ?_
            refine TA.y (listed' := #[true, true, false, false, false, false, false, false, false, false, false, false, false, false, false, false, false, false, false, false, false, false, false, false, false, false]) 1 [0, 0] rfl (Y.load_box (v := .int .i64 E14.Tenant) 0 kk3 rfl rfl rfl) rfl rfl rfl (by kernel_rfl) (by kernel_rfl) (by kernel_rfl) rfl rfl ?_
            refine TA.bind fun R19 H20 => ?_
            refine TA.one 2 (by kernel_rfl) ?_
            refine TX.ef (listed' := #[true, true, true, false, false, false, false, false, false, false, false, false, false, false, false, false, false, false, false, false, false, false, false, false, false, false]) [0, 0] rfl (Ef.call (rest := [.box B16 56 [.int .i64 E14.Tenant, .int .i64 E14.Quota], .box B1 28 [.int .i64 s.Size, V_s1]]) [0, 0] (impl_isTenant_con E14.Tenant  R19 H20) kc110 rfl rfl trivial) rfl rfl rfl rfl (fun _ => rfl) (fun _ => ?_)
            refine TA.y (listed' := #[true, true, true, true, false, false, false, false, false, false, false, false, false, false, false, false, false, false, false, false, false, false, false, false, false, false]) 3 [0, 0] rfl (Y.not rfl) rfl rfl rfl (by kernel_rfl) (by kernel_rfl) (by kernel_rfl) rfl rfl ?_
            refine TA.y (listed' := #[true, true, true, true, true, false, false, false, false, false, false, false, false, false, false, false, false, false, false, false, false, false, false, false, false, false]) 4 [0, 0] rfl (Y.move rfl) rfl rfl rfl (by kernel_rfl) (by kernel_rfl) (by kernel_rfl) rfl rfl ?_
            refine TA.ite (b := !R19) (fun H22 => ?_) (fun H22 => ?_)
            · refine TA.off (listed' := #[true, true, true, true, true, true, false, false, false, false, false, false, false, false, false, false, false, false, false, false, false, false, false, false, false, false]) 5 [0, 0] rfl (Gd.at 4 false 27 (!R19) rfl rfl rfl (beq_tf H22)) rfl rfl (by kernel_rfl) (by kernel_rfl) (by kernel_rfl) rfl rfl ?_
              refine TA.off (listed' := #[true, true, true, true, true, true, true, false, false, false, false, false, false, false, false, false, false, false, false, false, false, false, false, false, false, false]) 6 [0, 0] rfl (Gd.at 4 false 27 (!R19) rfl rfl rfl (beq_tf H22)) rfl rfl (by kernel_rfl) (by kernel_rfl) (by kernel_rfl) rfl rfl ?_
              refine TA.off (listed' := #[true, true, true, true, true, true, true, true, false, false, false, false, false, false, false, false, false, false, false, false, false, false, false, false, false, false]) 7 [0, 0] rfl (Gd.at 4 false 27 (!R19) rfl rfl rfl (beq_tf H22)) rfl rfl (by kernel_rfl) (by kernel_rfl) (by kernel_rfl) rfl rfl ?_
              refine TA.off (listed' := #[true, true, true, true, true, true, true, true, true, false, false, false, false, false, false, false, false, false, false, false, false, false, false, false, false, false]) 8 [0, 0] rfl (Gd.at 4 false 27 (!R19) rfl rfl rfl (beq_tf H22)) rfl rfl (by kernel_rfl) (by kernel_rfl) (by kernel_rfl) rfl rfl ?_
              refine TA.y (listed' := #[true, true, true, true, true, true, true, true, true, true, false, false, false, false, false, false, false, false, false, false, false, false, false, false, false, false]) 9 [0, 0] rfl (Y.pick_t H22 rfl rfl) rfl rfl rfl (by kernel_rfl) (by kernel_rfl) (by kernel_rfl) rfl rfl ?_
              refine TA.y (listed' := #[true, true, true, true, true, true, true, true, true, true, true, false, false, false, false, false, false, false, false, false, false, false, false, false, false, false]) 10 [0, 0] rfl (Y.move rfl) rfl rfl rfl (by kernel_rfl) (by kernel_rfl) (by kernel_rfl) rfl rfl ?_
              refine TA.off (listed' := #[true, true, true, true, true, true, true, true, true, true, true, true, false, false, false, false, false, false, false, false, false, false, false, false, false, false]) 11 [0, 0] rfl (Gd.at 10 false 33 true rfl rfl rfl rfl) rfl rfl (by kernel_rfl) (by kernel_rfl) (by kernel_rfl) rfl rfl ?_
              refine TA.off (listed' := #[true, true, true, true, true, true, true, true, true, true, true, true, true, false, false, false, false, false, false, false, false, false, false, false, false, false]) 12 [0, 0] rfl (Gd.at 10 false 33 true rfl rfl rfl rfl) rfl rfl (by kernel_rfl) (by kernel_rfl) (by kernel_rfl) rfl rfl ?_
              refine TA.off (listed' := #[true, true, true, true, true, true, true, true, true, true, true, true, true, true, false, false, false, false, false, false, false, false, false, false, false, false]) 13 [0, 0] rfl (Gd.at 10 false 33 true rfl rfl rfl rfl) rfl rfl (by kernel_rfl) (by kernel_rfl) (by kernel_rfl) rfl rfl ?_
              refine TA.off (listed' := #[true, true, true, true, true, true, true, true, true, true, true, true, true, true, true, false, false, false, false, false, false, false, false, false, false, false]) 14 [0, 0] rfl (Gd.un 13 true 36 rfl rfl rfl) rfl rfl (by kernel_rfl) (by kernel_rfl) (by kernel_rfl) rfl rfl ?_
              refine TA.off (listed' := #[true, true, true, true, true, true, true, true, true, true, true, true, true, true, true, true, false, false, false, false, false, false, false, false, false, false]) 15 [0, 0] rfl (Gd.un 13 true 36 rfl rfl rfl) rfl rfl (by kernel_rfl) (by kernel_rfl) (by kernel_rfl) rfl rfl ?_
              refine TA.off (listed' := #[true, true, true, true, true, true, true, true, true, true, true, true, true, true, true, true, true, false, false, false, false, false, false, false, false, false]) 16 [0, 0] rfl (Gd.un 13 true 36 rfl rfl rfl) rfl rfl (by kernel_rfl) (by kernel_rfl) (by kernel_rfl) rfl rfl ?_
              refine TA.off (listed' := #[true, true, true, true, true, true, true, true, true, true, true, true, true, true, true, true, true, true, false, false, false, false, false, false, false, false]) 17 [0, 0] rfl (Gd.un 13 true 36 rfl rfl rfl) rfl rfl (by kernel_rfl) (by kernel_rfl) (by kernel_rfl) rfl rfl ?_
              refine TA.off (listed' := #[true, true, true, true, true, true, true, true, true, true, true, true, true, true, true, true, true, true, true, false, false, false, false, false, false, false]) 18 [0, 0] rfl (Gd.un 13 true 36 rfl rfl rfl) rfl rfl (by kernel_rfl) (by kernel_rfl) (by kernel_rfl) rfl rfl ?_
              refine TA.off (listed' := #[true, true, true, true, true, true, true, true, true, true, true, true, true, true, true, true, true, true, true, true, false, false, false, false, false, false]) 19 [0, 0] rfl (Gd.un 13 true 36 rfl rfl rfl) rfl rfl (by kernel_rfl) (by kernel_rfl) (by kernel_rfl) rfl rfl ?_
              refine TA.off (listed' := #[true, true, true, true, true, true, true, true, true, true, true, true, true, true, true, true, true, true, true, true, true, false, false, false, false, false]) 20 [0, 0] rfl (Gd.un 13 true 36 rfl rfl rfl) rfl rfl (by kernel_rfl) (by kernel_rfl) (by kernel_rfl) rfl rfl ?_
              refine TA.off (listed' := #[true, true, true, true, true, true, true, true, true, true, true, true, true, true, true, true, true, true, true, true, true, true, false, false, false, false]) 21 [0, 0] rfl (Gd.un 13 true 36 rfl rfl rfl) rfl rfl (by kernel_rfl) (by kernel_rfl) (by kernel_rfl) rfl rfl ?_
              refine TA.off (listed' := #[true, true, true, true, true, true, true, true, true, true, true, true, true, true, true, true, true, true, true, true, true, true, true, false, false, false]) 22 [0, 0] rfl (Gd.un 13 true 36 rfl rfl rfl) rfl rfl (by kernel_rfl) (by kernel_rfl) (by kernel_rfl) rfl rfl ?_
              refine TA.off (listed' := #[true, true, true, true, true, true, true, true, true, true, true, true, true, true, true, true, true, true, true, true, true, true, true, true, false, false]) 23 [0, 0] rfl (Gd.un 13 true 36 rfl rfl rfl) rfl rfl (by kernel_rfl) (by kernel_rfl) (by kernel_rfl) rfl rfl ?_
              refine TA.off (listed' := #[true, true, true, true, true, true, true, true, true, true, true, true, true, true, true, true, true, true, true, true, true, true, true, true, true, false]) 24 [0, 0] rfl (Gd.at 10 false 33 true rfl rfl rfl rfl) rfl rfl (by kernel_rfl) (by kernel_rfl) (by kernel_rfl) rfl rfl ?_
              refine TA.y (listed' := #[true, true, true, true, true, true, true, true, true, true, true, true, true, true, true, true, true, true, true, true, true, true, true, true, true, true]) 25 [0, 0] rfl (Y.pick_t rfl rfl rfl) rfl rfl rfl (by kernel_rfl) (by kernel_rfl) (by kernel_rfl) rfl rfl ?_
              refine TA.nil (by kernel_rfl) ?_
              exact TE.jb_go () [1] ⟨rfl, rfl, rfl, rfl, rfl, trivial⟩ rfl
            · refine TA.y (listed' := #[true, true, true, true, true, true, false, false, false, false, false, false, false, false, false, false, false, false, false, false, false, false, false, false, false, false]) 5 [0, 0] rfl (Y.field_box kf56_1 rfl rfl) (Gd.at 4 false 27 (!R19) rfl rfl rfl (beq_ff H22)) rfl rfl (by kernel_rfl) (by kernel_rfl) (by kernel_rfl) rfl rfl ?_
              refine TA.y (listed' := #[true, true, true, true, true, true, true, false, false, false, false, false, false, false, false, false, false, false, false, false, false, false, false, false, false, false]) 6 [0, 0] rfl (Y.load_box (v := .int .i64 E14.Quota) 0 kk3 rfl rfl rfl) (Gd.at 4 false 27 (!R19) rfl rfl rfl (beq_ff H22)) rfl rfl (by kernel_rfl) (by kernel_rfl) (by kernel_rfl) rfl rfl ?_
              refine TA.bind fun R23 H24 => ?_
              refine TA.one 7 (by kernel_rfl) ?_
              refine TX.ef (listed' := #[true, true, true, true, true, true, true, true, false, false, false, false, false, false, false, false, false, false, false, false, false, false, false, false, false, false]) [0, 0] rfl (Ef.call (rest := [.box B16 56 [.int .i64 E14.Tenant, .int .i64 E14.Quota], .box B1 28 [.int .i64 s.Size, V_s1]]) [0, 0] (impl_inRange_con E14.Quota (0 : Int) (1000 : Int)  R23 H24) kc82 rfl rfl trivial) (Gd.at 4 false 27 (!R19) rfl rfl rfl (beq_ff H22)) rfl rfl rfl (fun _ => rfl) (fun _ => ?_)
              refine TA.y (listed' := #[true, true, true, true, true, true, true, true, true, false, false, false, false, false, false, false, false, false, false, false, false, false, false, false, false, false]) 8 [0, 0] rfl (Y.not rfl) (Gd.at 4 false 27 (!R19) rfl rfl rfl (beq_ff H22)) rfl rfl (by kernel_rfl) (by kernel_rfl) (by kernel_rfl) rfl rfl ?_
              refine TA.y (listed' := #[true, true, true, true, true, true, true, true, true, true, false, false, false, false, false, false, false, false, false, false, false, false, false, false, false, false]) 9 [0, 0] rfl (Y.pick_f H22 rfl rfl) rfl rfl rfl (by kernel_rfl) (by kernel_rfl) (by kernel_rfl) rfl rfl ?_
              refine TA.y (listed' := #[true, true, true, true, true, true, true, true, true, true, true, false, false, false, false, false, false, false, false, false, false, false, false, false, false, false]) 10 [0, 0] rfl (Y.move rfl) rfl rfl rfl (by kernel_rfl) (by kernel_rfl) (by kernel_rfl) rfl rfl ?_
              refine TA.ite (b := !R23) (fun H26 => ?_) (fun H26 => ?_)
              · refine TA.off (listed' := #[true, true, true, true, true, true, true, true, true, true, true, true, false, false, false, false, false, false, false, false, false, false, false, false, false, false]) 11 [0, 0] rfl (Gd.at 10 false 33 (!R23) rfl rfl rfl (beq_tf H26)) rfl rfl (by kernel_rfl) (by kernel_rfl) (by kernel_rfl) rfl rfl ?_
                refine TA.off (listed' := #[true, true, true, true, true, true, true, true, true, true, true, true, true, false, false, false, false, false, false, false, false, false, false, false, false, false]) 12 [0, 0] rfl (Gd.at 10 false 33 (!R23) rfl rfl rfl (beq_tf H26)) rfl rfl (by kernel_rfl) (by kernel_rfl) (by kernel_rfl) rfl rfl ?_
                refine TA.off (listed' := #[true, true, true, true, true, true, true, true, true, true, true, true, true, true, false, false, false, false, false, false, false, false, false, false, false, false]) 13 [0, 0] rfl (Gd.at 10 false 33 (!R23) rfl rfl rfl (beq_tf H26)) rfl rfl (by kernel_rfl) (by kernel_rfl) (by kernel_rfl) rfl rfl ?_
                refine TA.off (listed' := #[true, true, true, true, true, true, true, true, true, true, true, true, true, true, true, false, false, false, false, false, false, false, false, false, false, false]) 14 [0, 0] rfl (Gd.un 13 true 36 rfl rfl rfl) rfl rfl (by kernel_rfl) (by kernel_rfl) (by kernel_rfl) rfl rfl ?_
                refine TA.off (listed' := #[true, true, true, true, true, true, true, true, true, true, true, true, true, true, true, true, false, false, false, false, false, false, false, false, false, false]) 15 [0, 0] rfl (Gd.un 13 true 36 rfl rfl rfl) rfl rfl (by kernel_rfl) (by kernel_rfl) (by kernel_rfl) rfl rfl ?_
                refine TA.off (listed' := #[true, true, true, true, true, true, true, true, true, true, true, true, true, true, true, true, true, false, false, false, false, false, false, false, false, false]) 16 [0, 0] rfl (Gd.un 13 true 36 rfl rfl rfl) rfl rfl (by kernel_rfl) (by kernel_rfl) (by kernel_rfl) rfl rfl ?_
                refine TA.off (listed' := #[true, true, true, true, true, true, true, true, true, true, true, true, true, true, true, true, true, true, false, false, false, false, false, false, false, false]) 17 [0, 0] rfl (Gd.un 13 true 36 rfl rfl rfl) rfl rfl (by kernel_rfl) (by kernel_rfl) (by kernel_rfl) rfl rfl ?_
                refine TA.off (listed' := #[true, true, true, true, true, true, true, true, true, true, true, true, true, true, true, true, true, true, true, false, false, false, false, false, false, false]) 18 [0, 0] rfl (Gd.un 13 true 36 rfl rfl rfl) rfl rfl (by kernel_rfl) (by kernel_rfl) (by kernel_rfl) rfl rfl ?_
                refine TA.off (listed' := #[true, true, true, true, true, true, true, true, true, true, true, true, true, true, true, true, true, true, true, true, false, false, false, false, false, false]) 19 [0, 0] rfl (Gd.un 13 true 36 rfl rfl rfl) rfl rfl (by kernel_rfl) (by kernel_rfl) (by kernel_rfl) rfl rfl ?_
                refine TA.off (listed' := #[true, true, true, true, true, true, true, true, true, true, true, true, true, true, true, true, true, true, true, true, true, false, false, false, false, false]) 20 [0, 0] rfl (Gd.un 13 true 36 rfl rfl rfl) rfl rfl (by kernel_rfl) (by kernel_rfl) (by kernel_rfl) rfl rfl ?_
                refine TA.off (listed' := #[true, true, true, true, true, true, true, true, true, true, true, true, true, true, true, true, true, true, true, true, true, true, false, false, false, false]) 21 [0, 0] rfl (Gd.un 13 true 36 rfl rfl rfl) rfl rfl (by kernel_rfl) (by kernel_rfl) (by kernel_rfl) rfl rfl ?_
                refine TA.off (listed' := #[true, true, true, true, true, true, true, true, true, true, true, true, true, true, true, true, true, true, true, true, true, true, true, false, false, false]) 22 [0, 0] rfl (Gd.un 13 true 36 rfl rfl rfl) rfl rfl (by kernel_rfl) (by kernel_rfl) (by kernel_rfl) rfl rfl ?_
                refine TA.off (listed' := #[true, true, true, true, true, true, true, true, true, true, true, true, true, true, true, true, true, true, true, true, true, true, true, true, false, false]) 23 [0, 0] rfl (Gd.un 13 true 36 rfl rfl rfl) rfl rfl (by kernel_rfl) (by kernel_rfl) (by kernel_rfl) rfl rfl ?_
                refine TA.off (listed' := #[true, true, true, true, true, true, true, true, true, true, true, true, true, true, true, true, true, true, true, true, true, true, true, true, true, false]) 24 [0, 0] rfl (Gd.at 10 false 33 (!R23) rfl rfl rfl (beq_tf H26)) rfl rfl (by kernel_rfl) (by kernel_rfl) (by kernel_rfl) rfl rfl ?_
                refine TA.y (listed' := #[true, true, true, true, true, true, true, true, true, true, true, true, true, true, true, true, true, true, true, true, true, true, true, true, true, true]) 25 [0, 0] rfl (Y.pick_t H26 rfl rfl) rfl rfl rfl (by kernel_rfl) (by kernel_rfl) (by kernel_rfl) rfl rfl ?_
                refine TA.nil (by kernel_rfl) ?_
                exact TE.jb_go () [1] ⟨rfl, rfl, rfl, rfl, rfl, trivial⟩ rfl
              · refine TA.y (listed' := #[true, true, true, true, true, true, true, true, true, true, true, true, false, false, false, false, false, false, false, false, false, false, false, false, false, false]) 11 [0, 0] rfl (Y.move rfl) (Gd.at 10 false 33 (!R23) rfl rfl rfl (beq_ff H26)) rfl rfl (by kernel_rfl) (by kernel_rfl) (by kernel_rfl) rfl rfl ?_
                refine TA.y (listed' := #[true, true, true, true, true, true, true, true, true, true, true, true, true, false, false, false, false, false, false, false, false, false, false, false, false, false]) 12 [0, 0] rfl (Y.gtr rfl rfl) (Gd.at 10 false 33 (!R23) rfl rfl rfl (beq_ff H26)) rfl rfl (by kernel_rfl) (by kernel_rfl) (by kernel_rfl) rfl rfl ?_
                refine TA.y (listed' := #[true, true, true, true, true, true, true, true, true, true, true, true, true, true, false, false, false, false, false, false, false, false, false, false, false, false]) 13 [0, 0] rfl (Y.move rfl) (Gd.at 10 false 33 (!R23) rfl rfl rfl (beq_ff H26)) rfl rfl (by kernel_rfl) (by kernel_rfl) (by kernel_rfl) rfl rfl ?_
                refine TA.ite (b := decide (S9 > (0 : Int))) (fun H27 => ?_) (fun H27 => ?_)
                · refine TA.y (listed' := #[true, true, true, true, true, true, true, true, true, true, true, true, true, true, true, false, false, false, false, false, false, false, false, false, false, false]) 14 [0, 0] rfl (Y.field_box kf56_0 rfl rfl) (Gd.at 13 true 36 (decide (S9 > (0 : Int))) rfl rfl rfl (beq_tt H27)) rfl rfl (by kernel_rfl) (by kernel_rfl) (by kernel_rfl) rfl rfl ?_
                  refine TA.y (listed' := #[true, true, true, true, true, true, true, true, true, true, true, true, true, true, true, true, false, false, false, false, false, false, false, false, false, false]) 15 [0, 0] rfl (Y.load_box (v := .int .i64 E14.Tenant) 0 kk3 rfl rfl rfl) (Gd.at 13 true 36 (decide (S9 > (0 : Int))) rfl rfl rfl (beq_tt H27)) rfl rfl (by kernel_rfl) (by kernel_rfl) (by kernel_rfl) rfl rfl ?_
                  refine TA.y (listed' := #[true, true, true, true, true, true, true, true, true, true, true, true, true, true, true, true, true, false, false, false, false, false, false, false, false, false]) 16 [0, 0] rfl (Y.field_box kf28_1 rfl rfl) (Gd.at 13 true 36 (decide (S9 > (0 : Int))) rfl rfl rfl (beq_tt H27)) rfl rfl (by kernel_rfl) (by kernel_rfl) (by kernel_rfl) rfl rfl ?_
                  refine TA.y (listed' := #[true, true, true, true, true, true, true, true, true, true, true, true, true, true, true, true, true, true, false, false, false, false, false, false, false, false]) 17 [0, 0] rfl (Y.load_box (v := V_s1) 1 kk26 rfl rfl rfl) (Gd.at 13 true 36 (decide (S9 > (0 : Int))) rfl rfl rfl (beq_tt H27)) rfl rfl (by kernel_rfl) (by kernel_rfl) (by kernel_rfl) rfl rfl ?_
                  refine TA.y (listed' := #[true, true, true, true, true, true, true, true, true, true, true, true, true, true, true, true, true, true, true, false, false, false, false, false, false, false]) 18 [0, 0] rfl (Y.move rfl) (Gd.at 13 true 36 (decide (S9 > (0 : Int))) rfl rfl rfl (beq_tt H27)) rfl rfl (by kernel_rfl) (by kernel_rfl) (by kernel_rfl) rfl rfl ?_
                  refine TA.y (listed' := #[true, true, true, true, true, true, true, true, true, true, true, true, true, true, true, true, true, true, true, true, false, false, false, false, false, false]) 19 [0, 0] rfl (Y.sub rfl rfl) (Gd.at 13 true 36 (decide (S9 > (0 : Int))) rfl rfl rfl (beq_tt H27)) rfl rfl (by kernel_rfl) (by kernel_rfl) (by kernel_rfl) rfl rfl ?_
                  refine TA.bind fun E28 H29 => ?_
                  refine TA.y (listed' := #[true, true, true, true, true, true, true, true, true, true, true, true, true, true, true, true, true, true, true, true, true, false, false, false, false, false]) 20 [0, 0] rfl (Y.index ke26 (Base.can HB_V_s1) H29 rfl rfl) (Gd.at 13 true 36 (decide (S9 > (0 : Int))) rfl rfl rfl (beq_tt H27)) rfl rfl (by kernel_rfl) (by kernel_rfl) (by kernel_rfl) rfl rfl ?_
                  refine TA.y (listed' := #[true, true, true, true, true, true, true, true, true, true, true, true, true, true, true, true, true, true, true, true, true, true, false, false, false, false]) 21 [0, 0] rfl (Y.field_el kf56_0 (Base.can HB_V_s1) (idx_get H29).2.2 rfl rfl) (Gd.at 13 true 36 (decide (S9 > (0 : Int))) rfl rfl rfl (beq_tt H27)) rfl rfl (by kernel_rfl) (by kernel_rfl) (by kernel_rfl) rfl rfl ?_
                  refine TA.y (listed' := #[true, true, true, true, true, true, true, true, true, true, true, true, true, true, true, true, true, true, true, true, true, true, true, false, false, false]) 22 [0, 0] rfl (Y.load_el (us := [.int .i64 E28.Tenant]) (u := .int .i64 E28.Tenant) kk3 rfl (Base.can HB_V_s1) (idx_get H29).2.2 rfl rfl rfl rfl rfl) (Gd.at 13 true 36 (decide (S9 > (0 : Int))) rfl rfl rfl (beq_tt H27)) rfl rfl (by kernel_rfl) (by kernel_rfl) (by kernel_rfl) rfl rfl ?_
                  refine TA.y (listed' := #[true, true, true, true, true, true, true, true, true, true, true, true, true, true, true, true, true, true, true, true, true, true, true, true, false, false]) 23 [0, 0] rfl (Y.leq rfl rfl) (Gd.at 13 true 36 (decide (S9 > (0 : Int))) rfl rfl rfl (beq_tt H27)) rfl rfl (by kernel_rfl) (by kernel_rfl) (by kernel_rfl) rfl rfl ?_
                  refine TA.y (listed' := #[true, true, true, true, true, true, true, true, true, true, true, true, true, true, true, true, true, true, true, true, true, true, true, true, true, false]) 24 [0, 0] rfl (Y.pick_t H27 rfl rfl) (Gd.at 10 false 33 (!R23) rfl rfl rfl (beq_ff H26)) rfl rfl (by kernel_rfl) (by kernel_rfl) (by kernel_rfl) rfl rfl ?_
                  refine TA.y (listed' := #[true, true, true, true, true, true, true, true, true, true, true, true, true, true, true, true, true, true, true, true, true, true, true, true, true, true]) 25 [0, 0] rfl (Y.pick_f H26 rfl rfl) rfl rfl rfl (by kernel_rfl) (by kernel_rfl) (by kernel_rfl) rfl rfl ?_
                  refine TA.nil (by kernel_rfl) ?_
                  exact TE.jb_go () [1] ⟨rfl, rfl, rfl, rfl, rfl, trivial⟩ rfl
                · refine TA.off (listed' := #[true, true, true, true, true, true, true, true, true, true, true, true, true, true, true, false, false, false, false, false, false, false, false, false, false, false]) 14 [0, 0] rfl (Gd.at 13 true 36 (decide (S9 > (0 : Int))) rfl rfl rfl (beq_ft H27)) rfl rfl (by kernel_rfl) (by kernel_rfl) (by kernel_rfl) rfl rfl ?_
                  refine TA.off (listed' := #[true, true, true, true, true, true, true, true, true, true, true, true, true, true, true, true, false, false, false, false, false, false, false, false, false, false]) 15 [0, 0] rfl (Gd.at 13 true 36 (decide (S9 > (0 : Int))) rfl rfl rfl (beq_ft H27)) rfl rfl (by kernel_rfl) (by kernel_rfl) (by kernel_rfl) rfl rfl ?_
                  refine TA.off (listed' := #[true, true, true, true, true, true, true, true, true, true, true, true, true, true, true, true, true, false, false, false, false, false, false, false, false, false]) 16 [0, 0] rfl (Gd.at 13 true 36 (decide (S9 > (0 : Int))) rfl rfl rfl (beq_ft H27)) rfl rfl (by kernel_rfl) (by kernel_rfl) (by kernel_rfl) rfl rfl ?_
                  refine TA.off (listed' := #[true, true, true, true, true, true, true, true, true, true, true, true, true, true, true, true, true, true, false, false, false, false, false, false, false, false]) 17 [0, 0] rfl (Gd.at 13 true 36 (decide (S9 > (0 : Int))) rfl rfl rfl (beq_ft H27)) rfl rfl (by kernel_rfl) (by kernel_rfl) (by kernel_rfl) rfl rfl ?_
                  refine TA.off (listed' := #[true, true, true, true, true, true, true, true, true, true, true, true, true, true, true, true, true, true, true, false, false, false, false, false, false, false]) 18 [0, 0] rfl (Gd.at 13 true 36 (decide (S9 > (0 : Int))) rfl rfl rfl (beq_ft H27)) rfl rfl (by kernel_rfl) (by kernel_rfl) (by kernel_rfl) rfl rfl ?_
                  refine TA.off (listed' := #[true, true, true, true, true, true, true, true, true, true, true, true, true, true, true, true, true, true, true, true, false, false, false, false, false, false]) 19 [0, 0] rfl (Gd.at 13 true 36 (decide (S9 > (0 : Int))) rfl rfl rfl (beq_ft H27)) rfl rfl (by kernel_rfl) (by kernel_rfl) (by kernel_rfl) rfl rfl ?_
                  refine TA.off (listed' := #[true, true, true, true, true, true, true, true, true, true, true, true, true, true, true, true, true, true, true, true, true, false, false, false, false, false]) 20 [0, 0] rfl (Gd.at 13 true 36 (decide (S9 > (0 : Int))) rfl rfl rfl (beq_ft H27)) rfl rfl (by kernel_rfl) (by kernel_rfl) (by kernel_rfl) rfl rfl ?_
                  refine TA.off (listed' := #[true, true, true, true, true, true, true, true, true, true, true, true, true, true, true, true, true, true, true, true, true, true, false, false, false, false]) 21 [0, 0] rfl (Gd.at 13 true 36 (decide (S9 > (0 : Int))) rfl rfl rfl (beq_ft H27)) rfl rfl (by kernel_rfl) (by kernel_rfl) (by kernel_rfl) rfl rfl ?_
                  refine TA.off (listed' := #[true, true, true, true, true, true, true, true, true, true, true, true, true, true, true, true, true, true, true, true, true, true, true, false, false, false]) 22 [0, 0] rfl (Gd.at 13 true 36 (decide (S9 > (0 : Int))) rfl rfl rfl (beq_ft H27)) rfl rfl (by kernel_rfl) (by kernel_rfl) (by kernel_rfl) rfl rfl ?_
                  refine TA.off (listed' := #[true, true, true, true, true, true, true, true, true, true, true, true, true, true, true, true, true, true, true, true, true, true, true, true, false, false]) 23 [0, 0] rfl (Gd.at 13 true 36 (decide (S9 > (0 : Int))) rfl rfl rfl (beq_ft H27)) rfl rfl (by kernel_rfl) (by kernel_rfl) (by kernel_rfl) rfl rfl ?_
                  refine TA.y (listed' := #[true, true, true, true, true, true, true, true, true, true, true, true, true, true, true, true, true, true, true, true, true, true, true, true, true, false]) 24 [0, 0] rfl (Y.pick_f H27 rfl rfl) (Gd.at 10 false 33 (!R23) rfl rfl rfl (beq_ff H26)) rfl rfl (by kernel_rfl) (by kernel_rfl) (by kernel_rfl) rfl rfl ?_
                  refine TA.y (listed' := #[true, true, true, true, true, true, true, true, true, true, true, true, true, true, true, true, true, true, true, true, true, true, true, true, true, true]) 25 [0, 0] rfl (Y.pick_f H26 rfl rfl) rfl rfl rfl (by kernel_rfl) (by kernel_rfl) (by kernel_rfl) rfl rfl ?_
                  refine TA.nil (by kernel_rfl) ?_
                  exact TE.jb_go () [1] ⟨rfl, rfl, rfl, rfl, rfl, trivial⟩ rfl
          · refine TE.next ?_
            refine TW.cond rfl (fun H30 => ?_) (fun H30 => ?_)
            · refine TW.seq ?_
              refine TW.region ?_
              refine TO.y (Y.assign rfl) rfl rfl rfl ?_
              refine TO.nil ?_
              refine TE.next ?_
              refine TW.ret ?_
              refine TE.block_ret ?_
              refine TE.then_ret ?_
              refine TE.lp_ret ?_
              refine TE.block_ret ?_
              refine TE.jn_done ?_
              refine TE.then_ret ?_
              exact TE.leaf fun _ _ hf_ hs_ => ret_any (rs := [.tmp 2]) (vs := [.bool false]) (.inl rfl) rfl ⟨rfl, trivial⟩ hf_ hs_ ⟨(), rfl, hs_.pulls [] rfl⟩
            · refine TW.skip ?_
              refine TE.block_normal ?_
              refine TE.next ?_
              refine TW.region ?_
              refine TO.y (Y.add rfl rfl) rfl rfl rfl ?_
              refine TO.y (Y.move rfl) rfl rfl rfl ?_
              refine TO.nil ?_
              exact TE.lp_go () [0] ⟨rfl, rfl, rfl, rfl, trivial⟩ rfl
        · refine TW.exit ?_
          refine TE.then_exit ?_
          refine TE.lp_exit ?_
          refine TE.block_exit ?_
          exact TE.jn_go () [0] ⟨rfl, trivial⟩ rfl
      · refine TE.next ?_
        refine TW.seq ?_
        refine TW.joinBX (τ := Bool) (X := Unit) (fun T _ => [(2, .bool T)]) (fun _ _ => []) ?_ (fun T31 X32 => ?_)
        · refine TW.draw (isH := [.box B1 28 [.int .i64 s.Size, V_s1]]) hMix ?_
          refine TA.y (listed' := #[true, false, false, false, false, false, false, false, false, false, false, false]) 0 [0] rfl (Y.field_box kf28_1 rfl rfl) rfl rfl rfl (by kernel_rfl) (by kernel_rfl) (by kernel_rfl) rfl rfl ?_
          refine TA.y (listed' := #[true, true, false, false, false, false, false, false, false, false, false, false]) 1 [0] rfl (Y.load_box (v := V_s1) 0 kk26 rfl rfl rfl) rfl rfl rfl (by kernel_rfl) (by kernel_rfl) (by kernel_rfl) rfl rfl ?_
          refine TA.y (listed' := #[true, true, true, false, false, false, false, false, false, false, false, false]) 2 [0] rfl (Y.len (l := s.List) ke26 (Base.can HB_V_s1) rfl) rfl rfl rfl (by kernel_rfl) (by kernel_rfl) (by kernel_rfl) rfl rfl ?_
          refine TA.y (listed' := #[true, true, true, true, false, false, false, false, false, false, false, false]) 3 [0] rfl (Y.eql rfl rfl) rfl rfl rfl (by kernel_rfl) (by kernel_rfl) (by kernel_rfl) rfl rfl ?_
          refine TA.y (listed' := #[true, true, true, true, true, false, false, false, false, false, false, false]) 4 [0] rfl (Y.move rfl) rfl rfl rfl (by kernel_rfl) (by kernel_rfl) (by kernel_rfl) rfl rfl ?_
          refine TA.ite (b := decide (((s.List.length : Nat) : Int) = (0 : Int))) (fun H33 => ?_) (fun H33 => ?_)
          · refine TA.off (listed' := #[true, true, true, true, true, true, false, false, false, false, false, false]) 5 [0] rfl (Gd.at 4 false 54 (decide (((s.List.length : Nat) : Int) = (0 : Int))) rfl rfl rfl (beq_tf H33)) rfl rfl (by kernel_rfl) (by kernel_rfl) (by kernel_rfl) rfl rfl ?_
            refine TA.off (listed' := #[true, true, true, true, true, true, true, false, false, false, false, false]) 6 [0] rfl (Gd.at 4 false 54 (decide (((s.List.length : Nat) : Int) = (0 : Int))) rfl rfl rfl (beq_tf H33)) rfl rfl (by kernel_rfl) (by kernel_rfl) (by kernel_rfl) rfl rfl ?_
            refine TA.off (listed' := #[true, true, true, true, true, true, true, true, false, false, false, false]) 7 [0] rfl (Gd.at 4 false 54 (decide (((s.List.length : Nat) : Int) = (0 : Int))) rfl rfl rfl (beq_tf H33)) rfl rfl (by kernel_rfl) (by kernel_rfl) (by kernel_rfl) rfl rfl ?_
            refine TA.off (listed' := #[true, true, true, true, true, true, true, true, true, false, false, false]) 8 [0] rfl (Gd.at 4 false 54 (decide (((s.List.length : Nat) : Int) = (0 : Int))) rfl rfl rfl (beq_tf H33)) rfl rfl (by kernel_rfl) (by kernel_rfl) (by kernel_rfl) rfl rfl ?_
            refine TA.off (listed' := #[true, true, true, true, true, true, true, true, true, true, false, false]) 9 [0] rfl (Gd.at 4 false 54 (decide (((s.List.length : Nat) : Int) = (0 : Int))) rfl rfl rfl (beq_tf H33)) rfl rfl (by kernel_rfl) (by kernel_rfl) (by kernel_rfl) rfl rfl ?_
            refine TA.y (listed' := #[true, true, true, true, true, true, true, true, true, true, true, false]) 10 [0] rfl (Y.pick_t H33 rfl rfl) rfl rfl rfl (by kernel_rfl) (by kernel_rfl) (by kernel_rfl) rfl rfl ?_
            refine TA.y (listed' := #[true, true, true, true, true, true, true, true, true, true, true, true]) 11 [0] rfl (Y.assign rfl) rfl rfl rfl (by kernel_rfl) (by kernel_rfl) (by kernel_rfl) rfl rfl ?_
            refine TA.nil (by kernel_rfl) ?_
            exact TE.jb_go () [] ⟨rfl, trivial⟩ rfl
          · refine TA.y (listed' := #[true, true, true, true, true, true, false, false, false, false, false, false]) 5 [0] rfl (Y.load_box (v := .agg #[.int .i64 s.Size, V_s1]) 0 kk28 rfl rfl rfl) (Gd.at 4 false 54 (decide (((s.List.length : Nat) : Int) = (0 : Int))) rfl rfl rfl (beq_ff H33)) rfl rfl (by kernel_rfl) (by kernel_rfl) (by kernel_rfl) rfl rfl ?_
            refine TA.y (listed' := #[true, true, true, true, true, true, false, true, false, false, false, false]) 7 [0] rfl (Y.field_box kf28_0 rfl rfl) (Gd.at 4 false 54 (decide (((s.List.length : Nat) : Int) = (0 : Int))) rfl rfl rfl (beq_ff H33)) rfl rfl (by kernel_rfl) (by kernel_rfl) (by kernel_rfl) rfl rfl ?_
            refine TA.y (listed' := #[true, true, true, true, true, true, false, true, true, false, false, false]) 8 [0] rfl (Y.load_box (v := .int .i64 s.Size) 0 kk3 rfl rfl rfl) (Gd.at 4 false 54 (decide (((s.List.length : Nat) : Int) = (0 : Int))) rfl rfl rfl (beq_ff H33)) rfl rfl (by kernel_rfl) (by kernel_rfl) (by kernel_rfl) rfl rfl ?_
            refine TA.bind fun R34 H35 => ?_
            refine TA.one 6 (by kernel_rfl) ?_
            refine TX.ef (listed' := #[true, true, true, true, true, true, true, true, true, false, false, false]) [0] rfl (Ef.call (rest := [.box B1 28 [.int .i64 s.Size, V_s1]]) [0] (impl_needOf_con s V_s1 R34 H35) kc81 rfl rfl ⟨(Base.can HB_V_s1), trivial⟩) (Gd.at 4 false 54 (decide (((s.List.length : Nat) : Int) = (0 : Int))) rfl rfl rfl (beq_ff H33)) rfl rfl rfl (fun _ => rfl) (fun _ => ?_)
            refine TA.y (listed' := #[true, true, true, true, true, true, true, true, true, true, false, false]) 9 [0] rfl (Y.leq rfl rfl) (Gd.at 4 false 54 (decide (((s.List.length : Nat) : Int) = (0 : Int))) rfl rfl rfl (beq_ff H33)) rfl rfl (by kernel_rfl) (by kernel_rfl) (by kernel_rfl) rfl rfl ?_
            refine TA.y (listed' := #[true, true, true, true, true, true, true, true, true, true, true, false]) 10 [0] rfl (Y.pick_f H33 rfl rfl) rfl rfl rfl (by kernel_rfl) (by kernel_rfl) (by kernel_rfl) rfl rfl ?_
            refine TA.y (listed' := #[true, true, true, true, true, true, true, true, true, true, true, true]) 11 [0] rfl (Y.assign rfl) rfl rfl rfl (by kernel_rfl) (by kernel_rfl) (by kernel_rfl) rfl rfl ?_
            refine TA.nil (by kernel_rfl) ?_
            exact TE.jb_go () [] ⟨rfl, trivial⟩ rfl
        · refine TE.next ?_
          refine TW.ret ?_
          exact TE.leaf fun _ _ hf_ hs_ => ret_any (rs := [.tmp 2]) (vs := [.bool T31]) (.inl rfl) rfl ⟨rfl, trivial⟩ hf_ hs_ ⟨(), rfl, hs_.pulls [] rfl⟩

/-- slices.Clone[[]loop.example/g00950/impl.Share,loop.example/g00950/impl.Share] -/
noncomputable def slices_Clone_21618 (s : List Share) : Option (List Share) :=
  (app 16 ([] : List Share) s).bind fun E4 =>
  some E4

theorem slices_Clone_21618_con (s : List Share) (V_s0 : Value) (r : List Share) (hm : slices_Clone_21618 s = some r) :
    Con Try.prog 111 [V_s0] [] [(V_s0, lc s)] (fun X : Value => X) (fun X => [.own X (lc r)]) := by
  refine Con.intro (args := [V_s0]) (n := 8) (val := fun _ (X : Value) => X) (post := fun r X => [.own X (lc r)]) (m := slices_Clone_21618 s) Try.func111 rfl rfl rfl hm ?_
  intro w S hrd
  have HB_V_s0 := hrd _ (.head _)
  clear hrd
  unfold slices_Clone_21618
  refine TW.seq ?_
  refine TW.region ?_
  refine TO.y (Y.assign rfl) rfl rfl rfl ?_
  refine TO.nil ?_
  refine TE.next ?_
  refine TW.seq ?_
  refine TW.seq ?_
  refine TW.region ?_
  refine TO.y (Y.move rfl) rfl rfl rfl ?_
  refine TO.y (Y.nileq ke26 (Base.can HB_V_s0) rfl rfl) rfl rfl rfl ?_
  refine TO.nil ?_
  refine TE.next ?_
  refine TW.cond_nil (Base.can HB_V_s0) rfl (fun hnil_ => ?_) ?_
  · subst hnil_
    show TW _ _ _ (some ([])) _ _ _ _ _
    refine TW.seq ?_
    refine TW.region ?_
    refine TO.y (Y.assign rfl) rfl rfl rfl ?_
    refine TO.nil ?_
    refine TE.next ?_
    refine TW.ret ?_
    refine TE.then_ret ?_
    exact TE.leaf fun _ _ hf_ hs_ => ret_any (rs := [.tmp 2]) (vs := [.slice none 0 0]) (.inl rfl) rfl ⟨rfl, trivial⟩ hf_ hs_ ⟨(.slice none 0 0), rfl, (hs_.nilItem 2).pulls [0] rfl⟩
  · refine TW.skip ?_
    refine TE.next ?_
    refine TW.seq ?_
    refine TW.region ?_
    refine TO.ef (Ef.buildSlice (α := Share) (Vs := []) ([] : List Share) ke26 kz56 rfl rfl rfl rfl rfl) rfl rfl rfl (fun B2 => ?_)
    refine TO.y (Y.move rfl) rfl rfl rfl ?_
    refine TO.bind fun E4 H5 => ?_
    refine TO.ef (Ef.append (α := Share) (is' := []) [0] H5 ke26 kz56 rfl rfl rfl rfl rfl (Base.can HB_V_s0)) rfl rfl rfl (fun V3 => ?_)
    refine TO.y (Y.assign rfl) rfl rfl rfl ?_
    refine TO.nil ?_
    refine TE.next ?_
    refine TW.ret ?_
    exact TE.leaf fun _ _ hf_ hs_ => ret_any (rs := [.tmp 2]) (vs := [V3]) (.inl rfl) rfl ⟨rfl, trivial⟩ hf_ hs_ ⟨V3, rfl, hs_.pulls [0] rfl⟩

/-- loop.example/g00950/impl.copyShares -/
noncomputable def impl_copyShares (s : Shares) : Option Shares :=
  (slices_Clone_21618 s.List).bind fun R3 =>
  some ({ Size := s.Size, List := R3 : Shares })

theorem impl_copyShares_con (s : Shares) (V_s1 : Value) (r : Shares) (hm : impl_copyShares s = some r) :
    Con Try.prog 62 [.agg #[.int .i64 s.Size, V_s1]] [] [(V_s1, lc s.List)] (fun X : Value => .agg #[.int .i64 r.Size, X]) (fun X => [.own X (lc r.List)]) := by
  refine Con.intro (args := [.agg #[.int .i64 s.Size, V_s1]]) (n := 9) (val := fun r (X : Value) => .agg #[.int .i64 r.Size, X]) (post := fun r X => [.own X (lc r.List)]) (m := impl_copyShares s) Try.func62 rfl rfl rfl hm ?_
  intro w S hrd
  have HB_V_s1 := hrd _ (.head _)
  clear hrd
  unfold impl_copyShares
  refine TW.seq ?_
  refine TW.region ?_
  refine TO.ef (Ef.box rfl (Cel.agg ⟨(One.plain rfl), (One.can (Base.can HB_V_s1)), trivial⟩)) rfl rfl rfl (fun B1 => ?_)
  refine TO.ef (Ef.alloc kz28 rfl) rfl rfl rfl (fun B2 => ?_)
  refine TO.nil ?_
  refine TE.next ?_
  refine TW.seq ?_
  refine TW.draw (isH := [.box B1 28 [.int .i64 s.Size, V_s1]]) hMix ?_
  refine TA.y (listed' := #[true, false, false, false, false, false, false]) 0 [1] rfl (Y.field_box kf28_0 rfl rfl) rfl rfl rfl (by kernel_rfl) (by kernel_rfl) (by kernel_rfl) rfl rfl ?_
  refine TA.y (listed' := #[true, true, false, false, false, false, false]) 1 [1] rfl (Y.load_box (v := .int .i64 s.Size) 0 kk3 rfl rfl rfl) rfl rfl rfl (by kernel_rfl) (by kernel_rfl) (by kernel_rfl) rfl rfl ?_
  refine TA.y (listed' := #[true, true, true, false, false, false, false]) 2 [1] rfl (Y.field_box kf28_1 rfl rfl) rfl rfl rfl (by kernel_rfl) (by kernel_rfl) (by kernel_rfl) rfl rfl ?_
  refine TA.y (listed' := #[true, true, true, true, false, false, false]) 3 [1] rfl (Y.load_box (v := V_s1) 0 kk26 rfl rfl rfl) rfl rfl rfl (by kernel_rfl) (by kernel_rfl) (by kernel_rfl) rfl rfl ?_
  refine TA.bind fun R3 H4 => ?_
  refine TA.one 4 (by kernel_rfl) ?_
  refine TX.ef (listed' := #[true, true, true, true, true, false, false]) [2] rfl (Ef.call (rest := [.box B2 28 [.int .i64 (0 : Int), .slice none 0 0], .box B1 28 [.int .i64 s.Size, V_s1]]) [0, 0] (slices_Clone_21618_con s.List V_s1 R3 H4) kc111 rfl rfl ⟨(Base.can HB_V_s1), trivial⟩) rfl rfl rfl rfl (fun _ => rfl) (fun Y5 => ?_)
  refine TA.one 5 (by kernel_rfl) ?_
  refine TX.y (listed' := #[true, true, true, true, true, true, false]) [2] rfl (Y.build (cells := [.int .i64 s.Size, Y5]) [(0, [.int .i64 s.Size]), (1, [Y5])] kp28 kz28 ⟨rfl, ⟨_, rfl, (Cel.plain rfl rfl)⟩, ⟨rfl, ⟨_, rfl, (Cel.one (One.can (Can.own 0 rfl)))⟩, trivial⟩⟩ rfl) rfl rfl rfl rfl rfl ?_
  refine TA.one 6 (by kernel_rfl) ?_
  refine TX.ef0 (listed' := #[true, true, true, true, true, true, true]) [2] rfl (Ef.store_box (us := [.int .i64 s.Size, Y5]) (vs' := [.int .i64 s.Size, Y5]) (is' := [.own Y5 (lc R3), .box B2 28 [.int .i64 s.Size, Y5], .box B1 28 [.int .i64 s.Size, V_s1]]) 1 kk28 rfl rfl rfl (Cel.agg ⟨(One.plain rfl), (One.can (Can.own 0 rfl)), trivial⟩) rfl rfl rfl rfl) rfl rfl rfl (fun _ => rfl) (fun _ => ?_)
  refine TA.nil (by kernel_rfl) ?_
  refine TE.next ?_
  refine TW.ret ?_
  exact TE.leaf fun _ _ hf_ hs_ => ret_any (rs := [.cell 2 28]) (vs := [.agg #[.int .i64 s.Size, Y5]]) (.inl rfl) rfl (RV.cell 1 rfl rfl kk28 rfl trivial) hf_ hs_ ⟨Y5, rfl, hs_.pulls [0] rfl⟩

/-- loop.example/g00950/impl.shareAt -/
noncomputable def impl_shareAt (s : Shares) (tenant : Int) : Option (Int × Bool) :=
  bindC (loopO (fun (S2 : Int) => (if (decide (S2 < ((s.List.length : Nat) : Int))) = true then ((idx s.List S2).bind fun E9 =>
  some (decide (E9.Tenant < tenant)))
  else (some false)).bind (fun (T6 : Bool) =>
  if T6 = true then (some (.go (IntKind.i64.wrap (S2 + (1 : Int)))))
  else (some (.done (.go S2)))))
  (0 : Int))
  (fun (T4 : Int) => (if (decide (T4 < ((s.List.length : Nat) : Int))) = true then ((idx s.List T4).bind fun E15 =>
  some (decide (E15.Tenant = tenant)))
  else (some false)).bind (fun (T12 : Bool) =>
  some (T4, T12)))

theorem impl_shareAt_con (s : Shares) (tenant : Int) (V_s1 : Value) (r : Int × Bool) (hm : impl_shareAt s tenant = some r) :
    Con Try.prog 63 [.agg #[.int .i64 s.Size, V_s1], .int .i64 tenant] [] [(V_s1, lc s.List)] (fun _ : Unit => .tuple #[.int .i64 r.1, .bool r.2]) (fun _ => []) := by
  refine Con.intro (args := [.agg #[.int .i64 s.Size, V_s1], .int .i64 tenant]) (n := 40) (val := fun r (_ : Unit) => .tuple #[.int .i64 r.1, .bool r.2]) (post := fun _ _ => []) (m := impl_shareAt s tenant) Try.func63 rfl rfl rfl hm ?_
  intro w S hrd
  have HB_V_s1 := hrd _ (.head _)
  clear hrd
  unfold impl_shareAt
  refine TW.seq ?_
  refine TW.region ?_
  refine TO.ef (Ef.box rfl (Cel.agg ⟨(One.plain rfl), (One.can (Base.can HB_V_s1)), trivial⟩)) rfl rfl rfl (fun B1 => ?_)
  refine TO.y (Y.assign rfl) rfl rfl rfl ?_
  refine TO.y (Y.assign rfl) rfl rfl rfl ?_
  refine TO.nil ?_
  refine TE.next ?_
  refine TW.seq ?_
  refine TW.region ?_
  refine TO.y (Y.assign rfl) rfl rfl rfl ?_
  refine TO.nil ?_
  refine TE.next ?_
  refine TW.seq ?_
  refine TW.joinX (τ := Int) (X := Unit) (fun T _ => [(1, .int .i64 tenant), (2, .pointer (some ⟨B1, 0, none⟩)), (6, .int .i64 T)]) (fun _ _ => [.box B1 28 [.int .i64 s.Size, V_s1]]) ?_ (fun T4 X5 => ?_)
  · refine TW.block ?_
    refine TW.loopX (σ := Int) (X := Unit) (fun T _ => [(1, .int .i64 tenant), (2, .pointer (some ⟨B1, 0, none⟩)), (6, .int .i64 T)]) (fun _ _ => [.box B1 28 [.int .i64 s.Size, V_s1]]) () [0] ⟨rfl, rfl, rfl, trivial⟩ rfl (fun S2 X3 => ?_)
    refine TW.seq ?_
    refine TW.seq ?_
    refine TW.joinBX (τ := Bool) (X := Unit) (fun T _ => [(1, .int .i64 tenant), (2, .pointer (some ⟨B1, 0, none⟩)), (6, .int .i64 S2), (21, .bool T)]) (fun _ _ => [.box B1 28 [.int .i64 s.Size, V_s1]]) ?_ (fun T6 X7 => ?_)
    · refine TW.region ?_
      refine TO.y (Y.move rfl) rfl rfl rfl ?_
      refine TO.y (Y.field_box kf28_1 rfl rfl) rfl rfl rfl ?_
      refine TO.y (Y.load_box (v := V_s1) 0 kk26 rfl rfl rfl) rfl rfl rfl ?_
      refine TO.y (Y.len (l := s.List) ke26 (Base.can HB_V_s1) rfl) rfl rfl rfl ?_
      refine TO.y (Y.lss rfl rfl) rfl rfl rfl ?_
      refine TO.y (Y.move rfl) rfl rfl rfl ?_
      refine TO.ite (b := decide (S2 < ((s.List.length : Nat) : Int))) (fun H8 => ?_) (fun H8 => ?_)
      · refine TO.y (Y.field_box kf28_1 rfl rfl) (Gd.at 5 true 12 (decide (S2 < ((s.List.length : Nat) : Int))) rfl rfl rfl (beq_tt H8)) rfl rfl ?_
        refine TO.y (Y.load_box (v := V_s1) 0 kk26 rfl rfl rfl) (Gd.at 5 true 12 (decide (S2 < ((s.List.length : Nat) : Int))) rfl rfl rfl (beq_tt H8)) rfl rfl ?_
        refine TO.y (Y.move rfl) (Gd.at 5 true 12 (decide (S2 < ((s.List.length : Nat) : Int))) rfl rfl rfl (beq_tt H8)) rfl rfl ?_
        refine TO.bind fun E9 H10 => ?_
        refine TO.y (Y.index ke26 (Base.can HB_V_s1) H10 rfl rfl) (Gd.at 5 true 12 (decide (S2 < ((s.List.length : Nat) : Int))) rfl rfl rfl (beq_tt H8)) rfl rfl ?_
        refine TO.y (Y.field_el kf56_0 (Base.can HB_V_s1) (idx_get H10).2.2 rfl rfl) (Gd.at 5 true 12 (decide (S2 < ((s.List.length : Nat) : Int))) rfl rfl rfl (beq_tt H8)) rfl rfl ?_
        refine TO.y (Y.load_el (us := [.int .i64 E9.Tenant]) (u := .int .i64 E9.Tenant) kk3 rfl (Base.can HB_V_s1) (idx_get H10).2.2 rfl rfl rfl rfl rfl) (Gd.at 5 true 12 (decide (S2 < ((s.List.length : Nat) : Int))) rfl rfl rfl (beq_tt H8)) rfl rfl ?_
        refine TO.y (Y.move rfl) (Gd.at 5 true 12 (decide (S2 < ((s.List.length : Nat) : Int))) rfl rfl rfl (beq_tt H8)) rfl rfl ?_
        refine TO.y (Y.lss rfl rfl) (Gd.at 5 true 12 (decide (S2 < ((s.List.length : Nat) : Int))) rfl rfl rfl (beq_tt H8)) rfl rfl ?_
        refine TO.y (Y.pick_t H8 rfl rfl) rfl rfl rfl ?_
        refine TO.nil ?_
        exact TE.jb_go () [0] ⟨rfl, rfl, rfl, rfl, trivial⟩ rfl
      · refine TO.off (Gd.at 5 true 12 (decide (S2 < ((s.List.length : Nat) : Int))) rfl rfl rfl (beq_ft H8)) rfl rfl ?_
        refine TO.off (Gd.at 5 true 12 (decide (S2 < ((s.List.length : Nat) : Int))) rfl rfl rfl (beq_ft H8)) rfl rfl ?_
        refine TO.off (Gd.at 5 true 12 (decide (S2 < ((s.List.length : Nat) : Int))) rfl rfl rfl (beq_ft H8)) rfl rfl ?_
        refine TO.off (Gd.at 5 true 12 (decide (S2 < ((s.List.length : Nat) : Int))) rfl rfl rfl (beq_ft H8)) rfl rfl ?_
        refine TO.off (Gd.at 5 true 12 (decide (S2 < ((s.List.length : Nat) : Int))) rfl rfl rfl (beq_ft H8)) rfl rfl ?_
        refine TO.off (Gd.at 5 true 12 (decide (S2 < ((s.List.length : Nat) : Int))) rfl rfl rfl (beq_ft H8)) rfl rfl ?_
        refine TO.off (Gd.at 5 true 12 (decide (S2 < ((s.List.length : Nat) : Int))) rfl rfl rfl (beq_ft H8)) rfl rfl ?_
        refine TO.off (Gd.at 5 true 12 (decide (S2 < ((s.List.length : Nat) : Int))) rfl rfl rfl (beq_ft H8)) rfl rfl ?_
        refine TO.y (Y.pick_f H8 rfl rfl) rfl rfl rfl ?_
        refine TO.nil ?_
        exact TE.jb_go () [0] ⟨rfl, rfl, rfl, rfl, trivial⟩ rfl
    · refine TE.next ?_
      refine TW.cond rfl (fun H11 => ?_) (fun H11 => ?_)
      · refine TW.skip ?_
        refine TE.next ?_
        refine TW.block ?_
        refine TW.region ?_
        refine TO.y (Y.move rfl) rfl rfl rfl ?_
        refine TO.y (Y.add rfl rfl) rfl rfl rfl ?_
        refine TO.y (Y.assign rfl) rfl rfl rfl ?_
        refine TO.nil ?_
        refine TE.block_normal ?_
        exact TE.lp_go () [0] ⟨rfl, rfl, rfl, trivial⟩ rfl
      · refine TW.exit ?_
        refine TE.then_exit ?_
        refine TE.lp_exit ?_
        refine TE.block_exit ?_
        exact TE.jn_go () [0] ⟨rfl, rfl, rfl, trivial⟩ rfl
  · refine TE.next ?_
    refine TW.seq ?_
    refine TW.joinBX (τ := Bool) (X := Unit) (fun T _ => [(4, .int .i64 T4), (5, .bool T)]) (fun _ _ => []) ?_ (fun T12 X13 => ?_)
    · refine TW.draw (isH := [.box B1 28 [.int .i64 s.Size, V_s1]]) hMix ?_
      refine TA.y (listed' := #[true, false, false, false, false, false, false, false, false, false, false, false, false, false, false, false, false, false]) 0 [0] rfl (Y.move rfl) rfl rfl rfl (by kernel_rfl) (by kernel_rfl) (by kernel_rfl) rfl rfl ?_
      refine TA.y (listed' := #[true, true, false, false, false, false, false, false, false, false, false, false, false, false, false, false, false, false]) 1 [0] rfl (Y.move rfl) rfl rfl rfl (by kernel_rfl) (by kernel_rfl) (by kernel_rfl) rfl rfl ?_
      refine TA.y (listed' := #[true, true, true, false, false, false, false, false, false, false, false, false, false, false, false, false, false, false]) 2 [0] rfl (Y.field_box kf28_1 rfl rfl) rfl rfl rfl (by kernel_rfl) (by kernel_rfl) (by kernel_rfl) rfl rfl ?_
      refine TA.y (listed' := #[true, true, true, true, false, false, false, false, false, false, false, false, false, false, false, false, false, false]) 3 [0] rfl (Y.load_box (v := V_s1) 0 kk26 rfl rfl rfl) rfl rfl rfl (by kernel_rfl) (by kernel_rfl) (by kernel_rfl) rfl rfl ?_
      refine TA.y (listed' := #[true, true, true, true, true, false, false, false, false, false, false, false, false, false, false, false, false, false]) 4 [0] rfl (Y.len (l := s.List) ke26 (Base.can HB_V_s1) rfl) rfl rfl rfl (by kernel_rfl) (by kernel_rfl) (by kernel_rfl) rfl rfl ?_
      refine TA.y (listed' := #[true, true, true, true, true, true, false, false, false, false, false, false, false, false, false, false, false, false]) 5 [0] rfl (Y.lss rfl rfl) rfl rfl rfl (by kernel_rfl) (by kernel_rfl) (by kernel_rfl) rfl rfl ?_
      refine TA.y (listed' := #[true, true, true, true, true, true, true, false, false, false, false, false, false, false, false, false, false, false]) 6 [0] rfl (Y.move rfl) rfl rfl rfl (by kernel_rfl) (by kernel_rfl) (by kernel_rfl) rfl rfl ?_
      refine TA.ite (b := decide (T4 < ((s.List.length : Nat) : Int))) (fun H14 => ?_) (fun H14 => ?_)
      · refine TA.y (listed' := #[true, true, true, true, true, true, true, true, false, false, false, false, false, false, false, false, false, false]) 7 [0] rfl (Y.field_box kf28_1 rfl rfl) (Gd.at 6 true 30 (decide (T4 < ((s.List.length : Nat) : Int))) rfl rfl rfl (beq_tt H14)) rfl rfl (by kernel_rfl) (by kernel_rfl) (by kernel_rfl) rfl rfl ?_
        refine TA.y (listed' := #[true, true, true, true, true, true, true, true, true, false, false, false, false, false, false, false, false, false]) 8 [0] rfl (Y.load_box (v := V_s1) 0 kk26 rfl rfl rfl) (Gd.at 6 true 30 (decide (T4 < ((s.List.length : Nat) : Int))) rfl rfl rfl (beq_tt H14)) rfl rfl (by kernel_rfl) (by kernel_rfl) (by kernel_rfl) rfl rfl ?_
        refine TA.y (listed' := #[true, true, true, true, true, true, true, true, true, true, false, false, false, false, false, false, false, false]) 9 [0] rfl (Y.move rfl) (Gd.at 6 true 30 (decide (T4 < ((s.List.length : Nat) : Int))) rfl rfl rfl (beq_tt H14)) rfl rfl (by kernel_rfl) (by kernel_rfl) (by kernel_rfl) rfl rfl ?_
        refine TA.bind fun E15 H16 => ?_
        refine TA.y (listed' := #[true, true, true, true, true, true, true, true, true, true, true, false, false, false, false, false, false, false]) 10 [0] rfl (Y.index ke26 (Base.can HB_V_s1) H16 rfl rfl) (Gd.at 6 true 30 (decide (T4 < ((s.List.length : Nat) : Int))) rfl rfl rfl (beq_tt H14)) rfl rfl (by kernel_rfl) (by kernel_rfl) (by kernel_rfl) rfl rfl ?_
        refine TA.y (listed' := #[true, true, true, true, true, true, true, true, true, true, true, true, false, false, false, false, false, false]) 11 [0] rfl (Y.field_el kf56_0 (Base.can HB_V_s1) (idx_get H16).2.2 rfl rfl) (Gd.at 6 true 30 (decide (T4 < ((s.List.length : Nat) : Int))) rfl rfl rfl (beq_tt H14)) rfl rfl (by kernel_rfl) (by kernel_rfl) (by kernel_rfl) rfl rfl ?_
        refine TA.y (listed' := #[true, true, true, true, true, true, true, true, true, true, true, true, true, false, false, false, false, false]) 12 [0] rfl (Y.load_el (us := [.int .i64 E15.Tenant]) (u := .int .i64 E15.Tenant) kk3 rfl (Base.can HB_V_s1) (idx_get H16).2.2 rfl rfl rfl rfl rfl) (Gd.at 6 true 30 (decide (T4 < ((s.List.length : Nat) : Int))) rfl rfl rfl (beq_tt H14)) rfl rfl (by kernel_rfl) (by kernel_rfl) (by kernel_rfl) rfl rfl ?_
        refine TA.y (listed' := #[true, true, true, true, true, true, true, true, true, true, true, true, true, true, false, false, false, false]) 13 [0] rfl (Y.move rfl) (Gd.at 6 true 30 (decide (T4 < ((s.List.length : Nat) : Int))) rfl rfl rfl (beq_tt H14)) rfl rfl (by kernel_rfl) (by kernel_rfl) (by kernel_rfl) rfl rfl ?_
        refine TA.y (listed' := #[true, true, true, true, true, true, true, true, true, true, true, true, true, true, true, false, false, false]) 14 [0] rfl (Y.eql rfl rfl) (Gd.at 6 true 30 (decide (T4 < ((s.List.length : Nat) : Int))) rfl rfl rfl (beq_tt H14)) rfl rfl (by kernel_rfl) (by kernel_rfl) (by kernel_rfl) rfl rfl ?_
        refine TA.y (listed' := #[true, true, true, true, true, true, true, true, true, true, true, true, true, true, true, true, false, false]) 15 [0] rfl (Y.pick_t H14 rfl rfl) rfl rfl rfl (by kernel_rfl) (by kernel_rfl) (by kernel_rfl) rfl rfl ?_
        refine TA.y (listed' := #[true, true, true, true, true, true, true, true, true, true, true, true, true, true, true, true, true, false]) 16 [0] rfl (Y.assign rfl) rfl rfl rfl (by kernel_rfl) (by kernel_rfl) (by kernel_rfl) rfl rfl ?_
        refine TA.y (listed' := #[true, true, true, true, true, true, true, true, true, true, true, true, true, true, true, true, true, true]) 17 [0] rfl (Y.assign rfl) rfl rfl rfl (by kernel_rfl) (by kernel_rfl) (by kernel_rfl) rfl rfl ?_
        refine TA.nil (by kernel_rfl) ?_
        exact TE.jb_go () [] ⟨rfl, rfl, trivial⟩ rfl
      · refine TA.off (listed' := #[true, true, true, true, true, true, true, true, false, false, false, false, false, false, false, false, false, false]) 7 [0] rfl (Gd.at 6 true 30 (decide (T4 < ((s.List.length : Nat) : Int))) rfl rfl rfl (beq_ft H14)) rfl rfl (by kernel_rfl) (by kernel_rfl) (by kernel_rfl) rfl rfl ?_
        refine TA.off (listed' := #[true, true, true, true, true, true, true, true, true, false, false, false, false, false, false, false, false, false]) 8 [0] rfl (Gd.at 6 true 30 (decide (T4 < ((s.List.length : Nat) : Int))) rfl rfl rfl (beq_ft H14)) rfl rfl (by kernel_rfl) (by kernel_rfl) (by kernel_rfl) rfl rfl ?_
        refine TA.off (listed' := #[true, true, true, true, true, true, true, true, true, true, false, false, false, false, false, false, false, false]) 9 [0] rfl (Gd.at 6 true 30 (decide (T4 < ((s.List.length : Nat) : Int))) rfl rfl rfl (beq_ft H14)) rfl rfl (by kernel_rfl) (by kernel_rfl) (by kernel_rfl) rfl rfl ?_
        refine TA.off (listed' := #[true, true, true, true, true, true, true, true, true, true, true, false, false, false, false, false, false, false]) 10 [0] rfl (Gd.at 6 true 30 (decide (T4 < ((s.List.length : Nat) : Int))) rfl rfl rfl (beq_ft H14)) rfl rfl (by kernel_rfl) (by kernel_rfl) (by kernel_rfl) rfl rfl ?_
        refine TA.off (listed' := #[true, true, true, true, true, true, true, true, true, true, true, true, false, false, false, false, false, false]) 11 [0] rfl (Gd.at 6 true 30 (decide (T4 < ((s.List.length : Nat) : Int))) rfl rfl rfl (beq_ft H14)) rfl rfl (by kernel_rfl) (by kernel_rfl) (by kernel_rfl) rfl rfl ?_
        refine TA.off (listed' := #[true, true, true, true, true, true, true, true, true, true, true, true, true, false, false, false, false, false]) 12 [0] rfl (Gd.at 6 true 30 (decide (T4 < ((s.List.length : Nat) : Int))) rfl rfl rfl (beq_ft H14)) rfl rfl (by kernel_rfl) (by kernel_rfl) (by kernel_rfl) rfl rfl ?_
        refine TA.off (listed' := #[true, true, true, true, true, true, true, true, true, true, true, true, true, true, false, false, false, false]) 13 [0] rfl (Gd.at 6 true 30 (decide (T4 < ((s.List.length : Nat) : Int))) rfl rfl rfl (beq_ft H14)) rfl rfl (by kernel_rfl) (by kernel_rfl) (by kernel_rfl) rfl rfl ?_
        refine TA.off (listed' := #[true, true, true, true, true, true, true, true, true, true, true, true, true, true, true, false, false, false]) 14 [0] rfl (Gd.at 6 true 30 (decide (T4 < ((s.List.length : Nat) : Int))) rfl rfl rfl (beq_ft H14)) rfl rfl (by kernel_rfl) (by kernel_rfl) (by kernel_rfl) rfl rfl ?_
        refine TA.y (listed' := #[true, true, true, true, true, true, true, true, true, true, true, true, true, true, true, true, false, false]) 15 [0] rfl (Y.pick_f H14 rfl rfl) rfl rfl rfl (by kernel_rfl) (by kernel_rfl) (by kernel_rfl) rfl rfl ?_
        refine TA.y (listed' := #[true, true, true, true, true, true, true, true, true, true, true, true, true, true, true, true, true, false]) 16 [0] rfl (Y.assign rfl) rfl rfl rfl (by kernel_rfl) (by kernel_rfl) (by kernel_rfl) rfl rfl ?_
        refine TA.y (listed' := #[true, true, true, true, true, true, true, true, true, true, true, true, true, true, true, true, true, true]) 17 [0] rfl (Y.assign rfl) rfl rfl rfl (by kernel_rfl) (by kernel_rfl) (by kernel_rfl) rfl rfl ?_
        refine TA.nil (by kernel_rfl) ?_
        exact TE.jb_go () [] ⟨rfl, rfl, trivial⟩ rfl
    · refine TE.next ?_
      refine TW.ret ?_
      exact TE.leaf fun _ _ hf_ hs_ => ret_any (rs := [.tmp 4, .tmp 5]) (vs := [.int .i64 T4, .bool T12]) (.inl rfl) rfl ⟨rfl, ⟨rfl, trivial⟩⟩ hf_ hs_ ⟨(), rfl, hs_.pulls [] rfl⟩

/-- slices.Reverse[[]loop.example/g00950/impl.Share,loop.example/g00950/impl.Share] -/
noncomputable def slices_Reverse_21618 (s : List Share) : Option (List Share) :=
  bindC (loopO (fun (S1 : Int × Int × List Share) => if (decide (S1.1 < S1.2.1)) = true then ((idx S1.2.2 S1.2.1).bind fun E6 =>
  (idx S1.2.2 S1.1).bind fun E8 =>
  (idx (S1.2.2.set S1.1.toNat E6) S1.2.1).bind fun E10 =>
  some (.go (IntKind.i64.wrap (S1.1 + (1 : Int)), IntKind.i64.wrap (S1.2.1 - (1 : Int)), ((S1.2.2.set S1.1.toNat E6).set S1.2.1.toNat E8))))
  else (some (.done (.go S1.2.2))))
  ((0 : Int), IntKind.i64.wrap (((s.length : Nat) : Int) - (1 : Int)), s))
  (fun (T3 : List Share) => some T3)

theorem slices_Reverse_21618_con (s : List Share) (V_s0 : Value) (r : List Share) (hm : slices_Reverse_21618 s = some r) :
    Con Try.prog 151 [V_s0] [.own V_s0 (lc s)] [] (fun _ : Unit => .tuple #[]) (fun _ => [.own V_s0 (lc r)]) := by
  refine Con.intro (args := [V_s0]) (n := 28) (val := fun _ (_ : Unit) => .tuple #[]) (post := fun r _ => [.own V_s0 (lc r)]) (m := slices_Reverse_21618 s) Try.func151 rfl rfl rfl hm ?_
  intro w S _
  unfold slices_Reverse_21618
  refine TW.seq ?_
  refine TW.region ?_
  refine TO.y (Y.move rfl) rfl rfl rfl ?_
  refine TO.y (Y.len (l := s) ke26 (Can.own 0 rfl) rfl) rfl rfl rfl ?_
  refine TO.y (Y.sub rfl rfl) rfl rfl rfl ?_
  refine TO.y (Y.assign rfl) rfl rfl rfl ?_
  refine TO.y (Y.assign rfl) rfl rfl rfl ?_
  refine TO.nil ?_
  refine TE.next ?_
  refine TW.joinX (τ := List Share) (X := Unit) (fun _ _ => []) (fun T _ => [.own V_s0 (lc T)]) ?_ (fun T3 X4 => ?_)
  · refine TW.block ?_
    refine TW.loopX (σ := Int × Int × List Share) (X := Unit) (fun T _ => [(0, V_s0), (2, .int .i64 T.1), (3, .int .i64 T.2.1)]) (fun T _ => [.own V_s0 (lc T.2.2)]) () [0] ⟨rfl, rfl, rfl, trivial⟩ rfl (fun S1 X2 => ?_)
    refine TW.seq ?_
    refine TW.seq ?_
    refine TW.region ?_
    refine TO.y (Y.move rfl) rfl rfl rfl ?_
    refine TO.y (Y.move rfl) rfl rfl rfl ?_
    refine TO.y (Y.lss rfl rfl) rfl rfl rfl ?_
    refine TO.nil ?_
    refine TE.next ?_
    refine TW.cond rfl (fun H5 => ?_) (fun H5 => ?_)
    · refine TW.skip ?_
      refine TE.next ?_
      refine TW.seq ?_
      refine TW.block ?_
      refine TW.bind fun E6 H7 => ?_
      refine TW.bind fun E8 H9 => ?_
      refine TW.bind fun E10 H11 => ?_
      refine TW.joinU (X := Unit) (fun _ _ => [(0, V_s0), (2, .int .i64 S1.1), (3, .int .i64 S1.2.1)]) (fun _ _ => [.own V_s0 (lc ((S1.2.2.set S1.1.toNat E6).set S1.2.1.toNat E8))]) ?_ (fun _ X13 => ?_)
      · refine TW.draw (isH := []) hMix ?_
        refine TA.y (listed' := #[true, false, false, false, false, false, false, false, false, false, false, false, false, false, false, false]) 0 [] rfl (Y.move rfl) rfl rfl rfl (by kernel_rfl) (by kernel_rfl) (by kernel_rfl) rfl rfl ?_
        refine TA.y (listed' := #[true, true, false, false, false, false, false, false, false, false, false, false, false, false, false, false]) 1 [] rfl (Y.move rfl) rfl rfl rfl (by kernel_rfl) (by kernel_rfl) (by kernel_rfl) rfl rfl ?_
        refine TA.y (listed' := #[true, true, true, false, false, false, false, false, false, false, false, false, false, false, false, false]) 2 [] rfl (Y.move rfl) rfl rfl rfl (by kernel_rfl) (by kernel_rfl) (by kernel_rfl) rfl rfl ?_
        refine TA.y (listed' := #[true, true, true, true, false, false, false, false, false, false, false, false, false, false, false, false]) 3 [] rfl (Y.move rfl) rfl rfl rfl (by kernel_rfl) (by kernel_rfl) (by kernel_rfl) rfl rfl ?_
        refine TA.y (listed' := #[true, true, true, true, true, false, false, false, false, false, false, false, false, false, false, false]) 4 [] rfl (Y.move rfl) rfl rfl rfl (by kernel_rfl) (by kernel_rfl) (by kernel_rfl) rfl rfl ?_
        refine TA.y (listed' := #[true, true, true, true, true, true, false, false, false, false, false, false, false, false, false, false]) 5 [] rfl (Y.move rfl) rfl rfl rfl (by kernel_rfl) (by kernel_rfl) (by kernel_rfl) rfl rfl ?_
        refine TA.y (listed' := #[true, true, true, true, true, true, false, false, true, false, false, false, false, false, false, false]) 8 [] rfl (Y.move rfl) rfl rfl rfl (by kernel_rfl) (by kernel_rfl) (by kernel_rfl) rfl rfl ?_
        refine TA.y (listed' := #[true, true, true, true, true, true, false, false, true, true, false, false, false, false, false, false]) 9 [] rfl (Y.move rfl) rfl rfl rfl (by kernel_rfl) (by kernel_rfl) (by kernel_rfl) rfl rfl ?_
        refine TA.two 6 10 (by kernel_rfl) ?_ ?_
        · refine TX.y (listed' := #[true, true, true, true, true, true, true, false, true, true, false, false, false, false, false, false]) [] rfl (Y.index ke26 (Can.own 0 rfl) H7 rfl rfl) rfl rfl rfl rfl rfl ?_
          refine TA.two 7 10 (by kernel_rfl) ?_ ?_
          · refine TX.y (listed' := #[true, true, true, true, true, true, true, true, true, true, false, false, false, false, false, false]) [] rfl (Y.load_el (us := [.int .i64 E6.Tenant, .int .i64 E6.Quota]) (u := .agg #[.int .i64 E6.Tenant, .int .i64 E6.Quota]) kk56 rfl (Can.own 0 rfl) (idx_get H7).2.2 rfl rfl rfl rfl rfl) rfl rfl rfl rfl rfl ?_
            refine TA.one 10 (by kernel_rfl) ?_
            refine TX.y (listed' := #[true, true, true, true, true, true, true, true, true, true, true, false, false, false, false, false]) [] rfl (Y.index ke26 (Can.own 0 rfl) H9 rfl rfl) rfl rfl rfl rfl rfl ?_
            refine TA.one 11 (by kernel_rfl) ?_
            refine TX.y (listed' := #[true, true, true, true, true, true, true, true, true, true, true, true, false, false, false, false]) [] rfl (Y.load_el (us := [.int .i64 E8.Tenant, .int .i64 E8.Quota]) (u := .agg #[.int .i64 E8.Tenant, .int .i64 E8.Quota]) kk56 rfl (Can.own 0 rfl) (idx_get H9).2.2 rfl rfl rfl rfl rfl) rfl rfl rfl rfl rfl ?_
            refine TA.one 12 (by kernel_rfl) ?_
            refine TX.y (listed' := #[true, true, true, true, true, true, true, true, true, true, true, true, true, false, false, false]) [] rfl (Y.index ke26 (Can.own 0 rfl) H9 rfl rfl) rfl rfl rfl rfl rfl ?_
            refine TA.one 13 (by kernel_rfl) ?_
            refine TX.ef0 (listed' := #[true, true, true, true, true, true, true, true, true, true, true, true, true, true, false, false]) [] rfl (Ef.store_el (us := [.int .i64 E6.Tenant, .int .i64 E6.Quota]) (is' := [.own V_s0 (lc (S1.2.2.set S1.1.toNat E6))]) E6 0 kk56 rfl rfl (idx_get H9).2.2 rfl rfl (Cel.plain rfl rfl) rfl rfl rfl rfl) rfl rfl rfl (fun _ => rfl) (fun _ => ?_)
            refine TA.one 14 (by kernel_rfl) ?_
            refine TX.y (listed' := #[true, true, true, true, true, true, true, true, true, true, true, true, true, true, true, false]) [] rfl (Y.index ke26 (Can.own 0 rfl) H11 rfl rfl) rfl rfl rfl rfl rfl ?_
            refine TA.one 15 (by kernel_rfl) ?_
            refine TX.ef0 (listed' := #[true, true, true, true, true, true, true, true, true, true, true, true, true, true, true, true]) [] rfl (Ef.store_el (us := [.int .i64 E8.Tenant, .int .i64 E8.Quota]) (is' := [.own V_s0 (lc ((S1.2.2.set S1.1.toNat E6).set S1.2.1.toNat E8))]) E8 0 kk56 rfl rfl (idx_get H11).2.2 rfl rfl (Cel.plain rfl rfl) rfl rfl rfl rfl) rfl rfl rfl (fun _ => rfl) (fun _ => ?_)
            refine TA.nil (by kernel_rfl) ?_
            exact TE.jb_go () [0] ⟨rfl, rfl, rfl, trivial⟩ rfl
          · refine TX.y (listed' := #[true, true, true, true, true, true, true, false, true, true, true, false, false, false, false, false]) [] rfl (Y.index ke26 (Can.own 0 rfl) H9 rfl rfl) rfl rfl rfl rfl rfl ?_
            refine TA.two 7 11 (by kernel_rfl) ?_ ?_
            · refine TX.y (listed' := #[true, true, true, true, true, true, true, true, true, true, true, false, false, false, false, false]) [] rfl (Y.load_el (us := [.int .i64 E6.Tenant, .int .i64 E6.Quota]) (u := .agg #[.int .i64 E6.Tenant, .int .i64 E6.Quota]) kk56 rfl (Can.own 0 rfl) (idx_get H7).2.2 rfl rfl rfl rfl rfl) rfl rfl rfl rfl rfl ?_
              refine TA.one 11 (by kernel_rfl) ?_
              refine TX.y (listed' := #[true, true, true, true, true, true, true, true, true, true, true, true, false, false, false, false]) [] rfl (Y.load_el (us := [.int .i64 E8.Tenant, .int .i64 E8.Quota]) (u := .agg #[.int .i64 E8.Tenant, .int .i64 E8.Quota]) kk56 rfl (Can.own 0 rfl) (idx_get H9).2.2 rfl rfl rfl rfl rfl) rfl rfl rfl rfl rfl ?_
              refine TA.one 12 (by kernel_rfl) ?_
              refine TX.y (listed' := #[true, true, true, true, true, true, true, true, true, true, true, true, true, false, false, false]) [] rfl (Y.index ke26 (Can.own 0 rfl) H9 rfl rfl) rfl rfl rfl rfl rfl ?_
              refine TA.one 13 (by kernel_rfl) ?_
              refine TX.ef0 (listed' := #[true, true, true, true, true, true, true, true, true, true, true, true, true, true, false, false]) [] rfl (Ef.store_el (us := [.int .i64 E6.Tenant, .int .i64 E6.Quota]) (is' := [.own V_s0 (lc (S1.2.2.set S1.1.toNat E6))]) E6 0 kk56 rfl rfl (idx_get H9).2.2 rfl rfl (Cel.plain rfl rfl) rfl rfl rfl rfl) rfl rfl rfl (fun _ => rfl) (fun _ => ?_)
              refine TA.one 14 (by kernel_rfl) ?_
              refine TX.y (listed' := #[true, true, true, true, true, true, true, true, true, true, true, true, true, true, true, false]) [] rfl (Y.index ke26 (Can.own 0 rfl) H11 rfl rfl) rfl rfl rfl rfl rfl ?_
              refine TA.one 15 (by kernel_rfl) ?_
              refine TX.ef0 (listed' := #[true, true, true, true, true, true, true, true, true, true, true, true, true, true, true, true]) [] rfl (Ef.store_el (us := [.int .i64 E8.Tenant, .int .i64 E8.Quota]) (is' := [.own V_s0 (lc ((S1.2.2.set S1.1.toNat E6).set S1.2.1.toNat E8))]) E8 0 kk56 rfl rfl (idx_get H11).2.2 rfl rfl (Cel.plain rfl rfl) rfl rfl rfl rfl) rfl rfl rfl (fun _ => rfl) (fun _ => ?_)
              refine TA.nil (by kernel_rfl) ?_
              exact TE.jb_go () [0] ⟨rfl, rfl, rfl, trivial⟩ rfl
            · refine TX.y (listed' := #[true, true, true, true, true, true, true, false, true, true, true, true, false, false, false, false]) [] rfl (Y.load_el (us := [.int .i64 E8.Tenant, .int .i64 E8.Quota]) (u := .agg #[.int .i64 E8.Tenant, .int .i64 E8.Quota]) kk56 rfl (Can.own 0 rfl) (idx_get H9).2.2 rfl rfl rfl rfl rfl) rfl rfl rfl rfl rfl ?_
              refine TA.one 7 (by kernel_rfl) ?_
              refine TX.y (listed' := #[true, true, true, true, true, true, true, true, true, true, true, true, false, false, false, false]) [] rfl (Y.load_el (us := [.int .i64 E6.Tenant, .int .i64 E6.Quota]) (u := .agg #[.int .i64 E6.Tenant, .int .i64 E6.Quota]) kk56 rfl (Can.own 0 rfl) (idx_get H7).2.2 rfl rfl rfl rfl rfl) rfl rfl rfl rfl rfl ?_
              refine TA.one 12 (by kernel_rfl) ?_
              refine TX.y (listed' := #[true, true, true, true, true, true, true, true, true, true, true, true, true, false, false, false]) [] rfl (Y.index ke26 (Can.own 0 rfl) H9 rfl rfl) rfl rfl rfl rfl rfl ?_
              refine TA.one 13 (by kernel_rfl) ?_
              refine TX.ef0 (listed' := #[true, true, true, true, true, true, true, true, true, true, true, true, true, true, false, false]) [] rfl (Ef.store_el (us := [.int .i64 E6.Tenant, .int .i64 E6.Quota]) (is' := [.own V_s0 (lc (S1.2.2.set S1.1.toNat E6))]) E6 0 kk56 rfl rfl (idx_get H9).2.2 rfl rfl (Cel.plain rfl rfl) rfl rfl rfl rfl) rfl rfl rfl (fun _ => rfl) (fun _ => ?_)
              refine TA.one 14 (by kernel_rfl) ?_
              refine TX.y (listed' := #[true, true, true, true, true, true, true, true, true, true, true, true, true, true, true, false]) [] rfl (Y.index ke26 (Can.own 0 rfl) H11 rfl rfl) rfl rfl rfl rfl rfl ?_
              refine TA.one 15 (by kernel_rfl) ?_
              refine TX.ef0 (listed' := #[true, true, true, true, true, true, true, true, true, true, true, true, true, true, true, true]) [] rfl (Ef.store_el (us := [.int .i64 E8.Tenant, .int .i64 E8.Quota]) (is' := [.own V_s0 (lc ((S1.2.2.set S1.1.toNat E6).set S1.2.1.toNat E8))]) E8 0 kk56 rfl rfl (idx_get H11).2.2 rfl rfl (Cel.plain rfl rfl) rfl rfl rfl rfl) rfl rfl rfl (fun _ => rfl) (fun _ => ?_)
              refine TA.nil (by kernel_rfl) ?_
              exact TE.jb_go () [0] ⟨rfl, rfl, rfl, trivial⟩ rfl
        · refine TX.y (listed' := #[true, true, true, true, true, true, false, false, true, true, true, false, false, false, false, false]) [] rfl (Y.index ke26 (Can.own 0 rfl) H9 rfl rfl) rfl rfl rfl rfl rfl ?_
          refine TA.two 6 11 (by kernel_rfl) ?_ ?_
          · refine TX.y (listed' := #[true, true, true, true, true, true, true, false, true, true, true, false, false, false, false, false]) [] rfl (Y.index ke26 (Can.own 0 rfl) H7 rfl rfl) rfl rfl rfl rfl rfl ?_
            refine TA.two 7 11 (by kernel_rfl) ?_ ?_
            · refine TX.y (listed' := #[true, true, true, true, true, true, true, true, true, true, true, false, false, false, false, false]) [] rfl (Y.load_el (us := [.int .i64 E6.Tenant, .int .i64 E6.Quota]) (u := .agg #[.int .i64 E6.Tenant, .int .i64 E6.Quota]) kk56 rfl (Can.own 0 rfl) (idx_get H7).2.2 rfl rfl rfl rfl rfl) rfl rfl rfl rfl rfl ?_
              refine TA.one 11 (by kernel_rfl) ?_
              refine TX.y (listed' := #[true, true, true, true, true, true, true, true, true, true, true, true, false, false, false, false]) [] rfl (Y.load_el (us := [.int .i64 E8.Tenant, .int .i64 E8.Quota]) (u := .agg #[.int .i64 E8.Tenant, .int .i64 E8.Quota]) kk56 rfl (Can.own 0 rfl) (idx_get H9).2.2 rfl rfl rfl rfl rfl) rfl rfl rfl rfl rfl ?_
              refine TA.one 12 (by kernel_rfl) ?_
              refine TX.y (listed' := #[true, true, true, true, true, true, true, true, true, true, true, true, true, false, false, false]) [] rfl (Y.index ke26 (Can.own 0 rfl) H9 rfl rfl) rfl rfl rfl rfl rfl ?_
              refine TA.one 13 (by kernel_rfl) ?_
              refine TX.ef0 (listed' := #[true, true, true, true, true, true, true, true, true, true, true, true, true, true, false, false]) [] rfl (Ef.store_el (us := [.int .i64 E6.Tenant, .int .i64 E6.Quota]) (is' := [.own V_s0 (lc (S1.2.2.set S1.1.toNat E6))]) E6 0 kk56 rfl rfl (idx_get H9).2.2 rfl rfl (Cel.plain rfl rfl) rfl rfl rfl rfl) rfl rfl rfl (fun _ => rfl) (fun _ => ?_)
              refine TA.one 14 (by kernel_rfl) ?_
              refine TX.y (listed' := #[true, true, true, true, true, true, true, true, true, true, true, true, true, true, true, false]) [] rfl (Y.index ke26 (Can.own 0 rfl) H11 rfl rfl) rfl rfl rfl rfl rfl ?_
              refine TA.one 15 (by kernel_rfl) ?_
              refine TX.ef0 (listed' := #[true, true, true, true, true, true, true, true, true, true, true, true, true, true, true, true]) [] rfl (Ef.store_el (us := [.int .i64 E8.Tenant, .int .i64 E8.Quota]) (is' := [.own V_s0 (lc ((S1.2.2.set S1.1.toNat E6).set S1.2.1.toNat E8))]) E8 0 kk56 rfl rfl (idx_get H11).2.2 rfl rfl (Cel.plain rfl rfl) rfl rfl rfl rfl) rfl rfl rfl (fun _ => rfl) (fun _ => ?_)
              refine TA.nil (by kernel_rfl) ?_
              exact TE.jb_go () [0] ⟨rfl, rfl, rfl, trivial⟩ rfl
            · refine TX.y (listed' := #[true, true, true, true, true, true, true, false, true, true, true, true, false, false, false, false]) [] rfl (Y.load_el (us := [.int .i64 E8.Tenant, .int .i64 E8.Quota]) (u := .agg #[.int .i64 E8.Tenant, .int .i64 E8.Quota]) kk56 rfl (Can.own 0 rfl) (idx_get H9).2.2 rfl rfl rfl rfl rfl) rfl rfl rfl rfl rfl ?_
              refine TA.one 7 (by kernel_rfl) ?_
              refine TX.y (listed' := #[true, true, true, true, true, true, true, true, true, true, true, true, false, false, false, false]) [] rfl (Y.load_el (us := [.int .i64 E6.Tenant, .int .i64 E6.Quota]) (u := .agg #[.int .i64 E6.Tenant, .int .i64 E6.Quota]) kk56 rfl (Can.own 0 rfl) (idx_get H7).2.2 rfl rfl rfl rfl rfl) rfl rfl rfl rfl rfl ?_
              refine TA.one 12 (by kernel_rfl) ?_
              refine TX.y (listed' := #[true, true, true, true, true, true, true, true, true, true, true, true, true, false, false, false]) [] rfl (Y.index ke26 (Can.own 0 rfl) H9 rfl rfl) rfl rfl rfl rfl rfl ?_
              refine TA.one 13 (by kernel_rfl) ?_
              refine TX.ef0 (listed' := #[true, true, true, true, true, true, true, true, true, true, true, true, true, true, false, false]) [] rfl (Ef.store_el (us := [.int .i64 E6.Tenant, .int .i64 E6.Quota]) (is' := [.own V_s0 (lc (S1.2.2.set S1.1.toNat E6))]) E6 0 kk56 rfl rfl (idx_get H9).2.2 rfl rfl (Cel.plain rfl rfl) rfl rfl rfl rfl) rfl rfl rfl (fun _ => rfl) (fun _ => ?_)
              refine TA.one 14 (by kernel_rfl) ?_
              refine TX.y (listed' := #[true, true, true, true, true, true, true, true, true, true, true, true, true, true, true, false]) [] rfl (Y.index ke26 (Can.own 0 rfl) H11 rfl rfl) rfl rfl rfl rfl rfl ?_
              refine TA.one 15 (by kernel_rfl) ?_
              refine TX.ef0 (listed' := #[true, true, true, true, true, true, true, true, true, true, true, true, true, true, true, true]) [] rfl (Ef.store_el (us := [.int .i64 E8.Tenant, .int .i64 E8.Quota]) (is' := [.own V_s0 (lc ((S1.2.2.set S1.1.toNat E6).set S1.2.1.toNat E8))]) E8 0 kk56 rfl rfl (idx_get H11).2.2 rfl rfl (Cel.plain rfl rfl) rfl rfl rfl rfl) rfl rfl rfl (fun _ => rfl) (fun _ => ?_)
              refine TA.nil (by kernel_rfl) ?_
              exact TE.jb_go () [0] ⟨rfl, rfl, rfl, trivial⟩ rfl
          · refine TX.y (listed' := #[true, true, true, true, true, true, false, false, true, true, true, true, false, false, false, false]) [] rfl (Y.load_el (us := [.int .i64 E8.Tenant, .int .i64 E8.Quota]) (u := .agg #[.int .i64 E8.Tenant, .int .i64 E8.Quota]) kk56 rfl (Can.own 0 rfl) (idx_get H9).2.2 rfl rfl rfl rfl rfl) rfl rfl rfl rfl rfl ?_
            refine TA.one 6 (by kernel_rfl) ?_
            refine TX.y (listed' := #[true, true, true, true, true, true, true, false, true, true, true, true, false, false, false, false]) [] rfl (Y.index ke26 (Can.own 0 rfl) H7 rfl rfl) rfl rfl rfl rfl rfl ?_
            refine TA.one 7 (by kernel_rfl) ?_
            refine TX.y (listed' := #[true, true, true, true, true, true, true, true, true, true, true, true, false, false, false, false]) [] rfl (Y.load_el (us := [.int .i64 E6.Tenant, .int .i64 E6.Quota]) (u := .agg #[.int .i64 E6.Tenant, .int .i64 E6.Quota]) kk56 rfl (Can.own 0 rfl) (idx_get H7).2.2 rfl rfl rfl rfl rfl) rfl rfl rfl rfl rfl ?_
            refine TA.one 12 (by kernel_rfl) ?_
            refine TX.y (listed' := #[true, true, true, true, true, true, true, true, true, true, true, true, true, false, false, false]) [] rfl (Y.index ke26 (Can.own 0 rfl) H9 rfl rfl) rfl rfl rfl rfl rfl ?_
            refine TA.one 13 (by kernel_rfl) ?_
            refine TX.ef0 (listed' := #[true, true, true, true, true, true, true, true, true, true, true, true, true, true, false, false]) [] rfl (Ef.store_el (us := [.int .i64 E6.Tenant, .int .i64 E6.Quota]) (is' := [.own V_s0 (lc (S1.2.2.set S1.1.toNat E6))]) E6 0 kk56 rfl rfl (idx_get H9).2.2 rfl rfl (Cel.plain rfl rfl) rfl rfl rfl rfl) rfl rfl rfl (fun _ => rfl) (fun _ => ?_)
            refine TA.one 14 (by kernel_rfl) ?_
            refine TX.y (listed' := #[true, true, true, true, true, true, true, true, true, true, true, true, true, true, true, false]) [] rfl (Y.index ke26 (Can.own 0 rfl) H11 rfl rfl) rfl rfl rfl rfl rfl ?_
            refine TA.one 15 (by kernel_rfl) ?_
            refine TX.ef0 (listed' := #[true, true, true, true, true, true, true, true, true, true, true, true, true, true, true, true]) [] rfl (Ef.store_el (us := [.int .i64 E8.Tenant, .int .i64 E8.Quota]) (is' := [.own V_s0 (lc ((S1.2.2.set S1.1.toNat E6).set S1.2.1.toNat E8))]) E8 0 kk56 rfl rfl (idx_get H11).2.2 rfl rfl (Cel.plain rfl rfl) rfl rfl rfl rfl) rfl rfl rfl (fun _ => rfl) (fun _ => ?_)
            refine TA.nil (by kernel_rfl) ?_
            exact TE.jb_go () [0] ⟨rfl, rfl, rfl, trivial⟩ rfl
      · refine TE.block_normal ?_
        refine TE.next ?_
        refine TW.region ?_
        refine TO.y (Y.move rfl) rfl rfl rfl ?_
        refine TO.y (Y.add rfl rfl) rfl rfl rfl ?_
        refine TO.y (Y.move rfl) rfl rfl rfl ?_
        refine TO.y (Y.sub rfl rfl) rfl rfl rfl ?_
        refine TO.y (Y.assign rfl) rfl rfl rfl ?_
        refine TO.y (Y.assign rfl) rfl rfl rfl ?_
        refine TO.nil ?_
        exact TE.lp_go () [0] ⟨rfl, rfl, rfl, trivial⟩ rfl
    · refine TW.exit ?_
      refine TE.then_exit ?_
      refine TE.lp_exit ?_
      refine TE.block_exit ?_
      exact TE.jn_go () [0] trivial rfl
  · exact TE.leaf fun _ _ hf_ hs_ => ret_any (rs := []) (vs := []) (.inr rfl) rfl trivial hf_ hs_ ⟨(), rfl, hs_.pulls [0] rfl⟩

end Go.Proofs.Ytpnnbeiojpphhab
