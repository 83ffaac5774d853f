/-
  The functions that a law reaches, each as a pure function, with the proof that the program computes it, and the step from a pure law to the given statement. Conditions: none.
-/
import Derived.Test.YtjmimdhpghecpaaPl
import Derived.Test.YtjmimdhpghecpaaRows
set_option linter.unusedVariables false
namespace Go.Proofs.Ytjmimdhpghecpaa
open Go Sl

structure Space where
  Owner : List Int
  deriving DecidableEq
instance : Enc Space := ⟨1, fun x => [lc 3 x.Owner], fun _ => rfl, by decide⟩
instance : Dec Space where
  sh := [.sl 3 1 (Dec.sh Int)]
  ok x := okl x.Owner
  dec cs h := by
    obtain ⟨c0, r0, rfl, h0, h⟩ := h.cons_inv
    obtain rfl := h.nil_inv
    obtain ⟨y0, rfl, w0⟩ := h0.sl_inv (α := Int) rfl
    exact ⟨{ Owner := y0 : Space }, rfl, w0⟩
structure Share where
  Tenant : Int
  Quota : Int
  deriving DecidableEq
instance : Enc Share := ⟨2, fun x => [.int .i64 x.Tenant, .int .i64 x.Quota], fun _ => rfl, by decide⟩
instance : Dec Share where
  sh := [.int .i64, .int .i64]
  ok x := okI x.Tenant ∧ okI x.Quota
  dec cs h := by
    obtain ⟨c0, r0, rfl, h0, h⟩ := h.cons_inv
    obtain ⟨c1, r1, rfl, h1, h⟩ := h.cons_inv
    obtain rfl := h.nil_inv
    obtain ⟨y0, rfl, w0_⟩ := h0.int_inv
    have w0 := okI_of w0_
    obtain ⟨y1, rfl, w1_⟩ := h1.int_inv
    have w1 := okI_of w1_
    exact ⟨{ Tenant := y0, Quota := y1 : Share }, rfl, w0, w1⟩
instance : Flat Share := { vals := fun x => [.int .i64 x.Tenant, .int .i64 x.Quota], flat := fun _ => rfl }
structure Shares where
  Size : Int
  List : List Share
  deriving DecidableEq
instance : Enc Shares := ⟨2, fun x => [.int .i64 x.Size, lc 81 x.List], fun _ => rfl, by decide⟩
instance : Dec Shares where
  sh := [.int .i64, .sl 81 2 (Dec.sh Share)]
  ok x := okI x.Size ∧ okl x.List
  dec cs h := by
    obtain ⟨c0, r0, rfl, h0, h⟩ := h.cons_inv
    obtain ⟨c1, r1, rfl, h1, h⟩ := h.cons_inv
    obtain rfl := h.nil_inv
    obtain ⟨y0, rfl, w0_⟩ := h0.int_inv
    have w0 := okI_of w0_
    obtain ⟨y1, rfl, w1⟩ := h1.sl_inv (α := Share) rfl
    exact ⟨{ Size := y0, List := y1 : Shares }, rfl, w0, w1⟩
structure LogRow where
  Tenant : Int
  Boot : Int
  Seq : Int
  Text : List UInt8
  Synced : Bool
  deriving DecidableEq
instance : Enc LogRow := ⟨5, fun x => [.int .i64 x.Tenant, .int .i64 x.Boot, .int .i64 x.Seq, .str x.Text, .bool x.Synced], fun _ => rfl, by decide⟩
instance : Dec LogRow where
  sh := [.int .i64, .int .i64, .int .i64, .str, .bool]
  ok x := okI x.Tenant ∧ okI x.Boot ∧ okI x.Seq ∧ x.Text.length ≤ 9223372036854775807 ∧ True
  dec cs h := by
    obtain ⟨c0, r0, rfl, h0, h⟩ := h.cons_inv
    obtain ⟨c1, r1, rfl, h1, h⟩ := h.cons_inv
    obtain ⟨c2, r2, rfl, h2, h⟩ := h.cons_inv
    obtain ⟨c3, r3, rfl, h3, h⟩ := h.cons_inv
    obtain ⟨c4, r4, rfl, h4, h⟩ := h.cons_inv
    obtain rfl := h.nil_inv
    obtain ⟨y0, rfl, w0_⟩ := h0.int_inv
    have w0 := okI_of w0_
    obtain ⟨y1, rfl, w1_⟩ := h1.int_inv
    have w1 := okI_of w1_
    obtain ⟨y2, rfl, w2_⟩ := h2.int_inv
    have w2 := okI_of w2_
    obtain ⟨y3, rfl, w3⟩ := h3.str_inv
    obtain ⟨y4, rfl⟩ := h4.bool_inv
    have w4 := True.intro
    exact ⟨{ Tenant := y0, Boot := y1, Seq := y2, Text := y3, Synced := y4 : LogRow }, rfl, w0, w1, w2, w3, w4⟩
instance : Flat LogRow := { vals := fun x => [.int .i64 x.Tenant, .int .i64 x.Boot, .int .i64 x.Seq, strV x.Text, .bool x.Synced], flat := fun _ => rfl }

theorem hMix : Try.prog.follows .mixedOrders = true := by kernel_rfl
theorem kc37 : callB Try.prog 37 = true := by kernel_rfl
theorem kc38 : callB Try.prog 38 = true := by kernel_rfl
theorem kc9 : callB Try.prog 9 = true := by kernel_rfl
theorem kc10 : callB Try.prog 10 = true := by kernel_rfl
theorem ke24 : elemB Try.prog 24 = some (3, 1, 8) := by kernel_rfl
theorem kf26_0 : fieldB Try.prog 26 0 = some 0 := by kernel_rfl
theorem kk24 : kindB Try.prog 24 = some (false, 1) := by kernel_rfl
theorem kc39 : callB Try.prog 39 = true := by kernel_rfl
theorem kz3 : zeroB Try.prog 3 = some (.int .i64 (0 : Int)) := by kernel_rfl
theorem kk3 : kindB Try.prog 3 = some (false, 1) := by kernel_rfl
theorem kz29 : zeroB Try.prog 29 = some (.agg #[.slice none 0 0]) := by kernel_rfl
theorem kc27 : callB Try.prog 27 = true := by kernel_rfl
theorem kf29_0 : fieldB Try.prog 29 0 = some 0 := by kernel_rfl
theorem kk29 : kindB Try.prog 29 = some (true, 1) := by kernel_rfl
theorem kc29 : callB Try.prog 29 = true := by kernel_rfl
theorem kk26 : kindB Try.prog 26 = some (true, 1) := by kernel_rfl
theorem kc11 : callB Try.prog 11 = true := by kernel_rfl
theorem kc13 : callB Try.prog 13 = true := by kernel_rfl
theorem kc12 : callB Try.prog 12 = true := by kernel_rfl
theorem kc14 : callB Try.prog 14 = true := by kernel_rfl
theorem kb4 : Try.prog.underlying 4 = some .bool := by kernel_rfl
theorem kc15 : callB Try.prog 15 = true := by kernel_rfl
theorem ke40 : elemB Try.prog 40 = some (81, 2, 16) := by kernel_rfl
theorem kf42_1 : fieldB Try.prog 42 1 = some 1 := by kernel_rfl
theorem kk40 : kindB Try.prog 40 = some (false, 1) := by kernel_rfl
theorem kc43 : callB Try.prog 43 = true := by kernel_rfl
theorem kz74 : zeroB Try.prog 74 = some (.agg #[.int .i64 (0 : Int), .int .i64 (0 : Int)]) := by kernel_rfl
theorem kf81_0 : fieldB Try.prog 81 0 = some 0 := by kernel_rfl
theorem kf74_0 : fieldB Try.prog 74 0 = some 0 := by kernel_rfl
theorem kf81_1 : fieldB Try.prog 81 1 = some 1 := by kernel_rfl
theorem kf74_1 : fieldB Try.prog 74 1 = some 1 := by kernel_rfl
theorem kk74 : kindB Try.prog 74 = some (true, 2) := by kernel_rfl
theorem ke45 : elemB Try.prog 45 = some (74, 2, 16) := by kernel_rfl
theorem kk81 : kindB Try.prog 81 = some (true, 2) := by kernel_rfl
theorem kc52 : callB Try.prog 52 = true := by kernel_rfl
theorem kz47 : zeroB Try.prog 47 = some (.agg #[.int .i64 (0 : Int), .slice none 0 0]) := by kernel_rfl
theorem kf42_0 : fieldB Try.prog 42 0 = some 0 := by kernel_rfl
theorem kf47_0 : fieldB Try.prog 47 0 = some 0 := by kernel_rfl
theorem kc45 : callB Try.prog 45 = true := by kernel_rfl
theorem kf47_1 : fieldB Try.prog 47 1 = some 1 := by kernel_rfl
theorem kk45 : kindB Try.prog 45 = some (false, 1) := by kernel_rfl
theorem kk47 : kindB Try.prog 47 = some (true, 2) := by kernel_rfl
theorem kc44 : callB Try.prog 44 = true := by kernel_rfl
theorem kc46 : callB Try.prog 46 = true := by kernel_rfl
theorem kc47 : callB Try.prog 47 = true := by kernel_rfl
theorem kc53 : callB Try.prog 53 = true := by kernel_rfl
theorem kc48 : callB Try.prog 48 = true := by kernel_rfl
theorem kk42 : kindB Try.prog 42 = some (true, 2) := by kernel_rfl
theorem kc21 : callB Try.prog 21 = true := by kernel_rfl
theorem kc23 : callB Try.prog 23 = true := by kernel_rfl
theorem kc22 : callB Try.prog 22 = true := by kernel_rfl
theorem kc24 : callB Try.prog 24 = true := by kernel_rfl
theorem kc25 : callB Try.prog 25 = true := by kernel_rfl
theorem kp29 : placesB Try.prog 29 = some [(0, 1)] := by kernel_rfl
theorem kc49 : callB Try.prog 49 = true := by kernel_rfl
theorem kc54 : callB Try.prog 54 = true := by kernel_rfl
theorem kc50 : callB Try.prog 50 = true := by kernel_rfl
theorem kc31 : callB Try.prog 31 = true := by kernel_rfl
theorem kc36 : callB Try.prog 36 = true := by kernel_rfl
theorem kc26 : callB Try.prog 26 = true := by kernel_rfl
theorem kc28 : callB Try.prog 28 = true := by kernel_rfl
theorem kc30 : callB Try.prog 30 = true := by kernel_rfl
theorem kc32 : callB Try.prog 32 = true := by kernel_rfl
theorem kf64_3 : fieldB Try.prog 64 3 = some 3 := by kernel_rfl
theorem kk9 : kindB Try.prog 9 = some (false, 1) := by kernel_rfl
theorem ks9 : isStrB Try.prog 9 = true := by kernel_rfl
theorem ke33 : elemB Try.prog 33 = some (64, 5, 48) := by kernel_rfl
theorem kk64 : kindB Try.prog 64 = some (true, 5) := by kernel_rfl
theorem kc40 : callB Try.prog 40 = true := by kernel_rfl
theorem kz65 : zeroB Try.prog 65 = some (.agg #[.int .i64 (0 : Int), .int .i64 (0 : Int), .int .i64 (0 : Int), strV ([]), .bool false]) := by kernel_rfl
theorem kf64_0 : fieldB Try.prog 64 0 = some 0 := by kernel_rfl
theorem kf65_0 : fieldB Try.prog 65 0 = some 0 := by kernel_rfl
theorem kf64_1 : fieldB Try.prog 64 1 = some 1 := by kernel_rfl
theorem kf65_1 : fieldB Try.prog 65 1 = some 1 := by kernel_rfl
theorem kf64_2 : fieldB Try.prog 64 2 = some 2 := by kernel_rfl
theorem kf65_2 : fieldB Try.prog 65 2 = some 2 := by kernel_rfl
theorem kf65_3 : fieldB Try.prog 65 3 = some 3 := by kernel_rfl
theorem kf64_4 : fieldB Try.prog 64 4 = some 4 := by kernel_rfl
theorem kk4 : kindB Try.prog 4 = some (false, 1) := by kernel_rfl
theorem kf65_4 : fieldB Try.prog 65 4 = some 4 := by kernel_rfl
theorem kk65 : kindB Try.prog 65 = some (true, 5) := by kernel_rfl
theorem ke36 : elemB Try.prog 36 = some (65, 5, 48) := by kernel_rfl
theorem kc41 : callB Try.prog 41 = true := by kernel_rfl
theorem kc42 : callB Try.prog 42 = true := by kernel_rfl
theorem ki3 : intB Try.prog 3 = some .i64 := by kernel_rfl
theorem ki5 : intB Try.prog 5 = some .u8 := by kernel_rfl
theorem kz5 : zeroB Try.prog 5 = some (.int .u8 (0 : Int)) := by kernel_rfl
theorem ke83 : elemB Try.prog 83 = some (5, 1, 1) := by kernel_rfl
theorem kc51 : callB Try.prog 51 = true := by kernel_rfl
theorem kc16 : callB Try.prog 16 = true := by kernel_rfl
theorem kc18 : callB Try.prog 18 = true := by kernel_rfl
theorem kc33 : callB Try.prog 33 = true := by kernel_rfl
theorem kc34 : callB Try.prog 34 = true := by kernel_rfl
theorem kc20 : callB Try.prog 20 = true := by kernel_rfl
theorem kc35 : callB Try.prog 35 = true := by kernel_rfl
theorem hu3 : Try.prog.underlying 3 = some (.int .i64) := by kernel_rfl
theorem hs3 : shB Try.prog 20 3 = some ([.int .i64]) := by kernel_rfl
theorem hu26 : Try.prog.underlying 26 = some (.struct #[⟨ "Owner", 24, 0, Bool.false, "", "", 0⟩]) := by kernel_rfl
theorem hs26 : shB Try.prog 20 26 = some (Dec.sh Space) := by kernel_rfl
theorem hu42 : Try.prog.underlying 42 = some (.struct #[⟨ "Size", 3, 0, Bool.false, "", "", 0⟩, ⟨ "List", 40, 1, Bool.false, "", "", 8⟩]) := by kernel_rfl
theorem hs42 : shB Try.prog 20 42 = some (Dec.sh Shares) := by kernel_rfl
theorem hu24 : Try.prog.underlying 24 = some (.slice 3) := by kernel_rfl
theorem hs24 : shB Try.prog 20 24 = some ([.sl 3 1 (Dec.sh Int)]) := by kernel_rfl
theorem hu33 : Try.prog.underlying 33 = some (.slice 64) := by kernel_rfl
theorem hs33 : shB Try.prog 20 33 = some ([.sl 64 5 (Dec.sh LogRow)]) := by kernel_rfl

/-- loop.example/g00950/spec.l1In -/
noncomputable def spec_l1In (x : Int) (low : Int) (high : Int) : Option Bool :=
  (if (decide (x ≥ low)) = true then (some (decide (x ≤ high)))
  else (some false)).bind (fun (T1 : Bool) =>
  some T1)

theorem spec_l1In_con (x : Int) (low : Int) (high : Int)  (r : Bool) (hm : spec_l1In x low high = some r) :
    Con Try.prog 37 [.int .i64 x, .int .i64 low, .int .i64 high] [] [] (fun _ : Unit => .bool r) (fun _ => []) := by
  refine Con.intro (args := [.int .i64 x, .int .i64 low, .int .i64 high]) (n := 15) (val := fun r (_ : Unit) => .bool r) (post := fun _ _ => []) (m := spec_l1In x low high) Try.func37 rfl rfl rfl hm ?_
  intro w S _
  unfold spec_l1In
  refine TW.seq ?_
  refine TW.region ?_
  refine TO.y (Y.assign rfl) rfl rfl rfl ?_
  refine TO.nil ?_
  refine TE.next ?_
  refine TW.seq ?_
  refine TW.joinBX (τ := Bool) (X := Unit) (fun T _ => [(6, .bool T)]) (fun _ _ => []) ?_ (fun T1 X2 => ?_)
  · refine TW.region ?_
    refine TO.y (Y.move rfl) rfl rfl rfl ?_
    refine TO.y (Y.move rfl) rfl rfl rfl ?_
    refine TO.y (Y.geq rfl rfl) rfl rfl rfl ?_
    refine TO.y (Y.move rfl) rfl rfl rfl ?_
    refine TO.ite (b := decide (x ≥ low)) (fun H3 => ?_) (fun H3 => ?_)
    · refine TO.y (Y.move rfl) (Gd.at 3 true 10 (decide (x ≥ low)) rfl rfl rfl (beq_tt H3)) rfl rfl ?_
      refine TO.y (Y.move rfl) (Gd.at 3 true 10 (decide (x ≥ low)) rfl rfl rfl (beq_tt H3)) rfl rfl ?_
      refine TO.y (Y.leq rfl rfl) (Gd.at 3 true 10 (decide (x ≥ low)) rfl rfl rfl (beq_tt H3)) rfl rfl ?_
      refine TO.y (Y.pick_t H3 rfl rfl) rfl rfl rfl ?_
      refine TO.y (Y.assign rfl) rfl rfl rfl ?_
      refine TO.nil ?_
      exact TE.jb_go () [] ⟨rfl, trivial⟩ rfl
    · refine TO.off (Gd.at 3 true 10 (decide (x ≥ low)) rfl rfl rfl (beq_ft H3)) rfl rfl ?_
      refine TO.off (Gd.at 3 true 10 (decide (x ≥ low)) rfl rfl rfl (beq_ft H3)) rfl rfl ?_
      refine TO.off (Gd.at 3 true 10 (decide (x ≥ low)) rfl rfl rfl (beq_ft H3)) rfl rfl ?_
      refine TO.y (Y.pick_f H3 rfl rfl) rfl rfl rfl ?_
      refine TO.y (Y.assign rfl) rfl rfl rfl ?_
      refine TO.nil ?_
      exact TE.jb_go () [] ⟨rfl, trivial⟩ rfl
  · refine TE.next ?_
    refine TW.ret ?_
    exact TE.leaf fun _ _ hf_ hs_ => ret_any (rs := [.tmp 6]) (vs := [.bool T1]) (.inl rfl) rfl ⟨rfl, trivial⟩ hf_ hs_ ⟨(), rfl, hs_.pulls [] rfl⟩

/-- loop.example/g00950/spec.Need -/
noncomputable def spec_Need (quota : Int) : Option Int :=
  (spec_l1In quota (0 : Int) (1000 : Int)).bind fun R1 =>
  if (!R1) = true then (some (0 : Int))
  else (some (IntKind.i64.wrap ((2 : Int) + (IntKind.i64.wrap ((2 : Int) * (IntKind.i64.wrap (Int.tdiv (IntKind.i64.wrap (quota + (49 : Int))) (50 : Int))))))))

theorem spec_Need_con (quota : Int)  (r : Int) (hm : spec_Need quota = some r) :
    Con Try.prog 9 [.int .i64 quota] [] [] (fun _ : Unit => .int .i64 r) (fun _ => []) := by
  refine Con.intro (args := [.int .i64 quota]) (n := 11) (val := fun r (_ : Unit) => .int .i64 r) (post := fun _ _ => []) (m := spec_Need quota) Try.func9 rfl rfl rfl hm ?_
  intro w S _
  unfold spec_Need
  refine TW.seq ?_
  refine TW.region ?_
  refine TO.y (Y.assign rfl) rfl rfl rfl ?_
  refine TO.nil ?_
  refine TE.next ?_
  refine TW.seq ?_
  refine TW.seq ?_
  refine TW.region ?_
  refine TO.y (Y.move rfl) rfl rfl rfl ?_
  refine TO.bind fun R1 H2 => ?_
  refine TO.ef (Ef.call (rest := []) [] (spec_l1In_con quota (0 : Int) (1000 : Int)  R1 H2) kc37 rfl rfl trivial) rfl rfl rfl (fun _ => ?_)
  refine TO.y (Y.not rfl) rfl rfl rfl ?_
  refine TO.nil ?_
  refine TE.next ?_
  refine TW.cond rfl (fun H4 => ?_) (fun H4 => ?_)
  · refine TW.seq ?_
    refine TW.region ?_
    refine TO.y (Y.assign rfl) rfl rfl rfl ?_
    refine TO.nil ?_
    refine TE.next ?_
    refine TW.ret ?_
    refine TE.then_ret ?_
    exact TE.leaf fun _ _ hf_ hs_ => ret_any (rs := [.tmp 2]) (vs := [.int .i64 (0 : Int)]) (.inl rfl) rfl ⟨rfl, trivial⟩ hf_ hs_ ⟨(), rfl, hs_.pulls [] rfl⟩
  · refine TW.skip ?_
    refine TE.next ?_
    refine TW.seq ?_
    refine TW.region ?_
    refine TO.y (Y.move rfl) rfl rfl rfl ?_
    refine TO.y (Y.add rfl rfl) rfl rfl rfl ?_
    refine TO.y (Y.quo (by decide) rfl rfl) rfl rfl rfl ?_
    refine TO.y (Y.mul rfl rfl) rfl rfl rfl ?_
    refine TO.y (Y.add rfl rfl) rfl rfl rfl ?_
    refine TO.y (Y.assign rfl) rfl rfl rfl ?_
    refine TO.nil ?_
    refine TE.next ?_
    refine TW.ret ?_
    exact TE.leaf fun _ _ hf_ hs_ => ret_any (rs := [.tmp 2]) (vs := [.int .i64 (IntKind.i64.wrap ((2 : Int) + (IntKind.i64.wrap ((2 : Int) * (IntKind.i64.wrap (Int.tdiv (IntKind.i64.wrap (quota + (49 : Int))) (50 : Int)))))))]) (.inl rfl) rfl ⟨rfl, trivial⟩ hf_ hs_ ⟨(), rfl, hs_.pulls [] rfl⟩

/-- loop.example/g00950/impl.inRange -/
noncomputable def impl_inRange (n : Int) (least : Int) (most : Int) : Option Bool :=
  (if (decide (n ≥ least)) = true then (some (decide (n ≤ most)))
  else (some false)).bind (fun (T1 : Bool) =>
  some T1)

theorem impl_inRange_con (n : Int) (least : Int) (most : Int)  (r : Bool) (hm : impl_inRange n least most = some r) :
    Con Try.prog 38 [.int .i64 n, .int .i64 least, .int .i64 most] [] [] (fun _ : Unit => .bool r) (fun _ => []) := by
  refine Con.intro (args := [.int .i64 n, .int .i64 least, .int .i64 most]) (n := 15) (val := fun r (_ : Unit) => .bool r) (post := fun _ _ => []) (m := impl_inRange n least most) Try.func38 rfl rfl rfl hm ?_
  intro w S _
  unfold impl_inRange
  refine TW.seq ?_
  refine TW.region ?_
  refine TO.y (Y.assign rfl) rfl rfl rfl ?_
  refine TO.nil ?_
  refine TE.next ?_
  refine TW.seq ?_
  refine TW.joinBX (τ := Bool) (X := Unit) (fun T _ => [(6, .bool T)]) (fun _ _ => []) ?_ (fun T1 X2 => ?_)
  · refine TW.region ?_
    refine TO.y (Y.move rfl) rfl rfl rfl ?_
    refine TO.y (Y.move rfl) rfl rfl rfl ?_
    refine TO.y (Y.geq rfl rfl) rfl rfl rfl ?_
    refine TO.y (Y.move rfl) rfl rfl rfl ?_
    refine TO.ite (b := decide (n ≥ least)) (fun H3 => ?_) (fun H3 => ?_)
    · refine TO.y (Y.move rfl) (Gd.at 3 true 10 (decide (n ≥ least)) rfl rfl rfl (beq_tt H3)) rfl rfl ?_
      refine TO.y (Y.move rfl) (Gd.at 3 true 10 (decide (n ≥ least)) rfl rfl rfl (beq_tt H3)) rfl rfl ?_
      refine TO.y (Y.leq rfl rfl) (Gd.at 3 true 10 (decide (n ≥ least)) rfl rfl rfl (beq_tt H3)) rfl rfl ?_
      refine TO.y (Y.pick_t H3 rfl rfl) rfl rfl rfl ?_
      refine TO.y (Y.assign rfl) rfl rfl rfl ?_
      refine TO.nil ?_
      exact TE.jb_go () [] ⟨rfl, trivial⟩ rfl
    · refine TO.off (Gd.at 3 true 10 (decide (n ≥ least)) rfl rfl rfl (beq_ft H3)) rfl rfl ?_
      refine TO.off (Gd.at 3 true 10 (decide (n ≥ least)) rfl rfl rfl (beq_ft H3)) rfl rfl ?_
      refine TO.off (Gd.at 3 true 10 (decide (n ≥ least)) rfl rfl rfl (beq_ft H3)) rfl rfl ?_
      refine TO.y (Y.pick_f H3 rfl rfl) rfl rfl rfl ?_
      refine TO.y (Y.assign rfl) rfl rfl rfl ?_
      refine TO.nil ?_
      exact TE.jb_go () [] ⟨rfl, trivial⟩ rfl
  · refine TE.next ?_
    refine TW.ret ?_
    exact TE.leaf fun _ _ hf_ hs_ => ret_any (rs := [.tmp 6]) (vs := [.bool T1]) (.inl rfl) rfl ⟨rfl, trivial⟩ hf_ hs_ ⟨(), rfl, hs_.pulls [] rfl⟩

/-- loop.example/g00950/impl.Need -/
noncomputable def impl_Need (quota : Int) : Option Int :=
  (impl_inRange quota (0 : Int) (1000 : Int)).bind fun R1 =>
  if (!R1) = true then (some (0 : Int))
  else (some (IntKind.i64.wrap ((2 : Int) + (IntKind.i64.wrap ((2 : Int) * (IntKind.i64.wrap (Int.tdiv (IntKind.i64.wrap (IntKind.i64.wrap (quota + (50 : Int)) - (1 : Int))) (50 : Int))))))))

theorem impl_Need_con (quota : Int)  (r : Int) (hm : impl_Need quota = some r) :
    Con Try.prog 10 [.int .i64 quota] [] [] (fun _ : Unit => .int .i64 r) (fun _ => []) := by
  refine Con.intro (args := [.int .i64 quota]) (n := 12) (val := fun r (_ : Unit) => .int .i64 r) (post := fun _ _ => []) (m := impl_Need quota) Try.func10 rfl rfl rfl hm ?_
  intro w S _
  unfold impl_Need
  refine TW.seq ?_
  refine TW.region ?_
  refine TO.y (Y.assign rfl) rfl rfl rfl ?_
  refine TO.nil ?_
  refine TE.next ?_
  refine TW.seq ?_
  refine TW.seq ?_
  refine TW.region ?_
  refine TO.y (Y.move rfl) rfl rfl rfl ?_
  refine TO.bind fun R1 H2 => ?_
  refine TO.ef (Ef.call (rest := []) [] (impl_inRange_con quota (0 : Int) (1000 : Int)  R1 H2) kc38 rfl rfl trivial) rfl rfl rfl (fun _ => ?_)
  refine TO.y (Y.not rfl) rfl rfl rfl ?_
  refine TO.nil ?_
  refine TE.next ?_
  refine TW.cond rfl (fun H4 => ?_) (fun H4 => ?_)
  · refine TW.seq ?_
    refine TW.region ?_
    refine TO.y (Y.assign rfl) rfl rfl rfl ?_
    refine TO.nil ?_
    refine TE.next ?_
    refine TW.ret ?_
    refine TE.then_ret ?_
    exact TE.leaf fun _ _ hf_ hs_ => ret_any (rs := [.tmp 2]) (vs := [.int .i64 (0 : Int)]) (.inl rfl) rfl ⟨rfl, trivial⟩ hf_ hs_ ⟨(), rfl, hs_.pulls [] rfl⟩
  · refine TW.skip ?_
    refine TE.next ?_
    refine TW.seq ?_
    refine TW.region ?_
    refine TO.y (Y.move rfl) rfl rfl rfl ?_
    refine TO.y (Y.add rfl rfl) rfl rfl rfl ?_
    refine TO.y (Y.sub rfl rfl) rfl rfl rfl ?_
    refine TO.y (Y.quo (by decide) rfl rfl) rfl rfl rfl ?_
    refine TO.y (Y.mul rfl rfl) rfl rfl rfl ?_
    refine TO.y (Y.add rfl rfl) rfl rfl rfl ?_
    refine TO.y (Y.assign rfl) rfl rfl rfl ?_
    refine TO.nil ?_
    refine TE.next ?_
    refine TW.ret ?_
    exact TE.leaf fun _ _ hf_ hs_ => ret_any (rs := [.tmp 2]) (vs := [.int .i64 (IntKind.i64.wrap ((2 : Int) + (IntKind.i64.wrap ((2 : Int) * (IntKind.i64.wrap (Int.tdiv (IntKind.i64.wrap (IntKind.i64.wrap (quota + (50 : Int)) - (1 : Int))) (50 : Int)))))))]) (.inl rfl) rfl ⟨rfl, trivial⟩ hf_ hs_ ⟨(), rfl, hs_.pulls [] rfl⟩

/-- loop.example/g00950/laws.FnExactNeed -/
noncomputable def laws_FnExactNeed (aQuota : Int) : Option Bool :=
  (spec_Need aQuota).bind fun R1 =>
  (impl_Need aQuota).bind fun R4 =>
  if (!(decide (R4 = R1))) = true then (some false)
  else (some true)

theorem laws_FnExactNeed_con (aQuota : Int)  (r : Bool) (hm : laws_FnExactNeed aQuota = some r) :
    Con Try.prog 3 [.int .i64 aQuota] [] [] (fun _ : Unit => .bool r) (fun _ => []) := by
  refine Con.intro (args := [.int .i64 aQuota]) (n := 12) (val := fun r (_ : Unit) => .bool r) (post := fun _ _ => []) (m := laws_FnExactNeed aQuota) Try.func3 rfl rfl rfl hm ?_
  intro w S _
  unfold laws_FnExactNeed
  refine TW.seq ?_
  refine TW.region ?_
  refine TO.y (Y.assign rfl) rfl rfl rfl ?_
  refine TO.nil ?_
  refine TE.next ?_
  refine TW.seq ?_
  refine TW.region ?_
  refine TO.y (Y.move rfl) rfl rfl rfl ?_
  refine TO.bind fun R1 H2 => ?_
  refine TO.ef (Ef.call (rest := []) [] (spec_Need_con aQuota  R1 H2) kc9 rfl rfl trivial) rfl rfl rfl (fun _ => ?_)
  refine TO.y (Y.assign rfl) rfl rfl rfl ?_
  refine TO.nil ?_
  refine TE.next ?_
  refine TW.seq ?_
  refine TW.region ?_
  refine TO.y (Y.move rfl) rfl rfl rfl ?_
  refine TO.bind fun R4 H5 => ?_
  refine TO.ef (Ef.call (rest := []) [] (impl_Need_con aQuota  R4 H5) kc10 rfl rfl trivial) rfl rfl rfl (fun _ => ?_)
  refine TO.y (Y.assign rfl) rfl rfl rfl ?_
  refine TO.nil ?_
  refine TE.next ?_
  refine TW.seq ?_
  refine TW.seq ?_
  refine TW.region ?_
  refine TO.y (Y.move rfl) rfl rfl rfl ?_
  refine TO.y (Y.move rfl) rfl rfl rfl ?_
  refine TO.y (Y.neq rfl rfl) rfl rfl rfl ?_
  refine TO.nil ?_
  refine TE.next ?_
  refine TW.cond rfl (fun H7 => ?_) (fun H7 => ?_)
  · refine TW.seq ?_
    refine TW.region ?_
    refine TO.y (Y.assign rfl) rfl rfl rfl ?_
    refine TO.nil ?_
    refine TE.next ?_
    refine TW.ret ?_
    refine TE.then_ret ?_
    exact TE.leaf fun _ _ hf_ hs_ => ret_any (rs := [.tmp 2]) (vs := [.bool false]) (.inl rfl) rfl ⟨rfl, trivial⟩ hf_ hs_ ⟨(), rfl, hs_.pulls [] rfl⟩
  · refine TW.skip ?_
    refine TE.next ?_
    refine TW.seq ?_
    refine TW.region ?_
    refine TO.y (Y.assign rfl) rfl rfl rfl ?_
    refine TO.nil ?_
    refine TE.next ?_
    refine TW.ret ?_
    exact TE.leaf fun _ _ hf_ hs_ => ret_any (rs := [.tmp 2]) (vs := [.bool true]) (.inl rfl) rfl ⟨rfl, trivial⟩ hf_ hs_ ⟨(), rfl, hs_.pulls [] rfl⟩

/-- loop.example/g00950/laws.szIntS -/
noncomputable def laws_szIntS (a : List Int) (left : Int) : Option Int :=
  if (decide (IntKind.i64.wrap (left - ((a.length : Nat) : Int)) < (0 : Int))) = true then (some (-1 : Int))
  else (some (IntKind.i64.wrap (left - ((a.length : Nat) : Int))))

theorem laws_szIntS_con (a : List Int) (left : Int) (V_a0 : Value) (r : Int) (hm : laws_szIntS a left = some r) :
    Con Try.prog 39 [V_a0, .int .i64 left] [] [(V_a0, lc 3 a)] (fun _ : Unit => .int .i64 r) (fun _ => []) := by
  refine Con.intro (args := [V_a0, .int .i64 left]) (n := 12) (val := fun r (_ : Unit) => .int .i64 r) (post := fun _ _ => []) (m := laws_szIntS a left) Try.func39 rfl rfl rfl hm ?_
  intro w S hrd
  have HB_V_a0 := hrd _ (.head _)
  clear hrd
  unfold laws_szIntS
  refine TW.seq ?_
  refine TW.region ?_
  refine TO.y (Y.assign rfl) rfl rfl rfl ?_
  refine TO.nil ?_
  refine TE.next ?_
  refine TW.seq ?_
  refine TW.region ?_
  refine TO.y (Y.move rfl) rfl rfl rfl ?_
  refine TO.y (Y.move rfl) rfl rfl rfl ?_
  refine TO.y (Y.len (l := a) ke24 (Base.can HB_V_a0) rfl) rfl rfl rfl ?_
  refine TO.y (Y.sub rfl rfl) rfl rfl rfl ?_
  refine TO.y (Y.assign rfl) rfl rfl rfl ?_
  refine TO.nil ?_
  refine TE.next ?_
  refine TW.seq ?_
  refine TW.seq ?_
  refine TW.region ?_
  refine TO.y (Y.move rfl) rfl rfl rfl ?_
  refine TO.y (Y.lss rfl rfl) rfl rfl rfl ?_
  refine TO.nil ?_
  refine TE.next ?_
  refine TW.cond rfl (fun H1 => ?_) (fun H1 => ?_)
  · refine TW.seq ?_
    refine TW.region ?_
    refine TO.y (Y.assign rfl) rfl rfl rfl ?_
    refine TO.nil ?_
    refine TE.next ?_
    refine TW.ret ?_
    refine TE.then_ret ?_
    exact TE.leaf fun _ _ hf_ hs_ => ret_any (rs := [.tmp 4]) (vs := [.int .i64 (-1 : Int)]) (.inl rfl) rfl ⟨rfl, trivial⟩ hf_ hs_ ⟨(), rfl, hs_.pulls [] rfl⟩
  · refine TW.skip ?_
    refine TE.next ?_
    refine TW.seq ?_
    refine TW.region ?_
    refine TO.y (Y.move rfl) rfl rfl rfl ?_
    refine TO.y (Y.assign rfl) rfl rfl rfl ?_
    refine TO.nil ?_
    refine TE.next ?_
    refine TW.ret ?_
    exact TE.leaf fun _ _ hf_ hs_ => ret_any (rs := [.tmp 4]) (vs := [.int .i64 (IntKind.i64.wrap (left - ((a.length : Nat) : Int)))]) (.inl rfl) rfl ⟨rfl, trivial⟩ hf_ hs_ ⟨(), rfl, hs_.pulls [] rfl⟩

/-- loop.example/g00950/laws.szSpace -/
noncomputable def laws_szSpace (a : Space) (left : Int) : Option Int :=
  (laws_szIntS a.Owner left).bind fun R2 =>
  if (decide (R2 < (0 : Int))) = true then (some (-1 : Int))
  else (some R2)

theorem laws_szSpace_con (a : Space) (left : Int) (V_a0 : Value) (r : Int) (hm : laws_szSpace a left = some r) :
    Con Try.prog 11 [.agg #[V_a0], .int .i64 left] [] [(V_a0, lc 3 a.Owner)] (fun _ : Unit => .int .i64 r) (fun _ => []) := by
  refine Con.intro (args := [.agg #[V_a0], .int .i64 left]) (n := 12) (val := fun r (_ : Unit) => .int .i64 r) (post := fun _ _ => []) (m := laws_szSpace a left) Try.func11 rfl rfl rfl hm ?_
  intro w S hrd
  have HB_V_a0 := hrd _ (.head _)
  clear hrd
  unfold laws_szSpace
  refine TW.seq ?_
  refine TW.region ?_
  refine TO.ef (Ef.box rfl (Cel.agg ⟨(One.can (Base.can HB_V_a0)), trivial⟩)) rfl rfl rfl (fun B1 => ?_)
  refine TO.y (Y.assign rfl) rfl rfl rfl ?_
  refine TO.nil ?_
  refine TE.next ?_
  refine TW.seq ?_
  refine TW.region ?_
  refine TO.y (Y.field_box kf26_0 rfl rfl) rfl rfl rfl ?_
  refine TO.y (Y.load_box (v := V_a0) 0 kk24 rfl rfl rfl) rfl rfl rfl ?_
  refine TO.y (Y.move rfl) rfl rfl rfl ?_
  refine TO.bind fun R2 H3 => ?_
  refine TO.ef (Ef.call (rest := [.box B1 26 [V_a0]]) [0] (laws_szIntS_con a.Owner left V_a0 R2 H3) kc39 rfl rfl ⟨(Base.can HB_V_a0), trivial⟩) rfl rfl rfl (fun _ => ?_)
  refine TO.y (Y.assign rfl) rfl rfl rfl ?_
  refine TO.nil ?_
  refine TE.next ?_
  refine TW.seq ?_
  refine TW.seq ?_
  refine TW.region ?_
  refine TO.y (Y.move rfl) rfl rfl rfl ?_
  refine TO.y (Y.lss rfl rfl) rfl rfl rfl ?_
  refine TO.nil ?_
  refine TE.next ?_
  refine TW.cond rfl (fun H5 => ?_) (fun H5 => ?_)
  · refine TW.seq ?_
    refine TW.region ?_
    refine TO.y (Y.assign rfl) rfl rfl rfl ?_
    refine TO.nil ?_
    refine TE.next ?_
    refine TW.ret ?_
    refine TE.then_ret ?_
    exact TE.leaf fun _ _ hf_ hs_ => ret_any (rs := [.tmp 4]) (vs := [.int .i64 (-1 : Int)]) (.inl rfl) rfl ⟨rfl, trivial⟩ hf_ hs_ ⟨(), rfl, hs_.pulls [] rfl⟩
  · refine TW.skip ?_
    refine TE.next ?_
    refine TW.seq ?_
    refine TW.region ?_
    refine TO.y (Y.move rfl) rfl rfl rfl ?_
    refine TO.y (Y.assign rfl) rfl rfl rfl ?_
    refine TO.nil ?_
    refine TE.next ?_
    refine TW.ret ?_
    exact TE.leaf fun _ _ hf_ hs_ => ret_any (rs := [.tmp 4]) (vs := [.int .i64 R2]) (.inl rfl) rfl ⟨rfl, trivial⟩ hf_ hs_ ⟨(), rfl, hs_.pulls [] rfl⟩

/-- loop.example/g00950/laws.toIntS -/
noncomputable def laws_toIntS (a : List Int) : Option (List Int) :=
  (mkLen 8 ((a.length : Nat) : Int)).bind fun E2 =>
  bindC (loopO (fun (S4 : Int × List Int) => if (decide (S4.1 < ((a.length : Nat) : Int))) = true then ((idx a S4.1).bind fun E9 =>
  (idx S4.2 S4.1).bind fun E11 =>
  some (.go (IntKind.i64.wrap (S4.1 + (1 : Int)), (S4.2.set S4.1.toNat E9))))
  else (some (.done (.go S4.2))))
  ((0 : Int), (List.replicate E2 (0 : Int))))
  (fun (T6 : List Int) => some T6)

theorem laws_toIntS_con (a : List Int) (V_a0 : Value) (r : List Int) (hm : laws_toIntS a = some r) :
    Con Try.prog 27 [V_a0] [] [(V_a0, lc 3 a)] (fun X : Value => X) (fun X => [.own X (lc 3 r)]) := by
  refine Con.intro (args := [V_a0]) (n := 22) (val := fun _ (X : Value) => X) (post := fun r X => [.own X (lc 3 r)]) (m := laws_toIntS a) Try.func27 rfl rfl rfl hm ?_
  intro w S hrd
  have HB_V_a0 := hrd _ (.head _)
  clear hrd
  unfold laws_toIntS
  refine TW.seq ?_
  refine TW.region ?_
  refine TO.y (Y.assign rfl) rfl rfl rfl ?_
  refine TO.nil ?_
  refine TE.next ?_
  refine TW.seq ?_
  refine TW.region ?_
  refine TO.y (Y.move rfl) rfl rfl rfl ?_
  refine TO.y (Y.len (l := a) ke24 (Base.can HB_V_a0) rfl) rfl rfl rfl ?_
  refine TO.bind fun E2 H3 => ?_
  refine TO.ef (Ef.make (α := Int) (z := (0 : Int)) H3 ke24 kz3 rfl rfl rfl rfl) rfl rfl rfl (fun V1 => ?_)
  refine TO.y (Y.assign rfl) rfl rfl rfl ?_
  refine TO.nil ?_
  refine TE.next ?_
  refine TW.seq ?_
  refine TW.seq ?_
  refine TW.region ?_
  refine TO.y (Y.assign rfl) rfl rfl rfl ?_
  refine TO.nil ?_
  refine TE.next ?_
  refine TW.joinX (τ := List Int) (X := Unit) (fun _ _ => [(3, V1)]) (fun T _ => [.own V1 (lc 3 T)]) ?_ (fun T6 X7 => ?_)
  · refine TW.block ?_
    refine TW.loopX (σ := Int × List Int) (X := Unit) (fun T _ => [(0, V_a0), (3, V1), (4, .int .i64 T.1)]) (fun T _ => [.own V1 (lc 3 T.2)]) () [0] ⟨rfl, rfl, rfl, trivial⟩ rfl (fun S4 X5 => ?_)
    refine TW.seq ?_
    refine TW.seq ?_
    refine TW.region ?_
    refine TO.y (Y.move rfl) rfl rfl rfl ?_
    refine TO.y (Y.move rfl) rfl rfl rfl ?_
    refine TO.y (Y.len (l := a) ke24 (Base.can HB_V_a0) rfl) rfl rfl rfl ?_
    refine TO.y (Y.lss rfl rfl) rfl rfl rfl ?_
    refine TO.nil ?_
    refine TE.next ?_
    refine TW.cond rfl (fun H8 => ?_) (fun H8 => ?_)
    · refine TW.skip ?_
      refine TE.next ?_
      refine TW.seq ?_
      refine TW.block ?_
      refine TW.region ?_
      refine TO.y (Y.move rfl) rfl rfl rfl ?_
      refine TO.y (Y.move rfl) rfl rfl rfl ?_
      refine TO.y (Y.move rfl) rfl rfl rfl ?_
      refine TO.y (Y.move rfl) rfl rfl rfl ?_
      refine TO.bind fun E9 H10 => ?_
      refine TO.y (Y.index ke24 (Base.can HB_V_a0) H10 rfl rfl) rfl rfl rfl ?_
      refine TO.y (Y.load_el (us := [.int .i64 E9]) (u := .int .i64 E9) kk3 rfl (Base.can HB_V_a0) (idx_get H10).2.2 rfl rfl rfl rfl rfl) rfl rfl rfl ?_
      refine TO.bind fun E11 H12 => ?_
      refine TO.y (Y.index ke24 (Can.own 0 rfl) H12 rfl rfl) rfl rfl rfl ?_
      refine TO.ef0 (Ef.store_el (us := [.int .i64 E9]) (is' := [.own V1 (lc 3 (S4.2.set S4.1.toNat E9))]) E9 0 kk3 rfl rfl (idx_get H12).2.2 rfl rfl (Cel.plain rfl rfl) rfl rfl rfl rfl) rfl rfl (fun _ => ?_)
      refine TO.nil ?_
      refine TE.block_normal ?_
      refine TE.next ?_
      refine TW.region ?_
      refine TO.y (Y.move rfl) rfl rfl rfl ?_
      refine TO.y (Y.add rfl rfl) rfl rfl rfl ?_
      refine TO.y (Y.assign rfl) rfl rfl rfl ?_
      refine TO.nil ?_
      exact TE.lp_go () [0] ⟨rfl, rfl, rfl, trivial⟩ rfl
    · refine TW.exit ?_
      refine TE.then_exit ?_
      refine TE.lp_exit ?_
      refine TE.block_exit ?_
      exact TE.jn_go () [0] ⟨rfl, trivial⟩ rfl
  · refine TE.next ?_
    refine TW.seq ?_
    refine TW.region ?_
    refine TO.y (Y.move rfl) rfl rfl rfl ?_
    refine TO.y (Y.assign rfl) rfl rfl rfl ?_
    refine TO.nil ?_
    refine TE.next ?_
    refine TW.ret ?_
    exact TE.leaf fun _ _ hf_ hs_ => ret_any (rs := [.tmp 2]) (vs := [V1]) (.inl rfl) rfl ⟨rfl, trivial⟩ hf_ hs_ ⟨V1, rfl, hs_.pulls [0] rfl⟩

/-- loop.example/g00950/laws.toSpace -/
noncomputable def laws_toSpace (a : Space) : Option Space :=
  (laws_toIntS a.Owner).bind fun R4 =>
  some ({ Owner := R4 : Space })

theorem laws_toSpace_con (a : Space) (V_a0 : Value) (r : Space) (hm : laws_toSpace a = some r) :
    Con Try.prog 13 [.agg #[V_a0]] [] [(V_a0, lc 3 a.Owner)] (fun X : Value => .agg #[X]) (fun X => [.own X (lc 3 r.Owner)]) := by
  refine Con.intro (args := [.agg #[V_a0]]) (n := 9) (val := fun _ (X : Value) => .agg #[X]) (post := fun r X => [.own X (lc 3 r.Owner)]) (m := laws_toSpace a) Try.func13 rfl rfl rfl hm ?_
  intro w S hrd
  have HB_V_a0 := hrd _ (.head _)
  clear hrd
  unfold laws_toSpace
  refine TW.seq ?_
  refine TW.region ?_
  refine TO.ef (Ef.box rfl (Cel.agg ⟨(One.can (Base.can HB_V_a0)), trivial⟩)) rfl rfl rfl (fun B1 => ?_)
  refine TO.ef (Ef.alloc kz29 rfl) rfl rfl rfl (fun B2 => ?_)
  refine TO.nil ?_
  refine TE.next ?_
  refine TW.seq ?_
  refine TW.region ?_
  refine TO.ef (Ef.alloc kz29 rfl) rfl rfl rfl (fun B3 => ?_)
  refine TO.nil ?_
  refine TE.next ?_
  refine TW.seq ?_
  refine TW.region ?_
  refine TO.y (Y.field_box kf26_0 rfl rfl) rfl rfl rfl ?_
  refine TO.y (Y.load_box (v := V_a0) 2 kk24 rfl rfl rfl) rfl rfl rfl ?_
  refine TO.bind fun R4 H5 => ?_
  refine TO.ef (Ef.call (rest := [.box B3 29 [.slice none 0 0], .box B2 29 [.slice none 0 0], .box B1 26 [V_a0]]) [0, 0, 0] (laws_toIntS_con a.Owner V_a0 R4 H5) kc27 rfl rfl ⟨(Base.can HB_V_a0), trivial⟩) rfl rfl rfl (fun Y6 => ?_)
  refine TO.y (Y.field_box kf29_0 rfl rfl) rfl rfl rfl ?_
  refine TO.ef0 (Ef.store_box (us := [Y6]) (vs' := [Y6]) (is' := [.own Y6 (lc 3 R4), .box B3 29 [Y6], .box B2 29 [.slice none 0 0], .box B1 26 [V_a0]]) 1 kk24 rfl rfl rfl (Cel.one (One.can (Can.own 0 rfl))) rfl rfl rfl rfl) rfl rfl (fun _ => ?_)
  refine TO.nil ?_
  refine TE.next ?_
  refine TW.seq ?_
  refine TW.region ?_
  refine TO.y (Y.load_box (v := .agg #[Y6]) 1 kk29 rfl rfl rfl) rfl rfl rfl ?_
  refine TO.ef0 (Ef.store_box (us := [Y6]) (vs' := [Y6]) (is' := [.own Y6 (lc 3 R4), .box B3 29 [Y6], .box B2 29 [Y6], .box B1 26 [V_a0]]) 2 kk29 rfl rfl rfl (Cel.agg ⟨(One.can (Can.own 0 rfl)), trivial⟩) rfl rfl rfl rfl) rfl rfl (fun _ => ?_)
  refine TO.nil ?_
  refine TE.next ?_
  refine TW.ret ?_
  exact TE.leaf fun _ _ hf_ hs_ => ret_any (rs := [.cell 2 29]) (vs := [.agg #[Y6]]) (.inl rfl) rfl (RV.cell 2 rfl rfl kk29 rfl trivial) hf_ hs_ ⟨Y6, rfl, hs_.pulls [0] rfl⟩

/-- loop.example/g00950/spec.SpaceOk -/
noncomputable def spec_SpaceOk (s : Space) : Option Bool :=
  (spec_l1In ((s.Owner.length : Nat) : Int) (1 : Int) (40 : Int)).bind fun R2 =>
  if (!R2) = true then (some false)
  else (bindC (loopO (fun (S6 : Int) => if (decide (S6 < ((s.Owner.length : Nat) : Int))) = true then ((idx s.Owner S6).bind fun E11 =>
  (spec_l1In E11 (0 : Int) (99 : Int)).bind fun R13 =>
  if (!R13) = true then (some (.done (.done false)))
  else (some (.go (IntKind.i64.wrap (S6 + (1 : Int))))))
  else (some (.done (.go ()))))
  (0 : Int))
  (fun (T8 : Unit) => some true))

theorem spec_SpaceOk_con (s : Space) (V_s0 : Value) (r : Bool) (hm : spec_SpaceOk s = some r) :
    Con Try.prog 12 [.agg #[V_s0]] [] [(V_s0, lc 3 s.Owner)] (fun _ : Unit => .bool r) (fun _ => []) := by
  refine Con.intro (args := [.agg #[V_s0]]) (n := 23) (val := fun r (_ : Unit) => .bool r) (post := fun _ _ => []) (m := spec_SpaceOk s) Try.func12 rfl rfl rfl hm ?_
  intro w S hrd
  have HB_V_s0 := hrd _ (.head _)
  clear hrd
  unfold spec_SpaceOk
  refine TW.seq ?_
  refine TW.region ?_
  refine TO.ef (Ef.box rfl (Cel.agg ⟨(One.can (Base.can HB_V_s0)), trivial⟩)) rfl rfl rfl (fun B1 => ?_)
  refine TO.y (Y.assign rfl) rfl rfl rfl ?_
  refine TO.nil ?_
  refine TE.next ?_
  refine TW.seq ?_
  refine TW.seq ?_
  refine TW.region ?_
  refine TO.y (Y.field_box kf29_0 rfl rfl) rfl rfl rfl ?_
  refine TO.y (Y.load_box (v := V_s0) 0 kk24 rfl rfl rfl) rfl rfl rfl ?_
  refine TO.y (Y.len (l := s.Owner) ke24 (Base.can HB_V_s0) rfl) rfl rfl rfl ?_
  refine TO.bind fun R2 H3 => ?_
  refine TO.ef (Ef.call (rest := [.box B1 29 [V_s0]]) [0] (spec_l1In_con ((s.Owner.length : Nat) : Int) (1 : Int) (40 : Int)  R2 H3) kc37 rfl rfl trivial) rfl rfl rfl (fun _ => ?_)
  refine TO.y (Y.not rfl) rfl rfl rfl ?_
  refine TO.nil ?_
  refine TE.next ?_
  refine TW.cond rfl (fun H5 => ?_) (fun H5 => ?_)
  · refine TW.seq ?_
    refine TW.region ?_
    refine TO.y (Y.assign rfl) rfl rfl rfl ?_
    refine TO.nil ?_
    refine TE.next ?_
    refine TW.ret ?_
    refine TE.then_ret ?_
    exact TE.leaf fun _ _ hf_ hs_ => ret_any (rs := [.tmp 2]) (vs := [.bool false]) (.inl rfl) rfl ⟨rfl, trivial⟩ hf_ hs_ ⟨(), rfl, hs_.pulls [] rfl⟩
  · refine TW.skip ?_
    refine TE.next ?_
    refine TW.seq ?_
    refine TW.seq ?_
    refine TW.region ?_
    refine TO.y (Y.assign rfl) rfl rfl rfl ?_
    refine TO.nil ?_
    refine TE.next ?_
    refine TW.joinX (τ := Unit) (X := Unit) (fun _ _ => []) (fun _ _ => []) ?_ (fun T8 X9 => ?_)
    · refine TW.block ?_
      refine TW.loopX (σ := Int) (X := Unit) (fun T _ => [(1, .pointer (some ⟨B1, 0, none⟩)), (3, .int .i64 T)]) (fun _ _ => [.box B1 29 [V_s0]]) () [0] ⟨rfl, rfl, trivial⟩ rfl (fun S6 X7 => ?_)
      refine TW.seq ?_
      refine TW.seq ?_
      refine TW.region ?_
      refine TO.y (Y.move rfl) rfl rfl rfl ?_
      refine TO.y (Y.field_box kf29_0 rfl rfl) rfl rfl rfl ?_
      refine TO.y (Y.load_box (v := V_s0) 0 kk24 rfl rfl rfl) rfl rfl rfl ?_
      refine TO.y (Y.len (l := s.Owner) ke24 (Base.can HB_V_s0) rfl) rfl rfl rfl ?_
      refine TO.y (Y.lss rfl rfl) rfl rfl rfl ?_
      refine TO.nil ?_
      refine TE.next ?_
      refine TW.cond rfl (fun H10 => ?_) (fun H10 => ?_)
      · refine TW.skip ?_
        refine TE.next ?_
        refine TW.seq ?_
        refine TW.block ?_
        refine TW.seq ?_
        refine TW.region ?_
        refine TO.y (Y.field_box kf29_0 rfl rfl) rfl rfl rfl ?_
        refine TO.y (Y.load_box (v := V_s0) 0 kk24 rfl rfl rfl) rfl rfl rfl ?_
        refine TO.y (Y.move rfl) rfl rfl rfl ?_
        refine TO.bind fun E11 H12 => ?_
        refine TO.y (Y.index ke24 (Base.can HB_V_s0) H12 rfl rfl) rfl rfl rfl ?_
        refine TO.y (Y.load_el (us := [.int .i64 E11]) (u := .int .i64 E11) kk3 rfl (Base.can HB_V_s0) (idx_get H12).2.2 rfl rfl rfl rfl rfl) rfl rfl rfl ?_
        refine TO.bind fun R13 H14 => ?_
        refine TO.ef (Ef.call (rest := [.box B1 29 [V_s0]]) [0] (spec_l1In_con E11 (0 : Int) (99 : Int)  R13 H14) kc37 rfl rfl trivial) rfl rfl rfl (fun _ => ?_)
        refine TO.y (Y.not rfl) rfl rfl rfl ?_
        refine TO.nil ?_
        refine TE.next ?_
        refine TW.cond rfl (fun H16 => ?_) (fun H16 => ?_)
        · refine TW.seq ?_
          refine TW.region ?_
          refine TO.y (Y.assign rfl) rfl rfl rfl ?_
          refine TO.nil ?_
          refine TE.next ?_
          refine TW.ret ?_
          refine TE.block_ret ?_
          refine TE.then_ret ?_
          refine TE.lp_ret ?_
          refine TE.block_ret ?_
          refine TE.jn_done ?_
          refine TE.then_ret ?_
          exact TE.leaf fun _ _ hf_ hs_ => ret_any (rs := [.tmp 2]) (vs := [.bool false]) (.inl rfl) rfl ⟨rfl, trivial⟩ hf_ hs_ ⟨(), rfl, hs_.pulls [] rfl⟩
        · refine TW.skip ?_
          refine TE.block_normal ?_
          refine TE.next ?_
          refine TW.region ?_
          refine TO.y (Y.move rfl) rfl rfl rfl ?_
          refine TO.y (Y.add rfl rfl) rfl rfl rfl ?_
          refine TO.y (Y.assign rfl) rfl rfl rfl ?_
          refine TO.nil ?_
          exact TE.lp_go () [0] ⟨rfl, rfl, trivial⟩ rfl
      · refine TW.exit ?_
        refine TE.then_exit ?_
        refine TE.lp_exit ?_
        refine TE.block_exit ?_
        exact TE.jn_go () [] trivial rfl
    · refine TE.next ?_
      refine TW.seq ?_
      refine TW.region ?_
      refine TO.y (Y.assign rfl) rfl rfl rfl ?_
      refine TO.nil ?_
      refine TE.next ?_
      refine TW.ret ?_
      exact TE.leaf fun _ _ hf_ hs_ => ret_any (rs := [.tmp 2]) (vs := [.bool true]) (.inl rfl) rfl ⟨rfl, trivial⟩ hf_ hs_ ⟨(), rfl, hs_.pulls [] rfl⟩

/-- loop.example/g00950/impl.SpaceOk -/
noncomputable def impl_SpaceOk (s : Space) : Option Bool :=
  bindC (loopO (fun (S2 : Int) => if (decide (S2 < ((s.Owner.length : Nat) : Int))) = true then ((idx s.Owner S2).bind fun E7 =>
  (impl_inRange E7 (0 : Int) (99 : Int)).bind fun R9 =>
  if (!R9) = true then (some (.done (.done false)))
  else (some (.go (IntKind.i64.wrap (S2 + (1 : Int))))))
  else (some (.done (.go ()))))
  (0 : Int))
  (fun (T4 : Unit) => (impl_inRange ((s.Owner.length : Nat) : Int) (1 : Int) (40 : Int)).bind fun R13 =>
  some R13)

theorem impl_SpaceOk_con (s : Space) (V_s0 : Value) (r : Bool) (hm : impl_SpaceOk s = some r) :
    Con Try.prog 14 [.agg #[V_s0]] [] [(V_s0, lc 3 s.Owner)] (fun _ : Unit => .bool r) (fun _ => []) := by
  refine Con.intro (args := [.agg #[V_s0]]) (n := 20) (val := fun r (_ : Unit) => .bool r) (post := fun _ _ => []) (m := impl_SpaceOk s) Try.func14 rfl rfl rfl hm ?_
  intro w S hrd
  have HB_V_s0 := hrd _ (.head _)
  clear hrd
  unfold impl_SpaceOk
  refine TW.seq ?_
  refine TW.region ?_
  refine TO.ef (Ef.box rfl (Cel.agg ⟨(One.can (Base.can HB_V_s0)), trivial⟩)) rfl rfl rfl (fun B1 => ?_)
  refine TO.y (Y.assign rfl) rfl rfl rfl ?_
  refine TO.nil ?_
  refine TE.next ?_
  refine TW.seq ?_
  refine TW.seq ?_
  refine TW.region ?_
  refine TO.y (Y.field_box kf29_0 rfl rfl) rfl rfl rfl ?_
  refine TO.y (Y.load_box (v := V_s0) 0 kk24 rfl rfl rfl) rfl rfl rfl ?_
  refine TO.y (Y.len (l := s.Owner) ke24 (Base.can HB_V_s0) rfl) rfl rfl rfl ?_
  refine TO.y (Y.move rfl) rfl rfl rfl ?_
  refine TO.nil ?_
  refine TE.next ?_
  refine TW.joinX (τ := Unit) (X := Unit) (fun _ _ => [(1, .pointer (some ⟨B1, 0, none⟩))]) (fun _ _ => [.box B1 29 [V_s0]]) ?_ (fun T4 X5 => ?_)
  · refine TW.block ?_
    refine TW.loopX (σ := Int) (X := Unit) (fun T _ => [(1, .pointer (some ⟨B1, 0, none⟩)), (6, V_s0), (7, .int .i64 ((s.Owner.length : Nat) : Int)), (8, .int .i64 T)]) (fun _ _ => [.box B1 29 [V_s0]]) () [0] ⟨rfl, rfl, rfl, rfl, trivial⟩ rfl (fun S2 X3 => ?_)
    refine TW.seq ?_
    refine TW.region ?_
    refine TO.y (Y.lss rfl rfl) rfl rfl rfl ?_
    refine TO.nil ?_
    refine TE.next ?_
    refine TW.seq ?_
    refine TW.cond rfl (fun H6 => ?_) (fun H6 => ?_)
    · refine TW.skip ?_
      refine TE.next ?_
      refine TW.seq ?_
      refine TW.block ?_
      refine TW.seq ?_
      refine TW.region ?_
      refine TO.bind fun E7 H8 => ?_
      refine TO.y (Y.index ke24 (Base.can HB_V_s0) H8 rfl rfl) rfl rfl rfl ?_
      refine TO.y (Y.load_el (us := [.int .i64 E7]) (u := .int .i64 E7) kk3 rfl (Base.can HB_V_s0) (idx_get H8).2.2 rfl rfl rfl rfl rfl) rfl rfl rfl ?_
      refine TO.y (Y.assign rfl) rfl rfl rfl ?_
      refine TO.nil ?_
      refine TE.next ?_
      refine TW.seq ?_
      refine TW.region ?_
      refine TO.y (Y.move rfl) rfl rfl rfl ?_
      refine TO.bind fun R9 H10 => ?_
      refine TO.ef (Ef.call (rest := [.box B1 29 [V_s0]]) [0] (impl_inRange_con E7 (0 : Int) (99 : Int)  R9 H10) kc38 rfl rfl trivial) rfl rfl rfl (fun _ => ?_)
      refine TO.y (Y.not rfl) rfl rfl rfl ?_
      refine TO.nil ?_
      refine TE.next ?_
      refine TW.cond rfl (fun H12 => ?_) (fun H12 => ?_)
      · refine TW.seq ?_
        refine TW.region ?_
        refine TO.y (Y.assign rfl) rfl rfl rfl ?_
        refine TO.nil ?_
        refine TE.next ?_
        refine TW.ret ?_
        refine TE.block_ret ?_
        refine TE.then_ret ?_
        refine TE.lp_ret ?_
        refine TE.block_ret ?_
        refine TE.jn_done ?_
        refine TE.then_ret ?_
        exact TE.leaf fun _ _ hf_ hs_ => ret_any (rs := [.tmp 2]) (vs := [.bool false]) (.inl rfl) rfl ⟨rfl, trivial⟩ hf_ hs_ ⟨(), rfl, hs_.pulls [] rfl⟩
      · refine TW.skip ?_
        refine TE.block_normal ?_
        refine TE.next ?_
        refine TW.region ?_
        refine TO.y (Y.add rfl rfl) rfl rfl rfl ?_
        refine TO.y (Y.move rfl) rfl rfl rfl ?_
        refine TO.nil ?_
        exact TE.lp_go () [0] ⟨rfl, rfl, rfl, rfl, trivial⟩ rfl
    · refine TW.exit ?_
      refine TE.then_exit ?_
      refine TE.lp_exit ?_
      refine TE.block_exit ?_
      exact TE.jn_go () [0] ⟨rfl, trivial⟩ rfl
  · refine TE.next ?_
    refine TW.seq ?_
    refine TW.region ?_
    refine TO.y (Y.field_box kf29_0 rfl rfl) rfl rfl rfl ?_
    refine TO.y (Y.load_box (v := V_s0) 0 kk24 rfl rfl rfl) rfl rfl rfl ?_
    refine TO.y (Y.len (l := s.Owner) ke24 (Base.can HB_V_s0) rfl) rfl rfl rfl ?_
    refine TO.bind fun R13 H14 => ?_
    refine TO.ef (Ef.call (rest := [.box B1 29 [V_s0]]) [0] (impl_inRange_con ((s.Owner.length : Nat) : Int) (1 : Int) (40 : Int)  R13 H14) kc38 rfl rfl trivial) rfl rfl rfl (fun _ => ?_)
    refine TO.y (Y.assign rfl) rfl rfl rfl ?_
    refine TO.nil ?_
    refine TE.next ?_
    refine TW.ret ?_
    exact TE.leaf fun _ _ hf_ hs_ => ret_any (rs := [.tmp 2]) (vs := [.bool R13]) (.inl rfl) rfl ⟨rfl, trivial⟩ hf_ hs_ ⟨(), rfl, hs_.pulls [] rfl⟩

/-- loop.example/g00950/laws.eqIntS -/
noncomputable def laws_eqIntS (a : List Int) (b : List Int) : Option Bool :=
  if (!(decide (((a.length : Nat) : Int) = ((b.length : Nat) : Int)))) = true then (some false)
  else (bindC (loopO (fun (S2 : Int) => if (decide (S2 < ((a.length : Nat) : Int))) = true then ((idx a S2).bind fun E7 =>
  (idx b S2).bind fun E9 =>
  if (!(decide (E7 = E9))) = true then (some (.done (.done false)))
  else (some (.go (IntKind.i64.wrap (S2 + (1 : Int))))))
  else (some (.done (.go ()))))
  (0 : Int))
  (fun (T4 : Unit) => some true))

theorem laws_eqIntS_con (a : List Int) (b : List Int) (V_a0 : Value) (V_b0 : Value) (r : Bool) (hm : laws_eqIntS a b = some r) :
    Con Try.prog 29 [V_a0, V_b0] [] [(V_a0, lc 3 a), (V_b0, lc 3 b)] (fun _ : Unit => .bool r) (fun _ => []) := by
  refine Con.intro (args := [V_a0, V_b0]) (n := 26) (val := fun r (_ : Unit) => .bool r) (post := fun _ _ => []) (m := laws_eqIntS a b) Try.func29 rfl rfl rfl hm ?_
  intro w S hrd
  have HB_V_a0 := hrd _ (.head _)
  have HB_V_b0 := hrd _ (.tail _ (.head _))
  clear hrd
  unfold laws_eqIntS
  refine TW.seq ?_
  refine TW.region ?_
  refine TO.y (Y.assign rfl) rfl rfl rfl ?_
  refine TO.nil ?_
  refine TE.next ?_
  refine TW.seq ?_
  refine TW.seq ?_
  refine TW.region ?_
  refine TO.y (Y.move rfl) rfl rfl rfl ?_
  refine TO.y (Y.len (l := a) ke24 (Base.can HB_V_a0) rfl) rfl rfl rfl ?_
  refine TO.y (Y.move rfl) rfl rfl rfl ?_
  refine TO.y (Y.len (l := b) ke24 (Base.can HB_V_b0) rfl) rfl rfl rfl ?_
  refine TO.y (Y.neq rfl rfl) rfl rfl rfl ?_
  refine TO.nil ?_
  refine TE.next ?_
  refine TW.cond rfl (fun H1 => ?_) (fun H1 => ?_)
  · refine TW.seq ?_
    refine TW.region ?_
    refine TO.y (Y.assign rfl) rfl rfl rfl ?_
    refine TO.nil ?_
    refine TE.next ?_
    refine TW.ret ?_
    refine TE.then_ret ?_
    exact TE.leaf fun _ _ hf_ hs_ => ret_any (rs := [.tmp 4]) (vs := [.bool false]) (.inl rfl) rfl ⟨rfl, trivial⟩ hf_ hs_ ⟨(), rfl, hs_.pulls [] rfl⟩
  · refine TW.skip ?_
    refine TE.next ?_
    refine TW.seq ?_
    refine TW.seq ?_
    refine TW.region ?_
    refine TO.y (Y.assign rfl) rfl rfl rfl ?_
    refine TO.nil ?_
    refine TE.next ?_
    refine TW.joinX (τ := Unit) (X := Unit) (fun _ _ => []) (fun _ _ => []) ?_ (fun T4 X5 => ?_)
    · refine TW.block ?_
      refine TW.loopX (σ := Int) (X := Unit) (fun T _ => [(0, V_a0), (1, V_b0), (5, .int .i64 T)]) (fun _ _ => []) () [] ⟨rfl, rfl, rfl, trivial⟩ rfl (fun S2 X3 => ?_)
      refine TW.seq ?_
      refine TW.seq ?_
      refine TW.region ?_
      refine TO.y (Y.move rfl) rfl rfl rfl ?_
      refine TO.y (Y.move rfl) rfl rfl rfl ?_
      refine TO.y (Y.len (l := a) ke24 (Base.can HB_V_a0) rfl) rfl rfl rfl ?_
      refine TO.y (Y.lss rfl rfl) rfl rfl rfl ?_
      refine TO.nil ?_
      refine TE.next ?_
      refine TW.cond rfl (fun H6 => ?_) (fun H6 => ?_)
      · refine TW.skip ?_
        refine TE.next ?_
        refine TW.seq ?_
        refine TW.block ?_
        refine TW.seq ?_
        refine TW.draw (isH := []) hMix ?_
        refine TA.y (listed' := #[true, false, false, false, false, false, false, false, false]) 0 [] rfl (Y.move rfl) rfl rfl rfl (by kernel_rfl) (by kernel_rfl) (by kernel_rfl) rfl rfl ?_
        refine TA.y (listed' := #[true, true, false, false, false, false, false, false, false]) 1 [] rfl (Y.move rfl) rfl rfl rfl (by kernel_rfl) (by kernel_rfl) (by kernel_rfl) rfl rfl ?_
        refine TA.bind fun E7 H8 => ?_
        refine TA.y (listed' := #[true, true, true, false, false, false, false, false, false]) 2 [] rfl (Y.index ke24 (Base.can HB_V_a0) H8 rfl rfl) rfl rfl rfl (by kernel_rfl) (by kernel_rfl) (by kernel_rfl) rfl rfl ?_
        refine TA.y (listed' := #[true, true, true, true, false, false, false, false, false]) 3 [] rfl (Y.load_el (us := [.int .i64 E7]) (u := .int .i64 E7) kk3 rfl (Base.can HB_V_a0) (idx_get H8).2.2 rfl rfl rfl rfl rfl) rfl rfl rfl (by kernel_rfl) (by kernel_rfl) (by kernel_rfl) rfl rfl ?_
        refine TA.y (listed' := #[true, true, true, true, true, false, false, false, false]) 4 [] rfl (Y.move rfl) rfl rfl rfl (by kernel_rfl) (by kernel_rfl) (by kernel_rfl) rfl rfl ?_
        refine TA.y (listed' := #[true, true, true, true, true, true, false, false, false]) 5 [] rfl (Y.move rfl) rfl rfl rfl (by kernel_rfl) (by kernel_rfl) (by kernel_rfl) rfl rfl ?_
        refine TA.bind fun E9 H10 => ?_
        refine TA.y (listed' := #[true, true, true, true, true, true, true, false, false]) 6 [] rfl (Y.index ke24 (Base.can HB_V_b0) H10 rfl rfl) rfl rfl rfl (by kernel_rfl) (by kernel_rfl) (by kernel_rfl) rfl rfl ?_
        refine TA.y (listed' := #[true, true, true, true, true, true, true, true, false]) 7 [] rfl (Y.load_el (us := [.int .i64 E9]) (u := .int .i64 E9) kk3 rfl (Base.can HB_V_b0) (idx_get H10).2.2 rfl rfl rfl rfl rfl) rfl rfl rfl (by kernel_rfl) (by kernel_rfl) (by kernel_rfl) rfl rfl ?_
        refine TA.y (listed' := #[true, true, true, true, true, true, true, true, true]) 8 [] rfl (Y.neq rfl rfl) rfl rfl rfl (by kernel_rfl) (by kernel_rfl) (by kernel_rfl) rfl rfl ?_
        refine TA.nil (by kernel_rfl) ?_
        refine TE.next ?_
        refine TW.cond rfl (fun H11 => ?_) (fun H11 => ?_)
        · refine TW.seq ?_
          refine TW.region ?_
          refine TO.y (Y.assign rfl) rfl rfl rfl ?_
          refine TO.nil ?_
          refine TE.next ?_
          refine TW.ret ?_
          refine TE.block_ret ?_
          refine TE.then_ret ?_
          refine TE.lp_ret ?_
          refine TE.block_ret ?_
          refine TE.jn_done ?_
          refine TE.then_ret ?_
          exact TE.leaf fun _ _ hf_ hs_ => ret_any (rs := [.tmp 4]) (vs := [.bool false]) (.inl rfl) rfl ⟨rfl, trivial⟩ hf_ hs_ ⟨(), rfl, hs_.pulls [] rfl⟩
        · refine TW.skip ?_
          refine TE.block_normal ?_
          refine TE.next ?_
          refine TW.region ?_
          refine TO.y (Y.move rfl) rfl rfl rfl ?_
          refine TO.y (Y.add rfl rfl) rfl rfl rfl ?_
          refine TO.y (Y.assign rfl) rfl rfl rfl ?_
          refine TO.nil ?_
          exact TE.lp_go () [] ⟨rfl, rfl, rfl, trivial⟩ rfl
      · refine TW.exit ?_
        refine TE.then_exit ?_
        refine TE.lp_exit ?_
        refine TE.block_exit ?_
        exact TE.jn_go () [] trivial rfl
    · refine TE.next ?_
      refine TW.seq ?_
      refine TW.region ?_
      refine TO.y (Y.assign rfl) rfl rfl rfl ?_
      refine TO.nil ?_
      refine TE.next ?_
      refine TW.ret ?_
      exact TE.leaf fun _ _ hf_ hs_ => ret_any (rs := [.tmp 4]) (vs := [.bool true]) (.inl rfl) rfl ⟨rfl, trivial⟩ hf_ hs_ ⟨(), rfl, hs_.pulls [] rfl⟩

/-- loop.example/g00950/laws.eqSpace -/
noncomputable def laws_eqSpace (a : Space) (b : Space) : Option Bool :=
  (laws_eqIntS a.Owner b.Owner).bind fun R3 =>
  if (!R3) = true then (some false)
  else (some true)

theorem laws_eqSpace_con (a : Space) (b : Space) (V_a0 : Value) (V_b0 : Value) (r : Bool) (hm : laws_eqSpace a b = some r) :
    Con Try.prog 15 [.agg #[V_a0], .agg #[V_b0]] [] [(V_a0, lc 3 a.Owner), (V_b0, lc 3 b.Owner)] (fun _ : Unit => .bool r) (fun _ => []) := by
  refine Con.intro (args := [.agg #[V_a0], .agg #[V_b0]]) (n := 11) (val := fun r (_ : Unit) => .bool r) (post := fun _ _ => []) (m := laws_eqSpace a b) Try.func15 rfl rfl rfl hm ?_
  intro w S hrd
  have HB_V_a0 := hrd _ (.head _)
  have HB_V_b0 := hrd _ (.tail _ (.head _))
  clear hrd
  unfold laws_eqSpace
  refine TW.seq ?_
  refine TW.region ?_
  refine TO.ef (Ef.box rfl (Cel.agg ⟨(One.can (Base.can HB_V_a0)), trivial⟩)) rfl rfl rfl (fun B1 => ?_)
  refine TO.ef (Ef.box rfl (Cel.agg ⟨(One.can (Base.can HB_V_b0)), trivial⟩)) rfl rfl rfl (fun B2 => ?_)
  refine TO.y (Y.assign rfl) rfl rfl rfl ?_
  refine TO.nil ?_
  refine TE.next ?_
  refine TW.seq ?_
  refine TW.seq ?_
  refine TW.region ?_
  refine TO.y (Y.field_box kf29_0 rfl rfl) rfl rfl rfl ?_
  refine TO.y (Y.load_box (v := V_a0) 1 kk24 rfl rfl rfl) rfl rfl rfl ?_
  refine TO.y (Y.field_box kf29_0 rfl rfl) rfl rfl rfl ?_
  refine TO.y (Y.load_box (v := V_b0) 0 kk24 rfl rfl rfl) rfl rfl rfl ?_
  refine TO.bind fun R3 H4 => ?_
  refine TO.ef (Ef.call (rest := [.box B2 29 [V_b0], .box B1 29 [V_a0]]) [0, 0] (laws_eqIntS_con a.Owner b.Owner V_a0 V_b0 R3 H4) kc29 rfl rfl ⟨(Base.can HB_V_a0), (Base.can HB_V_b0), trivial⟩) rfl rfl rfl (fun _ => ?_)
  refine TO.y (Y.not rfl) rfl rfl rfl ?_
  refine TO.nil ?_
  refine TE.next ?_
  refine TW.cond rfl (fun H6 => ?_) (fun H6 => ?_)
  · refine TW.seq ?_
    refine TW.region ?_
    refine TO.y (Y.assign rfl) rfl rfl rfl ?_
    refine TO.nil ?_
    refine TE.next ?_
    refine TW.ret ?_
    refine TE.then_ret ?_
    exact TE.leaf fun _ _ hf_ hs_ => ret_any (rs := [.tmp 4]) (vs := [.bool false]) (.inl rfl) rfl ⟨rfl, trivial⟩ hf_ hs_ ⟨(), rfl, hs_.pulls [] rfl⟩
  · refine TW.skip ?_
    refine TE.next ?_
    refine TW.seq ?_
    refine TW.region ?_
    refine TO.y (Y.assign rfl) rfl rfl rfl ?_
    refine TO.nil ?_
    refine TE.next ?_
    refine TW.ret ?_
    exact TE.leaf fun _ _ hf_ hs_ => ret_any (rs := [.tmp 4]) (vs := [.bool true]) (.inl rfl) rfl ⟨rfl, trivial⟩ hf_ hs_ ⟨(), rfl, hs_.pulls [] rfl⟩

/-- loop.example/g00950/laws.FnExactSpaceOk -/
noncomputable def laws_FnExactSpaceOk (aS : Space) : Option Bool :=
  (laws_szSpace aS (1048576 : Int)).bind fun R2 =>
  if (decide (R2 < (0 : Int))) = true then (some true)
  else ((laws_toSpace aS).bind fun R6 =>
  (spec_SpaceOk R6).bind fun R9 =>
  (impl_SpaceOk R6).bind fun R14 =>
  if (!(decide (R14 = R9))) = true then (some false)
  else ((laws_eqSpace R6 R6).bind fun R19 =>
  if (!R19) = true then (some false)
  else (some true)))

theorem laws_FnExactSpaceOk_con (aS : Space) (V_aS0 : Value) (r : Bool) (hm : laws_FnExactSpaceOk aS = some r) :
    Con Try.prog 4 [.agg #[V_aS0]] [] [(V_aS0, lc 3 aS.Owner)] (fun _ : Unit => .bool r) (fun _ => []) := by
  refine Con.intro (args := [.agg #[V_aS0]]) (n := 27) (val := fun r (_ : Unit) => .bool r) (post := fun _ _ => []) (m := laws_FnExactSpaceOk aS) Try.func4 rfl rfl rfl hm ?_
  intro w S hrd
  have HB_V_aS0 := hrd _ (.head _)
  clear hrd
  unfold laws_FnExactSpaceOk
  refine TW.seq ?_
  refine TW.region ?_
  refine TO.ef (Ef.box rfl (Cel.agg ⟨(One.can (Base.can HB_V_aS0)), trivial⟩)) rfl rfl rfl (fun B1 => ?_)
  refine TO.y (Y.assign rfl) rfl rfl rfl ?_
  refine TO.nil ?_
  refine TE.next ?_
  refine TW.seq ?_
  refine TW.region ?_
  refine TO.y (Y.assign rfl) rfl rfl rfl ?_
  refine TO.nil ?_
  refine TE.next ?_
  refine TW.seq ?_
  refine TW.region ?_
  refine TO.y (Y.load_box (v := .agg #[V_aS0]) 0 kk26 rfl rfl rfl) rfl rfl rfl ?_
  refine TO.y (Y.move rfl) rfl rfl rfl ?_
  refine TO.bind fun R2 H3 => ?_
  refine TO.ef (Ef.call (rest := [.box B1 26 [V_aS0]]) [0] (laws_szSpace_con aS (1048576 : Int) V_aS0 R2 H3) kc11 rfl rfl ⟨(Base.can HB_V_aS0), trivial⟩) rfl rfl rfl (fun _ => ?_)
  refine TO.y (Y.assign rfl) rfl rfl rfl ?_
  refine TO.nil ?_
  refine TE.next ?_
  refine TW.seq ?_
  refine TW.seq ?_
  refine TW.region ?_
  refine TO.y (Y.move rfl) rfl rfl rfl ?_
  refine TO.y (Y.lss rfl rfl) rfl rfl rfl ?_
  refine TO.nil ?_
  refine TE.next ?_
  refine TW.cond rfl (fun H5 => ?_) (fun H5 => ?_)
  · refine TW.seq ?_
    refine TW.region ?_
    refine TO.y (Y.assign rfl) rfl rfl rfl ?_
    refine TO.nil ?_
    refine TE.next ?_
    refine TW.ret ?_
    refine TE.then_ret ?_
    exact TE.leaf fun _ _ hf_ hs_ => ret_any (rs := [.tmp 2]) (vs := [.bool true]) (.inl rfl) rfl ⟨rfl, trivial⟩ hf_ hs_ ⟨(), rfl, hs_.pulls [] rfl⟩
  · refine TW.skip ?_
    refine TE.next ?_
    refine TW.seq ?_
    refine TW.region ?_
    refine TO.y (Y.load_box (v := .agg #[V_aS0]) 0 kk26 rfl rfl rfl) rfl rfl rfl ?_
    refine TO.bind fun R6 H7 => ?_
    refine TO.ef (Ef.call (rest := [.box B1 26 [V_aS0]]) [0] (laws_toSpace_con aS V_aS0 R6 H7) kc13 rfl rfl ⟨(Base.can HB_V_aS0), trivial⟩) rfl rfl rfl (fun Y8 => ?_)
    refine TO.bind fun R9 H10 => ?_
    refine TO.ef (Ef.call (rest := [.own Y8 (lc 3 R6.Owner), .box B1 26 [V_aS0]]) [0, 0] (spec_SpaceOk_con R6 Y8 R9 H10) kc12 rfl rfl ⟨(Can.own 0 rfl), trivial⟩) rfl rfl rfl (fun _ => ?_)
    refine TO.y (Y.assign rfl) rfl rfl rfl ?_
    refine TO.nil ?_
    refine TE.next ?_
    refine TW.seq ?_
    refine TW.region ?_
    refine TO.y (Y.load_box (v := .agg #[V_aS0]) 1 kk26 rfl rfl rfl) rfl rfl rfl ?_
    refine TO.ef (Ef.call (rest := [.own Y8 (lc 3 R6.Owner), .box B1 26 [V_aS0]]) [0, 0] (laws_toSpace_con aS V_aS0 R6 H7) kc13 rfl rfl ⟨(Base.can HB_V_aS0), trivial⟩) rfl rfl rfl (fun Y12 => ?_)
    refine TO.ef (Ef.alloc kz29 rfl) rfl rfl rfl (fun B13 => ?_)
    refine TO.ef0 (Ef.store_box (us := [Y12]) (vs' := [Y12]) (is' := [.box B13 29 [Y12], .own Y12 (lc 3 R6.Owner), .own Y8 (lc 3 R6.Owner), .box B1 26 [V_aS0]]) 0 kk29 rfl rfl rfl (Cel.agg ⟨(One.can (Can.own 1 rfl)), trivial⟩) rfl rfl rfl rfl) rfl rfl (fun _ => ?_)
    refine TO.nil ?_
    refine TE.next ?_
    refine TW.seq ?_
    refine TW.region ?_
    refine TO.y (Y.load_box (v := .agg #[Y12]) 0 kk29 rfl rfl rfl) rfl rfl rfl ?_
    refine TO.bind fun R14 H15 => ?_
    refine TO.ef (Ef.call (rest := [.box B13 29 [Y12], .own Y12 (lc 3 R6.Owner), .own Y8 (lc 3 R6.Owner), .box B1 26 [V_aS0]]) [0, 0, 0, 0] (impl_SpaceOk_con R6 Y12 R14 H15) kc14 rfl rfl ⟨(Can.own 1 rfl), trivial⟩) rfl rfl rfl (fun _ => ?_)
    refine TO.y (Y.assign rfl) rfl rfl rfl ?_
    refine TO.nil ?_
    refine TE.next ?_
    refine TW.seq ?_
    refine TW.seq ?_
    refine TW.region ?_
    refine TO.y (Y.move rfl) rfl rfl rfl ?_
    refine TO.y (Y.move rfl) rfl rfl rfl ?_
    refine TO.y (Y.neb kb4 rfl rfl) rfl rfl rfl ?_
    refine TO.nil ?_
    refine TE.next ?_
    refine TW.cond rfl (fun H17 => ?_) (fun H17 => ?_)
    · refine TW.seq ?_
      refine TW.region ?_
      refine TO.y (Y.assign rfl) rfl rfl rfl ?_
      refine TO.nil ?_
      refine TE.next ?_
      refine TW.ret ?_
      refine TE.then_ret ?_
      exact TE.leaf fun _ _ hf_ hs_ => ret_any (rs := [.tmp 2]) (vs := [.bool false]) (.inl rfl) rfl ⟨rfl, trivial⟩ hf_ hs_ ⟨(), rfl, hs_.pulls [] rfl⟩
    · refine TW.skip ?_
      refine TE.next ?_
      refine TW.seq ?_
      refine TW.seq ?_
      refine TW.draw (isH := [.box B13 29 [Y12], .own Y12 (lc 3 R6.Owner), .own Y8 (lc 3 R6.Owner), .box B1 26 [V_aS0]]) hMix ?_
      refine TA.y (listed' := #[true, false, false, false, false]) 0 [0, 0, 0, 0] rfl (Y.load_box (v := .agg #[Y12]) 0 kk29 rfl rfl rfl) rfl rfl rfl (by kernel_rfl) (by kernel_rfl) (by kernel_rfl) rfl rfl ?_
      refine TA.y (listed' := #[true, true, false, false, false]) 1 [0, 0, 0, 0] rfl (Y.load_box (v := .agg #[V_aS0]) 3 kk26 rfl rfl rfl) rfl rfl rfl (by kernel_rfl) (by kernel_rfl) (by kernel_rfl) rfl rfl ?_
      refine TA.one 2 (by kernel_rfl) ?_
      refine TX.ef (listed' := #[true, true, true, false, false]) [1, 1, 1, 1] rfl (Ef.call (rest := [.box B13 29 [Y12], .own Y12 (lc 3 R6.Owner), .own Y8 (lc 3 R6.Owner), .box B1 26 [V_aS0]]) [0, 0, 0, 0] (laws_toSpace_con aS V_aS0 R6 H7) kc13 rfl rfl ⟨(Base.can HB_V_aS0), trivial⟩) rfl rfl rfl rfl (fun _ => rfl) (fun Y18 => ?_)
      refine TA.bind fun R19 H20 => ?_
      refine TA.one 3 (by kernel_rfl) ?_
      refine TX.ef (listed' := #[true, true, true, true, false]) [1, 1, 1, 1] rfl (Ef.call (rest := [.own Y18 (lc 3 R6.Owner), .box B13 29 [Y12], .own Y12 (lc 3 R6.Owner), .own Y8 (lc 3 R6.Owner), .box B1 26 [V_aS0]]) [0, 0, 0, 0, 0] (laws_eqSpace_con R6 R6 Y12 Y18 R19 H20) kc15 rfl rfl ⟨(Can.own 2 rfl), (Can.own 0 rfl), trivial⟩) rfl rfl rfl rfl (fun _ => rfl) (fun _ => ?_)
      refine TA.y (listed' := #[true, true, true, true, true]) 4 [1, 1, 1, 1] rfl (Y.not rfl) rfl rfl rfl (by kernel_rfl) (by kernel_rfl) (by kernel_rfl) rfl rfl ?_
      refine TA.nil (by kernel_rfl) ?_
      refine TE.next ?_
      refine TW.cond rfl (fun H22 => ?_) (fun H22 => ?_)
      · refine TW.seq ?_
        refine TW.region ?_
        refine TO.y (Y.assign rfl) rfl rfl rfl ?_
        refine TO.nil ?_
        refine TE.next ?_
        refine TW.ret ?_
        refine TE.then_ret ?_
        exact TE.leaf fun _ _ hf_ hs_ => ret_any (rs := [.tmp 2]) (vs := [.bool false]) (.inl rfl) rfl ⟨rfl, trivial⟩ hf_ hs_ ⟨(), rfl, hs_.pulls [] rfl⟩
      · refine TW.skip ?_
        refine TE.next ?_
        refine TW.seq ?_
        refine TW.region ?_
        refine TO.y (Y.assign rfl) rfl rfl rfl ?_
        refine TO.nil ?_
        refine TE.next ?_
        refine TW.ret ?_
        exact TE.leaf fun _ _ hf_ hs_ => ret_any (rs := [.tmp 2]) (vs := [.bool true]) (.inl rfl) rfl ⟨rfl, trivial⟩ hf_ hs_ ⟨(), rfl, hs_.pulls [] rfl⟩

/-- loop.example/g00950/laws.szShareS -/
noncomputable def laws_szShareS (a : List Share) (left : Int) : Option Int :=
  if (decide (IntKind.i64.wrap (left - ((a.length : Nat) : Int)) < (0 : Int))) = true then (some (-1 : Int))
  else (some (IntKind.i64.wrap (left - ((a.length : Nat) : Int))))

theorem laws_szShareS_con (a : List Share) (left : Int) (V_a0 : Value) (r : Int) (hm : laws_szShareS a left = some r) :
    Con Try.prog 43 [V_a0, .int .i64 left] [] [(V_a0, lc 81 a)] (fun _ : Unit => .int .i64 r) (fun _ => []) := by
  refine Con.intro (args := [V_a0, .int .i64 left]) (n := 12) (val := fun r (_ : Unit) => .int .i64 r) (post := fun _ _ => []) (m := laws_szShareS a left) Try.func43 rfl rfl rfl hm ?_
  intro w S hrd
  have HB_V_a0 := hrd _ (.head _)
  clear hrd
  unfold laws_szShareS
  refine TW.seq ?_
  refine TW.region ?_
  refine TO.y (Y.assign rfl) rfl rfl rfl ?_
  refine TO.nil ?_
  refine TE.next ?_
  refine TW.seq ?_
  refine TW.region ?_
  refine TO.y (Y.move rfl) rfl rfl rfl ?_
  refine TO.y (Y.move rfl) rfl rfl rfl ?_
  refine TO.y (Y.len (l := a) ke40 (Base.can HB_V_a0) rfl) rfl rfl rfl ?_
  refine TO.y (Y.sub rfl rfl) rfl rfl rfl ?_
  refine TO.y (Y.assign rfl) rfl rfl rfl ?_
  refine TO.nil ?_
  refine TE.next ?_
  refine TW.seq ?_
  refine TW.seq ?_
  refine TW.region ?_
  refine TO.y (Y.move rfl) rfl rfl rfl ?_
  refine TO.y (Y.lss rfl rfl) rfl rfl rfl ?_
  refine TO.nil ?_
  refine TE.next ?_
  refine TW.cond rfl (fun H1 => ?_) (fun H1 => ?_)
  · refine TW.seq ?_
    refine TW.region ?_
    refine TO.y (Y.assign rfl) rfl rfl rfl ?_
    refine TO.nil ?_
    refine TE.next ?_
    refine TW.ret ?_
    refine TE.then_ret ?_
    exact TE.leaf fun _ _ hf_ hs_ => ret_any (rs := [.tmp 4]) (vs := [.int .i64 (-1 : Int)]) (.inl rfl) rfl ⟨rfl, trivial⟩ hf_ hs_ ⟨(), rfl, hs_.pulls [] rfl⟩
  · refine TW.skip ?_
    refine TE.next ?_
    refine TW.seq ?_
    refine TW.region ?_
    refine TO.y (Y.move rfl) rfl rfl rfl ?_
    refine TO.y (Y.assign rfl) rfl rfl rfl ?_
    refine TO.nil ?_
    refine TE.next ?_
    refine TW.ret ?_
    exact TE.leaf fun _ _ hf_ hs_ => ret_any (rs := [.tmp 4]) (vs := [.int .i64 (IntKind.i64.wrap (left - ((a.length : Nat) : Int)))]) (.inl rfl) rfl ⟨rfl, trivial⟩ hf_ hs_ ⟨(), rfl, hs_.pulls [] rfl⟩

/-- loop.example/g00950/laws.szShares -/
noncomputable def laws_szShares (a : Shares) (left : Int) : Option Int :=
  (laws_szShareS a.List left).bind fun R2 =>
  if (decide (R2 < (0 : Int))) = true then (some (-1 : Int))
  else (some R2)

theorem laws_szShares_con (a : Shares) (left : Int) (V_a1 : Value) (r : Int) (hm : laws_szShares a left = some r) :
    Con Try.prog 21 [.agg #[.int .i64 a.Size, V_a1], .int .i64 left] [] [(V_a1, lc 81 a.List)] (fun _ : Unit => .int .i64 r) (fun _ => []) := by
  refine Con.intro (args := [.agg #[.int .i64 a.Size, V_a1], .int .i64 left]) (n := 12) (val := fun r (_ : Unit) => .int .i64 r) (post := fun _ _ => []) (m := laws_szShares a left) Try.func21 rfl rfl rfl hm ?_
  intro w S hrd
  have HB_V_a1 := hrd _ (.head _)
  clear hrd
  unfold laws_szShares
  refine TW.seq ?_
  refine TW.region ?_
  refine TO.ef (Ef.box rfl (Cel.agg ⟨(One.plain rfl), (One.can (Base.can HB_V_a1)), trivial⟩)) rfl rfl rfl (fun B1 => ?_)
  refine TO.y (Y.assign rfl) rfl rfl rfl ?_
  refine TO.nil ?_
  refine TE.next ?_
  refine TW.seq ?_
  refine TW.region ?_
  refine TO.y (Y.field_box kf42_1 rfl rfl) rfl rfl rfl ?_
  refine TO.y (Y.load_box (v := V_a1) 0 kk40 rfl rfl rfl) rfl rfl rfl ?_
  refine TO.y (Y.move rfl) rfl rfl rfl ?_
  refine TO.bind fun R2 H3 => ?_
  refine TO.ef (Ef.call (rest := [.box B1 42 [.int .i64 a.Size, V_a1]]) [0] (laws_szShareS_con a.List left V_a1 R2 H3) kc43 rfl rfl ⟨(Base.can HB_V_a1), trivial⟩) rfl rfl rfl (fun _ => ?_)
  refine TO.y (Y.assign rfl) rfl rfl rfl ?_
  refine TO.nil ?_
  refine TE.next ?_
  refine TW.seq ?_
  refine TW.seq ?_
  refine TW.region ?_
  refine TO.y (Y.move rfl) rfl rfl rfl ?_
  refine TO.y (Y.lss rfl rfl) rfl rfl rfl ?_
  refine TO.nil ?_
  refine TE.next ?_
  refine TW.cond rfl (fun H5 => ?_) (fun H5 => ?_)
  · refine TW.seq ?_
    refine TW.region ?_
    refine TO.y (Y.assign rfl) rfl rfl rfl ?_
    refine TO.nil ?_
    refine TE.next ?_
    refine TW.ret ?_
    refine TE.then_ret ?_
    exact TE.leaf fun _ _ hf_ hs_ => ret_any (rs := [.tmp 4]) (vs := [.int .i64 (-1 : Int)]) (.inl rfl) rfl ⟨rfl, trivial⟩ hf_ hs_ ⟨(), rfl, hs_.pulls [] rfl⟩
  · refine TW.skip ?_
    refine TE.next ?_
    refine TW.seq ?_
    refine TW.region ?_
    refine TO.y (Y.move rfl) rfl rfl rfl ?_
    refine TO.y (Y.assign rfl) rfl rfl rfl ?_
    refine TO.nil ?_
    refine TE.next ?_
    refine TW.ret ?_
    exact TE.leaf fun _ _ hf_ hs_ => ret_any (rs := [.tmp 4]) (vs := [.int .i64 R2]) (.inl rfl) rfl ⟨rfl, trivial⟩ hf_ hs_ ⟨(), rfl, hs_.pulls [] rfl⟩

/-- loop.example/g00950/laws.toShare -/
noncomputable def laws_toShare (a : Share) : Option Share :=
  some a

theorem laws_toShare_con (a : Share)  (r : Share) (hm : laws_toShare a = some r) :
    Con Try.prog 52 [.agg #[.int .i64 a.Tenant, .int .i64 a.Quota]] [] [] (fun _ : Unit => .agg #[.int .i64 r.Tenant, .int .i64 r.Quota]) (fun _ => []) := by
  refine Con.intro (args := [.agg #[.int .i64 a.Tenant, .int .i64 a.Quota]]) (n := 11) (val := fun r (_ : Unit) => .agg #[.int .i64 r.Tenant, .int .i64 r.Quota]) (post := fun _ _ => []) (m := laws_toShare a) Try.func52 rfl rfl rfl hm ?_
  intro w S _
  unfold laws_toShare
  refine TW.seq ?_
  refine TW.region ?_
  refine TO.ef (Ef.box rfl (Cel.plain rfl rfl)) rfl rfl rfl (fun B1 => ?_)
  refine TO.ef (Ef.alloc kz74 rfl) rfl rfl rfl (fun B2 => ?_)
  refine TO.nil ?_
  refine TE.next ?_
  refine TW.seq ?_
  refine TW.region ?_
  refine TO.ef (Ef.alloc kz74 rfl) rfl rfl rfl (fun B3 => ?_)
  refine TO.nil ?_
  refine TE.next ?_
  refine TW.seq ?_
  refine TW.region ?_
  refine TO.y (Y.field_box kf81_0 rfl rfl) rfl rfl rfl ?_
  refine TO.y (Y.load_box (v := .int .i64 a.Tenant) 2 kk3 rfl rfl rfl) rfl rfl rfl ?_
  refine TO.y (Y.field_box kf74_0 rfl rfl) rfl rfl rfl ?_
  refine TO.ef0 (Ef.store_box (us := [.int .i64 a.Tenant]) (vs' := [.int .i64 a.Tenant, .int .i64 (0 : Int)]) (is' := [.box B3 74 [.int .i64 a.Tenant, .int .i64 (0 : Int)], .box B2 74 [.int .i64 (0 : Int), .int .i64 (0 : Int)], .box B1 81 [.int .i64 a.Tenant, .int .i64 a.Quota]]) 0 kk3 rfl rfl rfl (Cel.plain rfl rfl) rfl rfl rfl rfl) rfl rfl (fun _ => ?_)
  refine TO.nil ?_
  refine TE.next ?_
  refine TW.seq ?_
  refine TW.region ?_
  refine TO.y (Y.field_box kf81_1 rfl rfl) rfl rfl rfl ?_
  refine TO.y (Y.load_box (v := .int .i64 a.Quota) 2 kk3 rfl rfl rfl) rfl rfl rfl ?_
  refine TO.y (Y.field_box kf74_1 rfl rfl) rfl rfl rfl ?_
  refine TO.ef0 (Ef.store_box (us := [.int .i64 a.Quota]) (vs' := [.int .i64 a.Tenant, .int .i64 a.Quota]) (is' := [.box B3 74 [.int .i64 a.Tenant, .int .i64 a.Quota], .box B2 74 [.int .i64 (0 : Int), .int .i64 (0 : Int)], .box B1 81 [.int .i64 a.Tenant, .int .i64 a.Quota]]) 0 kk3 rfl rfl rfl (Cel.plain rfl rfl) rfl rfl rfl rfl) rfl rfl (fun _ => ?_)
  refine TO.nil ?_
  refine TE.next ?_
  refine TW.seq ?_
  refine TW.region ?_
  refine TO.y (Y.load_box (v := .agg #[.int .i64 a.Tenant, .int .i64 a.Quota]) 0 kk74 rfl rfl rfl) rfl rfl rfl ?_
  refine TO.ef0 (Ef.store_box (us := [.int .i64 a.Tenant, .int .i64 a.Quota]) (vs' := [.int .i64 a.Tenant, .int .i64 a.Quota]) (is' := [.box B3 74 [.int .i64 a.Tenant, .int .i64 a.Quota], .box B2 74 [.int .i64 a.Tenant, .int .i64 a.Quota], .box B1 81 [.int .i64 a.Tenant, .int .i64 a.Quota]]) 1 kk74 rfl rfl rfl (Cel.plain rfl rfl) rfl rfl rfl rfl) rfl rfl (fun _ => ?_)
  refine TO.nil ?_
  refine TE.next ?_
  refine TW.ret ?_
  exact TE.leaf fun _ _ hf_ hs_ => ret_any (rs := [.cell 2 74]) (vs := [.agg #[.int .i64 a.Tenant, .int .i64 a.Quota]]) (.inl rfl) rfl (RV.cell 1 rfl rfl kk74 rfl trivial) hf_ hs_ ⟨(), rfl, hs_.pulls [] rfl⟩

/-- loop.example/g00950/laws.toShareS -/
noncomputable def laws_toShareS (a : List Share) : Option (List Share) :=
  (mkLen 16 ((a.length : Nat) : Int)).bind fun E2 =>
  bindC (loopO (fun (S4 : Int × List Share) => if (decide (S4.1 < ((a.length : Nat) : Int))) = true then ((idx a S4.1).bind fun E9 =>
  (laws_toShare E9).bind fun R11 =>
  (idx S4.2 S4.1).bind fun E14 =>
  some (.go (IntKind.i64.wrap (S4.1 + (1 : Int)), (S4.2.set S4.1.toNat R11))))
  else (some (.done (.go S4.2))))
  ((0 : Int), (List.replicate E2 ({ Tenant := (0 : Int), Quota := (0 : Int) : Share } : Share))))
  (fun (T6 : List Share) => some T6)

theorem laws_toShareS_con (a : List Share) (V_a0 : Value) (r : List Share) (hm : laws_toShareS a = some r) :
    Con Try.prog 45 [V_a0] [] [(V_a0, lc 81 a)] (fun X : Value => X) (fun X => [.own X (lc 74 r)]) := by
  refine Con.intro (args := [V_a0]) (n := 23) (val := fun _ (X : Value) => X) (post := fun r X => [.own X (lc 74 r)]) (m := laws_toShareS a) Try.func45 rfl rfl rfl hm ?_
  intro w S hrd
  have HB_V_a0 := hrd _ (.head _)
  clear hrd
  unfold laws_toShareS
  refine TW.seq ?_
  refine TW.region ?_
  refine TO.y (Y.assign rfl) rfl rfl rfl ?_
  refine TO.nil ?_
  refine TE.next ?_
  refine TW.seq ?_
  refine TW.region ?_
  refine TO.y (Y.move rfl) rfl rfl rfl ?_
  refine TO.y (Y.len (l := a) ke40 (Base.can HB_V_a0) rfl) rfl rfl rfl ?_
  refine TO.bind fun E2 H3 => ?_
  refine TO.ef (Ef.make (α := Share) (z := ({ Tenant := (0 : Int), Quota := (0 : Int) : Share } : Share)) H3 ke45 kz74 rfl rfl rfl rfl) rfl rfl rfl (fun V1 => ?_)
  refine TO.y (Y.assign rfl) rfl rfl rfl ?_
  refine TO.nil ?_
  refine TE.next ?_
  refine TW.seq ?_
  refine TW.seq ?_
  refine TW.region ?_
  refine TO.y (Y.assign rfl) rfl rfl rfl ?_
  refine TO.nil ?_
  refine TE.next ?_
  refine TW.joinX (τ := List Share) (X := Unit) (fun _ _ => [(3, V1)]) (fun T _ => [.own V1 (lc 74 T)]) ?_ (fun T6 X7 => ?_)
  · refine TW.block ?_
    refine TW.loopX (σ := Int × List Share) (X := Unit) (fun T _ => [(0, V_a0), (3, V1), (4, .int .i64 T.1)]) (fun T _ => [.own V1 (lc 74 T.2)]) () [0] ⟨rfl, rfl, rfl, trivial⟩ rfl (fun S4 X5 => ?_)
    refine TW.seq ?_
    refine TW.seq ?_
    refine TW.region ?_
    refine TO.y (Y.move rfl) rfl rfl rfl ?_
    refine TO.y (Y.move rfl) rfl rfl rfl ?_
    refine TO.y (Y.len (l := a) ke40 (Base.can HB_V_a0) rfl) rfl rfl rfl ?_
    refine TO.y (Y.lss rfl rfl) rfl rfl rfl ?_
    refine TO.nil ?_
    refine TE.next ?_
    refine TW.cond rfl (fun H8 => ?_) (fun H8 => ?_)
    · refine TW.skip ?_
      refine TE.next ?_
      refine TW.seq ?_
      refine TW.block ?_
      refine TW.region ?_
      refine TO.y (Y.move rfl) rfl rfl rfl ?_
      refine TO.y (Y.move rfl) rfl rfl rfl ?_
      refine TO.y (Y.move rfl) rfl rfl rfl ?_
      refine TO.y (Y.move rfl) rfl rfl rfl ?_
      refine TO.bind fun E9 H10 => ?_
      refine TO.y (Y.index ke40 (Base.can HB_V_a0) H10 rfl rfl) rfl rfl rfl ?_
      refine TO.y (Y.load_el (us := [.int .i64 E9.Tenant, .int .i64 E9.Quota]) (u := .agg #[.int .i64 E9.Tenant, .int .i64 E9.Quota]) kk81 rfl (Base.can HB_V_a0) (idx_get H10).2.2 rfl rfl rfl rfl rfl) rfl rfl rfl ?_
      refine TO.bind fun R11 H12 => ?_
      refine TO.ef (Ef.call (rest := [.own V1 (lc 74 S4.2)]) [0] (laws_toShare_con E9  R11 H12) kc52 rfl rfl trivial) rfl rfl rfl (fun _ => ?_)
      refine TO.bind fun E14 H15 => ?_
      refine TO.y (Y.index ke45 (Can.own 0 rfl) H15 rfl rfl) rfl rfl rfl ?_
      refine TO.ef0 (Ef.store_el (us := [.int .i64 R11.Tenant, .int .i64 R11.Quota]) (is' := [.own V1 (lc 74 (S4.2.set S4.1.toNat R11))]) R11 0 kk74 rfl rfl (idx_get H15).2.2 rfl rfl (Cel.plain rfl rfl) rfl rfl rfl rfl) rfl rfl (fun _ => ?_)
      refine TO.nil ?_
      refine TE.block_normal ?_
      refine TE.next ?_
      refine TW.region ?_
      refine TO.y (Y.move rfl) rfl rfl rfl ?_
      refine TO.y (Y.add rfl rfl) rfl rfl rfl ?_
      refine TO.y (Y.assign rfl) rfl rfl rfl ?_
      refine TO.nil ?_
      exact TE.lp_go () [0] ⟨rfl, rfl, rfl, trivial⟩ rfl
    · refine TW.exit ?_
      refine TE.then_exit ?_
      refine TE.lp_exit ?_
      refine TE.block_exit ?_
      exact TE.jn_go () [0] ⟨rfl, trivial⟩ rfl
  · refine TE.next ?_
    refine TW.seq ?_
    refine TW.region ?_
    refine TO.y (Y.move rfl) rfl rfl rfl ?_
    refine TO.y (Y.assign rfl) rfl rfl rfl ?_
    refine TO.nil ?_
    refine TE.next ?_
    refine TW.ret ?_
    exact TE.leaf fun _ _ hf_ hs_ => ret_any (rs := [.tmp 2]) (vs := [V1]) (.inl rfl) rfl ⟨rfl, trivial⟩ hf_ hs_ ⟨V1, rfl, hs_.pulls [0] rfl⟩

/-- loop.example/g00950/laws.toShares -/
noncomputable def laws_toShares (a : Shares) : Option Shares :=
  (laws_toShareS a.List).bind fun R4 =>
  some ({ Size := a.Size, List := R4 : Shares })

theorem laws_toShares_con (a : Shares) (V_a1 : Value) (r : Shares) (hm : laws_toShares a = some r) :
    Con Try.prog 23 [.agg #[.int .i64 a.Size, V_a1]] [] [(V_a1, lc 81 a.List)] (fun X : Value => .agg #[.int .i64 r.Size, X]) (fun X => [.own X (lc 74 r.List)]) := by
  refine Con.intro (args := [.agg #[.int .i64 a.Size, V_a1]]) (n := 12) (val := fun r (X : Value) => .agg #[.int .i64 r.Size, X]) (post := fun r X => [.own X (lc 74 r.List)]) (m := laws_toShares a) Try.func23 rfl rfl rfl hm ?_
  intro w S hrd
  have HB_V_a1 := hrd _ (.head _)
  clear hrd
  unfold laws_toShares
  refine TW.seq ?_
  refine TW.region ?_
  refine TO.ef (Ef.box rfl (Cel.agg ⟨(One.plain rfl), (One.can (Base.can HB_V_a1)), trivial⟩)) rfl rfl rfl (fun B1 => ?_)
  refine TO.ef (Ef.alloc kz47 rfl) rfl rfl rfl (fun B2 => ?_)
  refine TO.nil ?_
  refine TE.next ?_
  refine TW.seq ?_
  refine TW.region ?_
  refine TO.ef (Ef.alloc kz47 rfl) rfl rfl rfl (fun B3 => ?_)
  refine TO.nil ?_
  refine TE.next ?_
  refine TW.seq ?_
  refine TW.region ?_
  refine TO.y (Y.field_box kf42_0 rfl rfl) rfl rfl rfl ?_
  refine TO.y (Y.load_box (v := .int .i64 a.Size) 2 kk3 rfl rfl rfl) rfl rfl rfl ?_
  refine TO.y (Y.field_box kf47_0 rfl rfl) rfl rfl rfl ?_
  refine TO.ef0 (Ef.store_box (us := [.int .i64 a.Size]) (vs' := [.int .i64 a.Size, .slice none 0 0]) (is' := [.box B3 47 [.int .i64 a.Size, .slice none 0 0], .box B2 47 [.int .i64 (0 : Int), .slice none 0 0], .box B1 42 [.int .i64 a.Size, V_a1]]) 0 kk3 rfl rfl rfl (Cel.plain rfl rfl) rfl rfl rfl rfl) rfl rfl (fun _ => ?_)
  refine TO.nil ?_
  refine TE.next ?_
  refine TW.seq ?_
  refine TW.region ?_
  refine TO.y (Y.field_box kf42_1 rfl rfl) rfl rfl rfl ?_
  refine TO.y (Y.load_box (v := V_a1) 2 kk40 rfl rfl rfl) rfl rfl rfl ?_
  refine TO.bind fun R4 H5 => ?_
  refine TO.ef (Ef.call (rest := [.box B3 47 [.int .i64 a.Size, .slice none 0 0], .box B2 47 [.int .i64 (0 : Int), .slice none 0 0], .box B1 42 [.int .i64 a.Size, V_a1]]) [0, 0, 0] (laws_toShareS_con a.List V_a1 R4 H5) kc45 rfl rfl ⟨(Base.can HB_V_a1), trivial⟩) rfl rfl rfl (fun Y6 => ?_)
  refine TO.y (Y.field_box kf47_1 rfl rfl) rfl rfl rfl ?_
  refine TO.ef0 (Ef.store_box (us := [Y6]) (vs' := [.int .i64 a.Size, Y6]) (is' := [.own Y6 (lc 74 R4), .box B3 47 [.int .i64 a.Size, Y6], .box B2 47 [.int .i64 (0 : Int), .slice none 0 0], .box B1 42 [.int .i64 a.Size, V_a1]]) 1 kk45 rfl rfl rfl (Cel.one (One.can (Can.own 0 rfl))) rfl rfl rfl rfl) rfl rfl (fun _ => ?_)
  refine TO.nil ?_
  refine TE.next ?_
  refine TW.seq ?_
  refine TW.region ?_
  refine TO.y (Y.load_box (v := .agg #[.int .i64 a.Size, Y6]) 1 kk47 rfl rfl rfl) rfl rfl rfl ?_
  refine TO.ef0 (Ef.store_box (us := [.int .i64 a.Size, Y6]) (vs' := [.int .i64 a.Size, Y6]) (is' := [.own Y6 (lc 74 R4), .box B3 47 [.int .i64 a.Size, Y6], .box B2 47 [.int .i64 a.Size, Y6], .box B1 42 [.int .i64 a.Size, V_a1]]) 2 kk47 rfl rfl rfl (Cel.agg ⟨(One.plain rfl), (One.can (Can.own 0 rfl)), trivial⟩) rfl rfl rfl rfl) rfl rfl (fun _ => ?_)
  refine TO.nil ?_
  refine TE.next ?_
  refine TW.ret ?_
  exact TE.leaf fun _ _ hf_ hs_ => ret_any (rs := [.cell 2 47]) (vs := [.agg #[.int .i64 a.Size, Y6]]) (.inl rfl) rfl (RV.cell 2 rfl rfl kk47 rfl trivial) hf_ hs_ ⟨Y6, rfl, hs_.pulls [0] rfl⟩

/-- loop.example/g00950/spec.l19All -/
noncomputable def spec_l19All (s : Shares) : Option Int :=
  bindC (loopO (fun (S2 : Int × Int) => if (decide (S2.2 < ((s.List.length : Nat) : Int))) = true then ((idx s.List S2.2).bind fun E7 =>
  (spec_Need E7.Quota).bind fun R9 =>
  some (.go (IntKind.i64.wrap (S2.1 + R9), IntKind.i64.wrap (S2.2 + (1 : Int)))))
  else (some (.done (.go S2.1))))
  ((0 : Int), (0 : Int)))
  (fun (T4 : Int) => bindC (if (decide (((s.List.length : Nat) : Int) > (0 : Int))) = true then (some (.go (IntKind.i64.wrap (T4 + (4 : Int)))))
  else (some (.go T4)))
  (fun (T12 : Int) => some T12))

theorem spec_l19All_con (s : Shares) (V_s1 : Value) (r : Int) (hm : spec_l19All s = some r) :
    Con Try.prog 44 [.agg #[.int .i64 s.Size, V_s1]] [] [(V_s1, lc 74 s.List)] (fun _ : Unit => .int .i64 r) (fun _ => []) := by
  refine Con.intro (args := [.agg #[.int .i64 s.Size, V_s1]]) (n := 28) (val := fun r (_ : Unit) => .int .i64 r) (post := fun _ _ => []) (m := spec_l19All s) Try.func44 rfl rfl rfl hm ?_
  intro w S hrd
  have HB_V_s1 := hrd _ (.head _)
  clear hrd
  unfold spec_l19All
  refine TW.seq ?_
  refine TW.region ?_
  refine TO.ef (Ef.box rfl (Cel.agg ⟨(One.plain rfl), (One.can (Base.can HB_V_s1)), trivial⟩)) rfl rfl rfl (fun B1 => ?_)
  refine TO.y (Y.assign rfl) rfl rfl rfl ?_
  refine TO.nil ?_
  refine TE.next ?_
  refine TW.seq ?_
  refine TW.region ?_
  refine TO.y (Y.assign rfl) rfl rfl rfl ?_
  refine TO.nil ?_
  refine TE.next ?_
  refine TW.seq ?_
  refine TW.seq ?_
  refine TW.region ?_
  refine TO.y (Y.assign rfl) rfl rfl rfl ?_
  refine TO.nil ?_
  refine TE.next ?_
  refine TW.joinX (τ := Int) (X := Unit) (fun T _ => [(1, .pointer (some ⟨B1, 0, none⟩)), (3, .int .i64 T)]) (fun _ _ => [.box B1 47 [.int .i64 s.Size, V_s1]]) ?_ (fun T4 X5 => ?_)
  · refine TW.block ?_
    refine TW.loopX (σ := Int × Int) (X := Unit) (fun T _ => [(1, .pointer (some ⟨B1, 0, none⟩)), (3, .int .i64 T.1), (4, .int .i64 T.2)]) (fun _ _ => [.box B1 47 [.int .i64 s.Size, V_s1]]) () [0] ⟨rfl, rfl, rfl, trivial⟩ rfl (fun S2 X3 => ?_)
    refine TW.seq ?_
    refine TW.seq ?_
    refine TW.region ?_
    refine TO.y (Y.move rfl) rfl rfl rfl ?_
    refine TO.y (Y.field_box kf47_1 rfl rfl) rfl rfl rfl ?_
    refine TO.y (Y.load_box (v := V_s1) 0 kk45 rfl rfl rfl) rfl rfl rfl ?_
    refine TO.y (Y.len (l := s.List) ke45 (Base.can HB_V_s1) rfl) rfl rfl rfl ?_
    refine TO.y (Y.lss rfl rfl) rfl rfl rfl ?_
    refine TO.nil ?_
    refine TE.next ?_
    refine TW.cond rfl (fun H6 => ?_) (fun H6 => ?_)
    · refine TW.skip ?_
      refine TE.next ?_
      refine TW.seq ?_
      refine TW.block ?_
      refine TW.region ?_
      refine TO.y (Y.move rfl) rfl rfl rfl ?_
      refine TO.y (Y.field_box kf47_1 rfl rfl) rfl rfl rfl ?_
      refine TO.y (Y.load_box (v := V_s1) 0 kk45 rfl rfl rfl) rfl rfl rfl ?_
      refine TO.y (Y.move rfl) rfl rfl rfl ?_
      refine TO.bind fun E7 H8 => ?_
      refine TO.y (Y.index ke45 (Base.can HB_V_s1) H8 rfl rfl) rfl rfl rfl ?_
      refine TO.y (Y.field_el kf74_1 (Base.can HB_V_s1) (idx_get H8).2.2 rfl rfl) rfl rfl rfl ?_
      refine TO.y (Y.load_el (us := [.int .i64 E7.Quota]) (u := .int .i64 E7.Quota) kk3 rfl (Base.can HB_V_s1) (idx_get H8).2.2 rfl rfl rfl rfl rfl) rfl rfl rfl ?_
      refine TO.bind fun R9 H10 => ?_
      refine TO.ef (Ef.call (rest := [.box B1 47 [.int .i64 s.Size, V_s1]]) [0] (spec_Need_con E7.Quota  R9 H10) kc9 rfl rfl trivial) rfl rfl rfl (fun _ => ?_)
      refine TO.y (Y.add rfl rfl) rfl rfl rfl ?_
      refine TO.y (Y.assign rfl) rfl rfl rfl ?_
      refine TO.nil ?_
      refine TE.block_normal ?_
      refine TE.next ?_
      refine TW.region ?_
      refine TO.y (Y.move rfl) rfl rfl rfl ?_
      refine TO.y (Y.add rfl rfl) rfl rfl rfl ?_
      refine TO.y (Y.assign rfl) rfl rfl rfl ?_
      refine TO.nil ?_
      exact TE.lp_go () [0] ⟨rfl, rfl, rfl, trivial⟩ rfl
    · refine TW.exit ?_
      refine TE.then_exit ?_
      refine TE.lp_exit ?_
      refine TE.block_exit ?_
      exact TE.jn_go () [0] ⟨rfl, rfl, trivial⟩ rfl
  · refine TE.next ?_
    refine TW.seq ?_
    refine TW.seq ?_
    refine TW.region ?_
    refine TO.y (Y.field_box kf47_1 rfl rfl) rfl rfl rfl ?_
    refine TO.y (Y.load_box (v := V_s1) 0 kk45 rfl rfl rfl) rfl rfl rfl ?_
    refine TO.y (Y.len (l := s.List) ke45 (Base.can HB_V_s1) rfl) rfl rfl rfl ?_
    refine TO.y (Y.gtr rfl rfl) rfl rfl rfl ?_
    refine TO.nil ?_
    refine TE.next ?_
    refine TW.joinX (τ := Int) (X := Unit) (fun T _ => [(3, .int .i64 T)]) (fun _ _ => []) ?_ (fun T12 X13 => ?_)
    · refine TW.cond rfl (fun H14 => ?_) (fun H14 => ?_)
      · refine TW.region ?_
        refine TO.y (Y.move rfl) rfl rfl rfl ?_
        refine TO.y (Y.add rfl rfl) rfl rfl rfl ?_
        refine TO.y (Y.assign rfl) rfl rfl rfl ?_
        refine TO.nil ?_
        exact TE.jn_go () [] ⟨rfl, trivial⟩ rfl
      · refine TW.skip ?_
        exact TE.jn_go () [] ⟨rfl, trivial⟩ rfl
    · refine TE.next ?_
      refine TW.seq ?_
      refine TW.region ?_
      refine TO.y (Y.move rfl) rfl rfl rfl ?_
      refine TO.y (Y.assign rfl) rfl rfl rfl ?_
      refine TO.nil ?_
      refine TE.next ?_
      refine TW.ret ?_
      exact TE.leaf fun _ _ hf_ hs_ => ret_any (rs := [.tmp 2]) (vs := [.int .i64 T12]) (.inl rfl) rfl ⟨rfl, trivial⟩ hf_ hs_ ⟨(), rfl, hs_.pulls [] rfl⟩

/-- loop.example/g00950/spec.SharesOk -/
noncomputable def spec_SharesOk (s : Shares) : Option Bool :=
  ((spec_l1In s.Size (0 : Int) (1000 : Int)).bind fun R4 =>
  if (!R4) = true then (some true)
  else (some (decide (((s.List.length : Nat) : Int) > (4 : Int))))).bind (fun (T2 : Bool) =>
  if T2 = true then (some false)
  else (bindC (loopO (fun (S9 : Int) => if (decide (S9 < ((s.List.length : Nat) : Int))) = true then ((idx s.List S9).bind fun E14 =>
  ((spec_l1In E14.Tenant (1 : Int) (99 : Int)).bind fun R19 =>
  if (!R19) = true then (some true)
  else ((spec_l1In E14.Quota (0 : Int) (1000 : Int)).bind fun R23 =>
  if (!R23) = true then (some true)
  else (if (decide (S9 > (0 : Int))) = true then ((idx s.List (IntKind.i64.wrap (S9 - (1 : Int)))).bind fun E28 =>
  some (decide (E28.Tenant ≥ E14.Tenant)))
  else (some false)))).bind (fun (T17 : Bool) =>
  if T17 = true then (some (.done (.done false)))
  else (some (.go (IntKind.i64.wrap (S9 + (1 : Int)))))))
  else (some (.done (.go ()))))
  (0 : Int))
  (fun (T11 : Unit) => (spec_l19All s).bind fun R31 =>
  some (decide (R31 ≤ s.Size)))))

theorem spec_SharesOk_con (s : Shares) (V_s1 : Value) (r : Bool) (hm : spec_SharesOk s = some r) :
    Con Try.prog 22 [.agg #[.int .i64 s.Size, V_s1]] [] [(V_s1, lc 74 s.List)] (fun _ : Unit => .bool r) (fun _ => []) := by
  refine Con.intro (args := [.agg #[.int .i64 s.Size, V_s1]]) (n := 58) (val := fun r (_ : Unit) => .bool r) (post := fun _ _ => []) (m := spec_SharesOk s) Try.func22 rfl rfl rfl hm ?_
  intro w S hrd
  have HB_V_s1 := hrd _ (.head _)
  clear hrd
  unfold spec_SharesOk
  refine TW.seq ?_
  refine TW.region ?_
  refine TO.ef (Ef.box rfl (Cel.agg ⟨(One.plain rfl), (One.can (Base.can HB_V_s1)), trivial⟩)) rfl rfl rfl (fun B1 => ?_)
  refine TO.y (Y.assign rfl) rfl rfl rfl ?_
  refine TO.nil ?_
  refine TE.next ?_
  refine TW.seq ?_
  refine TW.seq ?_
  refine TW.joinBX (τ := Bool) (X := Unit) (fun T _ => [(1, .pointer (some ⟨B1, 0, none⟩)), (14, .bool T)]) (fun _ _ => [.box B1 47 [.int .i64 s.Size, V_s1]]) ?_ (fun T2 X3 => ?_)
  · refine TW.region ?_
    refine TO.y (Y.field_box kf47_0 rfl rfl) rfl rfl rfl ?_
    refine TO.y (Y.load_box (v := .int .i64 s.Size) 0 kk3 rfl rfl rfl) rfl rfl rfl ?_
    refine TO.bind fun R4 H5 => ?_
    refine TO.ef (Ef.call (rest := [.box B1 47 [.int .i64 s.Size, V_s1]]) [0] (spec_l1In_con s.Size (0 : Int) (1000 : Int)  R4 H5) kc37 rfl rfl trivial) rfl rfl rfl (fun _ => ?_)
    refine TO.y (Y.not rfl) rfl rfl rfl ?_
    refine TO.y (Y.move rfl) rfl rfl rfl ?_
    refine TO.ite (b := !R4) (fun H7 => ?_) (fun H7 => ?_)
    · refine TO.off (Gd.at 4 false 9 (!R4) rfl rfl rfl (beq_tf H7)) rfl rfl ?_
      refine TO.off (Gd.at 4 false 9 (!R4) rfl rfl rfl (beq_tf H7)) rfl rfl ?_
      refine TO.off (Gd.at 4 false 9 (!R4) rfl rfl rfl (beq_tf H7)) rfl rfl ?_
      refine TO.off (Gd.at 4 false 9 (!R4) rfl rfl rfl (beq_tf H7)) rfl rfl ?_
      refine TO.y (Y.pick_t H7 rfl rfl) rfl rfl rfl ?_
      refine TO.nil ?_
      exact TE.jb_go () [0] ⟨rfl, rfl, trivial⟩ rfl
    · refine TO.y (Y.field_box kf47_1 rfl rfl) (Gd.at 4 false 9 (!R4) rfl rfl rfl (beq_ff H7)) rfl rfl ?_
      refine TO.y (Y.load_box (v := V_s1) 0 kk45 rfl rfl rfl) (Gd.at 4 false 9 (!R4) rfl rfl rfl (beq_ff H7)) rfl rfl ?_
      refine TO.y (Y.len (l := s.List) ke45 (Base.can HB_V_s1) rfl) (Gd.at 4 false 9 (!R4) rfl rfl rfl (beq_ff H7)) rfl rfl ?_
      refine TO.y (Y.gtr rfl rfl) (Gd.at 4 false 9 (!R4) rfl rfl rfl (beq_ff H7)) rfl rfl ?_
      refine TO.y (Y.pick_f H7 rfl rfl) rfl rfl rfl ?_
      refine TO.nil ?_
      exact TE.jb_go () [0] ⟨rfl, rfl, trivial⟩ rfl
  · refine TE.next ?_
    refine TW.cond rfl (fun H8 => ?_) (fun H8 => ?_)
    · refine TW.seq ?_
      refine TW.region ?_
      refine TO.y (Y.assign rfl) rfl rfl rfl ?_
      refine TO.nil ?_
      refine TE.next ?_
      refine TW.ret ?_
      refine TE.then_ret ?_
      exact TE.leaf fun _ _ hf_ hs_ => ret_any (rs := [.tmp 2]) (vs := [.bool false]) (.inl rfl) rfl ⟨rfl, trivial⟩ hf_ hs_ ⟨(), rfl, hs_.pulls [] rfl⟩
    · refine TW.skip ?_
      refine TE.next ?_
      refine TW.seq ?_
      refine TW.seq ?_
      refine TW.region ?_
      refine TO.y (Y.assign rfl) rfl rfl rfl ?_
      refine TO.nil ?_
      refine TE.next ?_
      refine TW.joinX (τ := Unit) (X := Unit) (fun _ _ => [(1, .pointer (some ⟨B1, 0, none⟩))]) (fun _ _ => [.box B1 47 [.int .i64 s.Size, V_s1]]) ?_ (fun T11 X12 => ?_)
      · refine TW.block ?_
        refine TW.loopX (σ := Int) (X := Unit) (fun T _ => [(1, .pointer (some ⟨B1, 0, none⟩)), (3, .int .i64 T)]) (fun _ _ => [.box B1 47 [.int .i64 s.Size, V_s1]]) () [0] ⟨rfl, rfl, trivial⟩ rfl (fun S9 X10 => ?_)
        refine TW.seq ?_
        refine TW.seq ?_
        refine TW.region ?_
        refine TO.y (Y.move rfl) rfl rfl rfl ?_
        refine TO.y (Y.field_box kf47_1 rfl rfl) rfl rfl rfl ?_
        refine TO.y (Y.load_box (v := V_s1) 0 kk45 rfl rfl rfl) rfl rfl rfl ?_
        refine TO.y (Y.len (l := s.List) ke45 (Base.can HB_V_s1) rfl) rfl rfl rfl ?_
        refine TO.y (Y.lss rfl rfl) rfl rfl rfl ?_
        refine TO.nil ?_
        refine TE.next ?_
        refine TW.cond rfl (fun H13 => ?_) (fun H13 => ?_)
        · refine TW.skip ?_
          refine TE.next ?_
          refine TW.seq ?_
          refine TW.block ?_
          refine TW.seq ?_
          refine TW.region ?_
          refine TO.y (Y.field_box kf47_1 rfl rfl) rfl rfl rfl ?_
          refine TO.y (Y.load_box (v := V_s1) 0 kk45 rfl rfl rfl) rfl rfl rfl ?_
          refine TO.y (Y.move rfl) rfl rfl rfl ?_
          refine TO.bind fun E14 H15 => ?_
          refine TO.y (Y.index ke45 (Base.can HB_V_s1) H15 rfl rfl) rfl rfl rfl ?_
          refine TO.y (Y.load_el (us := [.int .i64 E14.Tenant, .int .i64 E14.Quota]) (u := .agg #[.int .i64 E14.Tenant, .int .i64 E14.Quota]) kk74 rfl (Base.can HB_V_s1) (idx_get H15).2.2 rfl rfl rfl rfl rfl) rfl rfl rfl ?_
          refine TO.ef (Ef.alloc kz74 rfl) rfl rfl rfl (fun B16 => ?_)
          refine TO.ef0 (Ef.store_box (us := [.int .i64 E14.Tenant, .int .i64 E14.Quota]) (vs' := [.int .i64 E14.Tenant, .int .i64 E14.Quota]) (is' := [.box B16 74 [.int .i64 E14.Tenant, .int .i64 E14.Quota], .box B1 47 [.int .i64 s.Size, V_s1]]) 0 kk74 rfl rfl rfl (Cel.plain rfl rfl) rfl rfl rfl rfl) rfl rfl (fun _ => ?_)
          refine TO.nil ?_
          refine TE.next ?_
          refine TW.seq ?_
          refine TW.joinBX (τ := Bool) (X := Unit) (fun T _ => [(1, .pointer (some ⟨B1, 0, none⟩)), (3, .int .i64 S9), (52, .bool T)]) (fun _ _ => [.box B1 47 [.int .i64 s.Size, V_s1]]) ?_ (fun T17 X18 => ?_)
          · refine TW.draw (isH := [.box B16 74 [.int .i64 E14.Tenant, .int .i64 E14.Quota], .box B1 47 [.int .i64 s.Size, V_s1]]) hMix ?_
            refine TA.y (listed' := #[true, false, false, false, false, false, false, false, false, false, false, false, false, false, false, false, false, false, false, false, false, false, false, false, false, false]) 0 [0, 0] rfl (Y.field_box kf74_0 rfl rfl) rfl rfl rfl (by kernel_rfl) (by kernel_rfl) (by kernel_rfl) rfl rfl ?_
            refine TA.y (listed' := #[true, true, false, false, false, false, false, false, false, false, false, false, false, false, false, false, false, false, false, false, false, false, false, false, false, false]) 1 [0, 0] rfl (Y.load_box (v := .int .i64 E14.Tenant) 0 kk3 rfl rfl rfl) rfl rfl rfl (by kernel_rfl) (by kernel_rfl) (by kernel_rfl) rfl rfl ?_
            refine TA.bind fun R19 H20 => ?_
            refine TA.one 2 (by kernel_rfl) ?_
            refine TX.ef (listed' := #[true, true, true, false, false, false, false, false, false, false, false, false, false, false, false, false, false, false, false, false, false, false, false, false, false, false]) [0, 0] rfl (Ef.call (rest := [.box B16 74 [.int .i64 E14.Tenant, .int .i64 E14.Quota], .box B1 47 [.int .i64 s.Size, V_s1]]) [0, 0] (spec_l1In_con E14.Tenant (1 : Int) (99 : Int)  R19 H20) kc37 rfl rfl trivial) rfl rfl rfl rfl (fun _ => rfl) (fun _ => ?_)
            refine TA.y (listed' := #[true, true, true, true, false, false, false, false, false, false, false, false, false, false, false, false, false, false, false, false, false, false, false, false, false, false]) 3 [0, 0] rfl (Y.not rfl) rfl rfl rfl (by kernel_rfl) (by kernel_rfl) (by kernel_rfl) rfl rfl ?_
            refine TA.y (listed' := #[true, true, true, true, true, false, false, false, false, false, false, false, false, false, false, false, false, false, false, false, false, false, false, false, false, false]) 4 [0, 0] rfl (Y.move rfl) rfl rfl rfl (by kernel_rfl) (by kernel_rfl) (by kernel_rfl) rfl rfl ?_
            refine TA.ite (b := !R19) (fun H22 => ?_) (fun H22 => ?_)
            · refine TA.off (listed' := #[true, true, true, true, true, true, false, false, false, false, false, false, false, false, false, false, false, false, false, false, false, false, false, false, false, false]) 5 [0, 0] rfl (Gd.at 4 false 31 (!R19) rfl rfl rfl (beq_tf H22)) rfl rfl (by kernel_rfl) (by kernel_rfl) (by kernel_rfl) rfl rfl ?_
              refine TA.off (listed' := #[true, true, true, true, true, true, true, false, false, false, false, false, false, false, false, false, false, false, false, false, false, false, false, false, false, false]) 6 [0, 0] rfl (Gd.at 4 false 31 (!R19) rfl rfl rfl (beq_tf H22)) rfl rfl (by kernel_rfl) (by kernel_rfl) (by kernel_rfl) rfl rfl ?_
              refine TA.off (listed' := #[true, true, true, true, true, true, true, true, false, false, false, false, false, false, false, false, false, false, false, false, false, false, false, false, false, false]) 7 [0, 0] rfl (Gd.at 4 false 31 (!R19) rfl rfl rfl (beq_tf H22)) rfl rfl (by kernel_rfl) (by kernel_rfl) (by kernel_rfl) rfl rfl ?_
              refine TA.off (listed' := #[true, true, true, true, true, true, true, true, true, false, false, false, false, false, false, false, false, false, false, false, false, false, false, false, false, false]) 8 [0, 0] rfl (Gd.at 4 false 31 (!R19) rfl rfl rfl (beq_tf H22)) rfl rfl (by kernel_rfl) (by kernel_rfl) (by kernel_rfl) rfl rfl ?_
              refine TA.y (listed' := #[true, true, true, true, true, true, true, true, true, true, false, false, false, false, false, false, false, false, false, false, false, false, false, false, false, false]) 9 [0, 0] rfl (Y.pick_t H22 rfl rfl) rfl rfl rfl (by kernel_rfl) (by kernel_rfl) (by kernel_rfl) rfl rfl ?_
              refine TA.y (listed' := #[true, true, true, true, true, true, true, true, true, true, true, false, false, false, false, false, false, false, false, false, false, false, false, false, false, false]) 10 [0, 0] rfl (Y.move rfl) rfl rfl rfl (by kernel_rfl) (by kernel_rfl) (by kernel_rfl) rfl rfl ?_
              refine TA.off (listed' := #[true, true, true, true, true, true, true, true, true, true, true, true, false, false, false, false, false, false, false, false, false, false, false, false, false, false]) 11 [0, 0] rfl (Gd.at 10 false 37 true rfl rfl rfl rfl) rfl rfl (by kernel_rfl) (by kernel_rfl) (by kernel_rfl) rfl rfl ?_
              refine TA.off (listed' := #[true, true, true, true, true, true, true, true, true, true, true, true, true, false, false, false, false, false, false, false, false, false, false, false, false, false]) 12 [0, 0] rfl (Gd.at 10 false 37 true rfl rfl rfl rfl) rfl rfl (by kernel_rfl) (by kernel_rfl) (by kernel_rfl) rfl rfl ?_
              refine TA.off (listed' := #[true, true, true, true, true, true, true, true, true, true, true, true, true, true, false, false, false, false, false, false, false, false, false, false, false, false]) 13 [0, 0] rfl (Gd.at 10 false 37 true rfl rfl rfl rfl) rfl rfl (by kernel_rfl) (by kernel_rfl) (by kernel_rfl) rfl rfl ?_
              refine TA.off (listed' := #[true, true, true, true, true, true, true, true, true, true, true, true, true, true, true, false, false, false, false, false, false, false, false, false, false, false]) 14 [0, 0] rfl (Gd.un 13 true 40 rfl rfl rfl) rfl rfl (by kernel_rfl) (by kernel_rfl) (by kernel_rfl) rfl rfl ?_
              refine TA.off (listed' := #[true, true, true, true, true, true, true, true, true, true, true, true, true, true, true, true, false, false, false, false, false, false, false, false, false, false]) 15 [0, 0] rfl (Gd.un 13 true 40 rfl rfl rfl) rfl rfl (by kernel_rfl) (by kernel_rfl) (by kernel_rfl) rfl rfl ?_
              refine TA.off (listed' := #[true, true, true, true, true, true, true, true, true, true, true, true, true, true, true, true, true, false, false, false, false, false, false, false, false, false]) 16 [0, 0] rfl (Gd.un 13 true 40 rfl rfl rfl) rfl rfl (by kernel_rfl) (by kernel_rfl) (by kernel_rfl) rfl rfl ?_
              refine TA.off (listed' := #[true, true, true, true, true, true, true, true, true, true, true, true, true, true, true, true, true, true, false, false, false, false, false, false, false, false]) 17 [0, 0] rfl (Gd.un 13 true 40 rfl rfl rfl) rfl rfl (by kernel_rfl) (by kernel_rfl) (by kernel_rfl) rfl rfl ?_
              refine TA.off (listed' := #[true, true, true, true, true, true, true, true, true, true, true, true, true, true, true, true, true, true, true, false, false, false, false, false, false, false]) 18 [0, 0] rfl (Gd.un 13 true 40 rfl rfl rfl) rfl rfl (by kernel_rfl) (by kernel_rfl) (by kernel_rfl) rfl rfl ?_
              refine TA.off (listed' := #[true, true, true, true, true, true, true, true, true, true, true, true, true, true, true, true, true, true, true, true, false, false, false, false, false, false]) 19 [0, 0] rfl (Gd.un 13 true 40 rfl rfl rfl) rfl rfl (by kernel_rfl) (by kernel_rfl) (by kernel_rfl) rfl rfl ?_
              refine TA.off (listed' := #[true, true, true, true, true, true, true, true, true, true, true, true, true, true, true, true, true, true, true, true, true, false, false, false, false, false]) 20 [0, 0] rfl (Gd.un 13 true 40 rfl rfl rfl) rfl rfl (by kernel_rfl) (by kernel_rfl) (by kernel_rfl) rfl rfl ?_
              refine TA.off (listed' := #[true, true, true, true, true, true, true, true, true, true, true, true, true, true, true, true, true, true, true, true, true, true, false, false, false, false]) 21 [0, 0] rfl (Gd.un 13 true 40 rfl rfl rfl) rfl rfl (by kernel_rfl) (by kernel_rfl) (by kernel_rfl) rfl rfl ?_
              refine TA.off (listed' := #[true, true, true, true, true, true, true, true, true, true, true, true, true, true, true, true, true, true, true, true, true, true, true, false, false, false]) 22 [0, 0] rfl (Gd.un 13 true 40 rfl rfl rfl) rfl rfl (by kernel_rfl) (by kernel_rfl) (by kernel_rfl) rfl rfl ?_
              refine TA.off (listed' := #[true, true, true, true, true, true, true, true, true, true, true, true, true, true, true, true, true, true, true, true, true, true, true, true, false, false]) 23 [0, 0] rfl (Gd.un 13 true 40 rfl rfl rfl) rfl rfl (by kernel_rfl) (by kernel_rfl) (by kernel_rfl) rfl rfl ?_
              refine TA.off (listed' := #[true, true, true, true, true, true, true, true, true, true, true, true, true, true, true, true, true, true, true, true, true, true, true, true, true, false]) 24 [0, 0] rfl (Gd.at 10 false 37 true rfl rfl rfl rfl) rfl rfl (by kernel_rfl) (by kernel_rfl) (by kernel_rfl) rfl rfl ?_
              refine TA.y (listed' := #[true, true, true, true, true, true, true, true, true, true, true, true, true, true, true, true, true, true, true, true, true, true, true, true, true, true]) 25 [0, 0] rfl (Y.pick_t rfl rfl rfl) rfl rfl rfl (by kernel_rfl) (by kernel_rfl) (by kernel_rfl) rfl rfl ?_
              refine TA.nil (by kernel_rfl) ?_
              exact TE.jb_go () [1] ⟨rfl, rfl, rfl, trivial⟩ rfl
            · refine TA.y (listed' := #[true, true, true, true, true, true, false, false, false, false, false, false, false, false, false, false, false, false, false, false, false, false, false, false, false, false]) 5 [0, 0] rfl (Y.field_box kf74_1 rfl rfl) (Gd.at 4 false 31 (!R19) rfl rfl rfl (beq_ff H22)) rfl rfl (by kernel_rfl) (by kernel_rfl) (by kernel_rfl) rfl rfl ?_
              refine TA.y (listed' := #[true, true, true, true, true, true, true, false, false, false, false, false, false, false, false, false, false, false, false, false, false, false, false, false, false, false]) 6 [0, 0] rfl (Y.load_box (v := .int .i64 E14.Quota) 0 kk3 rfl rfl rfl) (Gd.at 4 false 31 (!R19) rfl rfl rfl (beq_ff H22)) rfl rfl (by kernel_rfl) (by kernel_rfl) (by kernel_rfl) rfl rfl ?_
              refine TA.bind fun R23 H24 => ?_
              refine TA.one 7 (by kernel_rfl) ?_
              refine TX.ef (listed' := #[true, true, true, true, true, true, true, true, false, false, false, false, false, false, false, false, false, false, false, false, false, false, false, false, false, false]) [0, 0] rfl (Ef.call (rest := [.box B16 74 [.int .i64 E14.Tenant, .int .i64 E14.Quota], .box B1 47 [.int .i64 s.Size, V_s1]]) [0, 0] (spec_l1In_con E14.Quota (0 : Int) (1000 : Int)  R23 H24) kc37 rfl rfl trivial) (Gd.at 4 false 31 (!R19) rfl rfl rfl (beq_ff H22)) rfl rfl rfl (fun _ => rfl) (fun _ => ?_)
              refine TA.y (listed' := #[true, true, true, true, true, true, true, true, true, false, false, false, false, false, false, false, false, false, false, false, false, false, false, false, false, false]) 8 [0, 0] rfl (Y.not rfl) (Gd.at 4 false 31 (!R19) rfl rfl rfl (beq_ff H22)) rfl rfl (by kernel_rfl) (by kernel_rfl) (by kernel_rfl) rfl rfl ?_
              refine TA.y (listed' := #[true, true, true, true, true, true, true, true, true, true, false, false, false, false, false, false, false, false, false, false, false, false, false, false, false, false]) 9 [0, 0] rfl (Y.pick_f H22 rfl rfl) rfl rfl rfl (by kernel_rfl) (by kernel_rfl) (by kernel_rfl) rfl rfl ?_
              refine TA.y (listed' := #[true, true, true, true, true, true, true, true, true, true, true, false, false, false, false, false, false, false, false, false, false, false, false, false, false, false]) 10 [0, 0] rfl (Y.move rfl) rfl rfl rfl (by kernel_rfl) (by kernel_rfl) (by kernel_rfl) rfl rfl ?_
              refine TA.ite (b := !R23) (fun H26 => ?_) (fun H26 => ?_)
              · refine TA.off (listed' := #[true, true, true, true, true, true, true, true, true, true, true, true, false, false, false, false, false, false, false, false, false, false, false, false, false, false]) 11 [0, 0] rfl (Gd.at 10 false 37 (!R23) rfl rfl rfl (beq_tf H26)) rfl rfl (by kernel_rfl) (by kernel_rfl) (by kernel_rfl) rfl rfl ?_
                refine TA.off (listed' := #[true, true, true, true, true, true, true, true, true, true, true, true, true, false, false, false, false, false, false, false, false, false, false, false, false, false]) 12 [0, 0] rfl (Gd.at 10 false 37 (!R23) rfl rfl rfl (beq_tf H26)) rfl rfl (by kernel_rfl) (by kernel_rfl) (by kernel_rfl) rfl rfl ?_
                refine TA.off (listed' := #[true, true, true, true, true, true, true, true, true, true, true, true, true, true, false, false, false, false, false, false, false, false, false, false, false, false]) 13 [0, 0] rfl (Gd.at 10 false 37 (!R23) rfl rfl rfl (beq_tf H26)) rfl rfl (by kernel_rfl) (by kernel_rfl) (by kernel_rfl) rfl rfl ?_
                refine TA.off (listed' := #[true, true, true, true, true, true, true, true, true, true, true, true, true, true, true, false, false, false, false, false, false, false, false, false, false, false]) 14 [0, 0] rfl (Gd.un 13 true 40 rfl rfl rfl) rfl rfl (by kernel_rfl) (by kernel_rfl) (by kernel_rfl) rfl rfl ?_
                refine TA.off (listed' := #[true, true, true, true, true, true, true, true, true, true, true, true, true, true, true, true, false, false, false, false, false, false, false, false, false, false]) 15 [0, 0] rfl (Gd.un 13 true 40 rfl rfl rfl) rfl rfl (by kernel_rfl) (by kernel_rfl) (by kernel_rfl) rfl rfl ?_
                refine TA.off (listed' := #[true, true, true, true, true, true, true, true, true, true, true, true, true, true, true, true, true, false, false, false, false, false, false, false, false, false]) 16 [0, 0] rfl (Gd.un 13 true 40 rfl rfl rfl) rfl rfl (by kernel_rfl) (by kernel_rfl) (by kernel_rfl) rfl rfl ?_
                refine TA.off (listed' := #[true, true, true, true, true, true, true, true, true, true, true, true, true, true, true, true, true, true, false, false, false, false, false, false, false, false]) 17 [0, 0] rfl (Gd.un 13 true 40 rfl rfl rfl) rfl rfl (by kernel_rfl) (by kernel_rfl) (by kernel_rfl) rfl rfl ?_
                refine TA.off (listed' := #[true, true, true, true, true, true, true, true, true, true, true, true, true, true, true, true, true, true, true, false, false, false, false, false, false, false]) 18 [0, 0] rfl (Gd.un 13 true 40 rfl rfl rfl) rfl rfl (by kernel_rfl) (by kernel_rfl) (by kernel_rfl) rfl rfl ?_
                refine TA.off (listed' := #[true, true, true, true, true, true, true, true, true, true, true, true, true, true, true, true, true, true, true, true, false, false, false, false, false, false]) 19 [0, 0] rfl (Gd.un 13 true 40 rfl rfl rfl) rfl rfl (by kernel_rfl) (by kernel_rfl) (by kernel_rfl) rfl rfl ?_
                refine TA.off (listed' := #[true, true, true, true, true, true, true, true, true, true, true, true, true, true, true, true, true, true, true, true, true, false, false, false, false, false]) 20 [0, 0] rfl (Gd.un 13 true 40 rfl rfl rfl) rfl rfl (by kernel_rfl) (by kernel_rfl) (by kernel_rfl) rfl rfl ?_
                refine TA.off (listed' := #[true, true, true, true, true, true, true, true, true, true, true, true, true, true, true, true, true, true, true, true, true, true, false, false, false, false]) 21 [0, 0] rfl (Gd.un 13 true 40 rfl rfl rfl) rfl rfl (by kernel_rfl) (by kernel_rfl) (by kernel_rfl) rfl rfl ?_
                refine TA.off (listed' := #[true, true, true, true, true, true, true, true, true, true, true, true, true, true, true, true, true, true, true, true, true, true, true, false, false, false]) 22 [0, 0] rfl (Gd.un 13 true 40 rfl rfl rfl) rfl rfl (by kernel_rfl) (by kernel_rfl) (by kernel_rfl) rfl rfl ?_
                refine TA.off (listed' := #[true, true, true, true, true, true, true, true, true, true, true, true, true, true, true, true, true, true, true, true, true, true, true, true, false, false]) 23 [0, 0] rfl (Gd.un 13 true 40 rfl rfl rfl) rfl rfl (by kernel_rfl) (by kernel_rfl) (by kernel_rfl) rfl rfl ?_
                refine TA.off (listed' := #[true, true, true, true, true, true, true, true, true, true, true, true, true, true, true, true, true, true, true, true, true, true, true, true, true, false]) 24 [0, 0] rfl (Gd.at 10 false 37 (!R23) rfl rfl rfl (beq_tf H26)) rfl rfl (by kernel_rfl) (by kernel_rfl) (by kernel_rfl) rfl rfl ?_
                refine TA.y (listed' := #[true, true, true, true, true, true, true, true, true, true, true, true, true, true, true, true, true, true, true, true, true, true, true, true, true, true]) 25 [0, 0] rfl (Y.pick_t H26 rfl rfl) rfl rfl rfl (by kernel_rfl) (by kernel_rfl) (by kernel_rfl) rfl rfl ?_
                refine TA.nil (by kernel_rfl) ?_
                exact TE.jb_go () [1] ⟨rfl, rfl, rfl, trivial⟩ rfl
              · refine TA.y (listed' := #[true, true, true, true, true, true, true, true, true, true, true, true, false, false, false, false, false, false, false, false, false, false, false, false, false, false]) 11 [0, 0] rfl (Y.move rfl) (Gd.at 10 false 37 (!R23) rfl rfl rfl (beq_ff H26)) rfl rfl (by kernel_rfl) (by kernel_rfl) (by kernel_rfl) rfl rfl ?_
                refine TA.y (listed' := #[true, true, true, true, true, true, true, true, true, true, true, true, true, false, false, false, false, false, false, false, false, false, false, false, false, false]) 12 [0, 0] rfl (Y.gtr rfl rfl) (Gd.at 10 false 37 (!R23) rfl rfl rfl (beq_ff H26)) rfl rfl (by kernel_rfl) (by kernel_rfl) (by kernel_rfl) rfl rfl ?_
                refine TA.y (listed' := #[true, true, true, true, true, true, true, true, true, true, true, true, true, true, false, false, false, false, false, false, false, false, false, false, false, false]) 13 [0, 0] rfl (Y.move rfl) (Gd.at 10 false 37 (!R23) rfl rfl rfl (beq_ff H26)) rfl rfl (by kernel_rfl) (by kernel_rfl) (by kernel_rfl) rfl rfl ?_
                refine TA.ite (b := decide (S9 > (0 : Int))) (fun H27 => ?_) (fun H27 => ?_)
                · refine TA.y (listed' := #[true, true, true, true, true, true, true, true, true, true, true, true, true, true, true, false, false, false, false, false, false, false, false, false, false, false]) 14 [0, 0] rfl (Y.field_box kf47_1 rfl rfl) (Gd.at 13 true 40 (decide (S9 > (0 : Int))) rfl rfl rfl (beq_tt H27)) rfl rfl (by kernel_rfl) (by kernel_rfl) (by kernel_rfl) rfl rfl ?_
                  refine TA.y (listed' := #[true, true, true, true, true, true, true, true, true, true, true, true, true, true, true, true, false, false, false, false, false, false, false, false, false, false]) 15 [0, 0] rfl (Y.load_box (v := V_s1) 1 kk45 rfl rfl rfl) (Gd.at 13 true 40 (decide (S9 > (0 : Int))) rfl rfl rfl (beq_tt H27)) rfl rfl (by kernel_rfl) (by kernel_rfl) (by kernel_rfl) rfl rfl ?_
                  refine TA.y (listed' := #[true, true, true, true, true, true, true, true, true, true, true, true, true, true, true, true, true, false, false, false, false, false, false, false, false, false]) 16 [0, 0] rfl (Y.move rfl) (Gd.at 13 true 40 (decide (S9 > (0 : Int))) rfl rfl rfl (beq_tt H27)) rfl rfl (by kernel_rfl) (by kernel_rfl) (by kernel_rfl) rfl rfl ?_
                  refine TA.y (listed' := #[true, true, true, true, true, true, true, true, true, true, true, true, true, true, true, true, true, true, false, false, false, false, false, false, false, false]) 17 [0, 0] rfl (Y.sub rfl rfl) (Gd.at 13 true 40 (decide (S9 > (0 : Int))) rfl rfl rfl (beq_tt H27)) rfl rfl (by kernel_rfl) (by kernel_rfl) (by kernel_rfl) rfl rfl ?_
                  refine TA.bind fun E28 H29 => ?_
                  refine TA.y (listed' := #[true, true, true, true, true, true, true, true, true, true, true, true, true, true, true, true, true, true, true, false, false, false, false, false, false, false]) 18 [0, 0] rfl (Y.index ke45 (Base.can HB_V_s1) H29 rfl rfl) (Gd.at 13 true 40 (decide (S9 > (0 : Int))) rfl rfl rfl (beq_tt H27)) rfl rfl (by kernel_rfl) (by kernel_rfl) (by kernel_rfl) rfl rfl ?_
                  refine TA.y (listed' := #[true, true, true, true, true, true, true, true, true, true, true, true, true, true, true, true, true, true, true, true, false, false, false, false, false, false]) 19 [0, 0] rfl (Y.field_el kf74_0 (Base.can HB_V_s1) (idx_get H29).2.2 rfl rfl) (Gd.at 13 true 40 (decide (S9 > (0 : Int))) rfl rfl rfl (beq_tt H27)) rfl rfl (by kernel_rfl) (by kernel_rfl) (by kernel_rfl) rfl rfl ?_
                  refine TA.y (listed' := #[true, true, true, true, true, true, true, true, true, true, true, true, true, true, true, true, true, true, true, true, true, false, false, false, false, false]) 20 [0, 0] rfl (Y.load_el (us := [.int .i64 E28.Tenant]) (u := .int .i64 E28.Tenant) kk3 rfl (Base.can HB_V_s1) (idx_get H29).2.2 rfl rfl rfl rfl rfl) (Gd.at 13 true 40 (decide (S9 > (0 : Int))) rfl rfl rfl (beq_tt H27)) rfl rfl (by kernel_rfl) (by kernel_rfl) (by kernel_rfl) rfl rfl ?_
                  refine TA.y (listed' := #[true, true, true, true, true, true, true, true, true, true, true, true, true, true, true, true, true, true, true, true, true, true, false, false, false, false]) 21 [0, 0] rfl (Y.field_box kf74_0 rfl rfl) (Gd.at 13 true 40 (decide (S9 > (0 : Int))) rfl rfl rfl (beq_tt H27)) rfl rfl (by kernel_rfl) (by kernel_rfl) (by kernel_rfl) rfl rfl ?_
                  refine TA.y (listed' := #[true, true, true, true, true, true, true, true, true, true, true, true, true, true, true, true, true, true, true, true, true, true, true, false, false, false]) 22 [0, 0] rfl (Y.load_box (v := .int .i64 E14.Tenant) 0 kk3 rfl rfl rfl) (Gd.at 13 true 40 (decide (S9 > (0 : Int))) rfl rfl rfl (beq_tt H27)) rfl rfl (by kernel_rfl) (by kernel_rfl) (by kernel_rfl) rfl rfl ?_
                  refine TA.y (listed' := #[true, true, true, true, true, true, true, true, true, true, true, true, true, true, true, true, true, true, true, true, true, true, true, true, false, false]) 23 [0, 0] rfl (Y.geq rfl rfl) (Gd.at 13 true 40 (decide (S9 > (0 : Int))) rfl rfl rfl (beq_tt H27)) rfl rfl (by kernel_rfl) (by kernel_rfl) (by kernel_rfl) rfl rfl ?_
                  refine TA.y (listed' := #[true, true, true, true, true, true, true, true, true, true, true, true, true, true, true, true, true, true, true, true, true, true, true, true, true, false]) 24 [0, 0] rfl (Y.pick_t H27 rfl rfl) (Gd.at 10 false 37 (!R23) rfl rfl rfl (beq_ff H26)) rfl rfl (by kernel_rfl) (by kernel_rfl) (by kernel_rfl) rfl rfl ?_
                  refine TA.y (listed' := #[true, true, true, true, true, true, true, true, true, true, true, true, true, true, true, true, true, true, true, true, true, true, true, true, true, true]) 25 [0, 0] rfl (Y.pick_f H26 rfl rfl) rfl rfl rfl (by kernel_rfl) (by kernel_rfl) (by kernel_rfl) rfl rfl ?_
                  refine TA.nil (by kernel_rfl) ?_
                  exact TE.jb_go () [1] ⟨rfl, rfl, rfl, trivial⟩ rfl
                · refine TA.off (listed' := #[true, true, true, true, true, true, true, true, true, true, true, true, true, true, true, false, false, false, false, false, false, false, false, false, false, false]) 14 [0, 0] rfl (Gd.at 13 true 40 (decide (S9 > (0 : Int))) rfl rfl rfl (beq_ft H27)) rfl rfl (by kernel_rfl) (by kernel_rfl) (by kernel_rfl) rfl rfl ?_
                  refine TA.off (listed' := #[true, true, true, true, true, true, true, true, true, true, true, true, true, true, true, true, false, false, false, false, false, false, false, false, false, false]) 15 [0, 0] rfl (Gd.at 13 true 40 (decide (S9 > (0 : Int))) rfl rfl rfl (beq_ft H27)) rfl rfl (by kernel_rfl) (by kernel_rfl) (by kernel_rfl) rfl rfl ?_
                  refine TA.off (listed' := #[true, true, true, true, true, true, true, true, true, true, true, true, true, true, true, true, true, false, false, false, false, false, false, false, false, false]) 16 [0, 0] rfl (Gd.at 13 true 40 (decide (S9 > (0 : Int))) rfl rfl rfl (beq_ft H27)) rfl rfl (by kernel_rfl) (by kernel_rfl) (by kernel_rfl) rfl rfl ?_
                  refine TA.off (listed' := #[true, true, true, true, true, true, true, true, true, true, true, true, true, true, true, true, true, true, false, false, false, false, false, false, false, false]) 17 [0, 0] rfl (Gd.at 13 true 40 (decide (S9 > (0 : Int))) rfl rfl rfl (beq_ft H27)) rfl rfl (by kernel_rfl) (by kernel_rfl) (by kernel_rfl) rfl rfl ?_
                  refine TA.off (listed' := #[true, true, true, true, true, true, true, true, true, true, true, true, true, true, true, true, true, true, true, false, false, false, false, false, false, false]) 18 [0, 0] rfl (Gd.at 13 true 40 (decide (S9 > (0 : Int))) rfl rfl rfl (beq_ft H27)) rfl rfl (by kernel_rfl) (by kernel_rfl) (by kernel_rfl) rfl rfl ?_
                  refine TA.off (listed' := #[true, true, true, true, true, true, true, true, true, true, true, true, true, true, true, true, true, true, true, true, false, false, false, false, false, false]) 19 [0, 0] rfl (Gd.at 13 true 40 (decide (S9 > (0 : Int))) rfl rfl rfl (beq_ft H27)) rfl rfl (by kernel_rfl) (by kernel_rfl) (by kernel_rfl) rfl rfl ?_
                  refine TA.off (listed' := #[true, true, true, true, true, true, true, true, true, true, true, true, true, true, true, true, true, true, true, true, true, false, false, false, false, false]) 20 [0, 0] rfl (Gd.at 13 true 40 (decide (S9 > (0 : Int))) rfl rfl rfl (beq_ft H27)) rfl rfl (by kernel_rfl) (by kernel_rfl) (by kernel_rfl) rfl rfl ?_
                  refine TA.off (listed' := #[true, true, true, true, true, true, true, true, true, true, true, true, true, true, true, true, true, true, true, true, true, true, false, false, false, false]) 21 [0, 0] rfl (Gd.at 13 true 40 (decide (S9 > (0 : Int))) rfl rfl rfl (beq_ft H27)) rfl rfl (by kernel_rfl) (by kernel_rfl) (by kernel_rfl) rfl rfl ?_
                  refine TA.off (listed' := #[true, true, true, true, true, true, true, true, true, true, true, true, true, true, true, true, true, true, true, true, true, true, true, false, false, false]) 22 [0, 0] rfl (Gd.at 13 true 40 (decide (S9 > (0 : Int))) rfl rfl rfl (beq_ft H27)) rfl rfl (by kernel_rfl) (by kernel_rfl) (by kernel_rfl) rfl rfl ?_
                  refine TA.off (listed' := #[true, true, true, true, true, true, true, true, true, true, true, true, true, true, true, true, true, true, true, true, true, true, true, true, false, false]) 23 [0, 0] rfl (Gd.at 13 true 40 (decide (S9 > (0 : Int))) rfl rfl rfl (beq_ft H27)) rfl rfl (by kernel_rfl) (by kernel_rfl) (by kernel_rfl) rfl rfl ?_
                  refine TA.y (listed' := #[true, true, true, true, true, true, true, true, true, true, true, true, true, true, true, true, true, true, true, true, true, true, true, true, true, false]) 24 [0, 0] rfl (Y.pick_f H27 rfl rfl) (Gd.at 10 false 37 (!R23) rfl rfl rfl (beq_ff H26)) rfl rfl (by kernel_rfl) (by kernel_rfl) (by kernel_rfl) rfl rfl ?_
                  refine TA.y (listed' := #[true, true, true, true, true, true, true, true, true, true, true, true, true, true, true, true, true, true, true, true, true, true, true, true, true, true]) 25 [0, 0] rfl (Y.pick_f H26 rfl rfl) rfl rfl rfl (by kernel_rfl) (by kernel_rfl) (by kernel_rfl) rfl rfl ?_
                  refine TA.nil (by kernel_rfl) ?_
                  exact TE.jb_go () [1] ⟨rfl, rfl, rfl, trivial⟩ rfl
          · refine TE.next ?_
            refine TW.cond rfl (fun H30 => ?_) (fun H30 => ?_)
            · refine TW.seq ?_
              refine TW.region ?_
              refine TO.y (Y.assign rfl) rfl rfl rfl ?_
              refine TO.nil ?_
              refine TE.next ?_
              refine TW.ret ?_
              refine TE.block_ret ?_
              refine TE.then_ret ?_
              refine TE.lp_ret ?_
              refine TE.block_ret ?_
              refine TE.jn_done ?_
              refine TE.then_ret ?_
              exact TE.leaf fun _ _ hf_ hs_ => ret_any (rs := [.tmp 2]) (vs := [.bool false]) (.inl rfl) rfl ⟨rfl, trivial⟩ hf_ hs_ ⟨(), rfl, hs_.pulls [] rfl⟩
            · refine TW.skip ?_
              refine TE.block_normal ?_
              refine TE.next ?_
              refine TW.region ?_
              refine TO.y (Y.move rfl) rfl rfl rfl ?_
              refine TO.y (Y.add rfl rfl) rfl rfl rfl ?_
              refine TO.y (Y.assign rfl) rfl rfl rfl ?_
              refine TO.nil ?_
              exact TE.lp_go () [0] ⟨rfl, rfl, trivial⟩ rfl
        · refine TW.exit ?_
          refine TE.then_exit ?_
          refine TE.lp_exit ?_
          refine TE.block_exit ?_
          exact TE.jn_go () [0] ⟨rfl, trivial⟩ rfl
      · refine TE.next ?_
        refine TW.seq ?_
        refine TW.draw (isH := [.box B1 47 [.int .i64 s.Size, V_s1]]) hMix ?_
        refine TA.y (listed' := #[true, false, false, false, false, false]) 0 [0] rfl (Y.load_box (v := .agg #[.int .i64 s.Size, V_s1]) 0 kk47 rfl rfl rfl) rfl rfl rfl (by kernel_rfl) (by kernel_rfl) (by kernel_rfl) rfl rfl ?_
        refine TA.y (listed' := #[true, false, true, false, false, false]) 2 [0] rfl (Y.field_box kf47_0 rfl rfl) rfl rfl rfl (by kernel_rfl) (by kernel_rfl) (by kernel_rfl) rfl rfl ?_
        refine TA.y (listed' := #[true, false, true, true, false, false]) 3 [0] rfl (Y.load_box (v := .int .i64 s.Size) 0 kk3 rfl rfl rfl) rfl rfl rfl (by kernel_rfl) (by kernel_rfl) (by kernel_rfl) rfl rfl ?_
        refine TA.bind fun R31 H32 => ?_
        refine TA.one 1 (by kernel_rfl) ?_
        refine TX.ef (listed' := #[true, true, true, true, false, false]) [0] rfl (Ef.call (rest := [.box B1 47 [.int .i64 s.Size, V_s1]]) [0] (spec_l19All_con s V_s1 R31 H32) kc44 rfl rfl ⟨(Base.can HB_V_s1), trivial⟩) rfl rfl rfl rfl (fun _ => rfl) (fun _ => ?_)
        refine TA.y (listed' := #[true, true, true, true, true, false]) 4 [0] rfl (Y.leq rfl rfl) rfl rfl rfl (by kernel_rfl) (by kernel_rfl) (by kernel_rfl) rfl rfl ?_
        refine TA.y (listed' := #[true, true, true, true, true, true]) 5 [0] rfl (Y.assign rfl) rfl rfl rfl (by kernel_rfl) (by kernel_rfl) (by kernel_rfl) rfl rfl ?_
        refine TA.nil (by kernel_rfl) ?_
        refine TE.next ?_
        refine TW.ret ?_
        exact TE.leaf fun _ _ hf_ hs_ => ret_any (rs := [.tmp 2]) (vs := [.bool (decide (R31 ≤ s.Size))]) (.inl rfl) rfl ⟨rfl, trivial⟩ hf_ hs_ ⟨(), rfl, hs_.pulls [] rfl⟩

/-- loop.example/g00950/impl.isTenant -/
noncomputable def impl_isTenant (n : Int) : Option Bool :=
  (impl_inRange n (1 : Int) (99 : Int)).bind fun R1 =>
  some R1

theorem impl_isTenant_con (n : Int)  (r : Bool) (hm : impl_isTenant n = some r) :
    Con Try.prog 46 [.int .i64 n] [] [] (fun _ : Unit => .bool r) (fun _ => []) := by
  refine Con.intro (args := [.int .i64 n]) (n := 5) (val := fun r (_ : Unit) => .bool r) (post := fun _ _ => []) (m := impl_isTenant n) Try.func46 rfl rfl rfl hm ?_
  intro w S _
  unfold impl_isTenant
  refine TW.seq ?_
  refine TW.region ?_
  refine TO.y (Y.assign rfl) rfl rfl rfl ?_
  refine TO.nil ?_
  refine TE.next ?_
  refine TW.seq ?_
  refine TW.region ?_
  refine TO.y (Y.move rfl) rfl rfl rfl ?_
  refine TO.bind fun R1 H2 => ?_
  refine TO.ef (Ef.call (rest := []) [] (impl_inRange_con n (1 : Int) (99 : Int)  R1 H2) kc38 rfl rfl trivial) rfl rfl rfl (fun _ => ?_)
  refine TO.y (Y.assign rfl) rfl rfl rfl ?_
  refine TO.nil ?_
  refine TE.next ?_
  refine TW.ret ?_
  exact TE.leaf fun _ _ hf_ hs_ => ret_any (rs := [.tmp 2]) (vs := [.bool R1]) (.inl rfl) rfl ⟨rfl, trivial⟩ hf_ hs_ ⟨(), rfl, hs_.pulls [] rfl⟩

/-- loop.example/g00950/impl.needOf -/
noncomputable def impl_needOf (s : Shares) : Option Int :=
  bindC (loopO (fun (S2 : Int × Int) => if (decide (S2.2 < ((s.List.length : Nat) : Int))) = true then ((idx s.List S2.2).bind fun E7 =>
  (impl_Need E7.Quota).bind fun R10 =>
  some (.go (IntKind.i64.wrap (S2.1 + R10), IntKind.i64.wrap (S2.2 + (1 : Int)))))
  else (some (.done (.go S2.1))))
  ((4 : Int), (0 : Int)))
  (fun (T4 : Int) => some T4)

theorem impl_needOf_con (s : Shares) (V_s1 : Value) (r : Int) (hm : impl_needOf s = some r) :
    Con Try.prog 47 [.agg #[.int .i64 s.Size, V_s1]] [] [(V_s1, lc 74 s.List)] (fun _ : Unit => .int .i64 r) (fun _ => []) := by
  refine Con.intro (args := [.agg #[.int .i64 s.Size, V_s1]]) (n := 20) (val := fun r (_ : Unit) => .int .i64 r) (post := fun _ _ => []) (m := impl_needOf s) Try.func47 rfl rfl rfl hm ?_
  intro w S hrd
  have HB_V_s1 := hrd _ (.head _)
  clear hrd
  unfold impl_needOf
  refine TW.seq ?_
  refine TW.region ?_
  refine TO.ef (Ef.box rfl (Cel.agg ⟨(One.plain rfl), (One.can (Base.can HB_V_s1)), trivial⟩)) rfl rfl rfl (fun B1 => ?_)
  refine TO.y (Y.assign rfl) rfl rfl rfl ?_
  refine TO.nil ?_
  refine TE.next ?_
  refine TW.seq ?_
  refine TW.region ?_
  refine TO.y (Y.assign rfl) rfl rfl rfl ?_
  refine TO.nil ?_
  refine TE.next ?_
  refine TW.seq ?_
  refine TW.seq ?_
  refine TW.region ?_
  refine TO.y (Y.field_box kf47_1 rfl rfl) rfl rfl rfl ?_
  refine TO.y (Y.load_box (v := V_s1) 0 kk45 rfl rfl rfl) rfl rfl rfl ?_
  refine TO.y (Y.len (l := s.List) ke45 (Base.can HB_V_s1) rfl) rfl rfl rfl ?_
  refine TO.y (Y.move rfl) rfl rfl rfl ?_
  refine TO.nil ?_
  refine TE.next ?_
  refine TW.joinX (τ := Int) (X := Unit) (fun T _ => [(3, .int .i64 T)]) (fun _ _ => []) ?_ (fun T4 X5 => ?_)
  · refine TW.block ?_
    refine TW.loopX (σ := Int × Int) (X := Unit) (fun T _ => [(3, .int .i64 T.1), (7, V_s1), (8, .int .i64 ((s.List.length : Nat) : Int)), (9, .int .i64 T.2)]) (fun _ _ => []) () [] ⟨rfl, rfl, rfl, rfl, trivial⟩ rfl (fun S2 X3 => ?_)
    refine TW.seq ?_
    refine TW.region ?_
    refine TO.y (Y.lss rfl rfl) rfl rfl rfl ?_
    refine TO.nil ?_
    refine TE.next ?_
    refine TW.seq ?_
    refine TW.cond rfl (fun H6 => ?_) (fun H6 => ?_)
    · refine TW.skip ?_
      refine TE.next ?_
      refine TW.seq ?_
      refine TW.block ?_
      refine TW.seq ?_
      refine TW.region ?_
      refine TO.bind fun E7 H8 => ?_
      refine TO.y (Y.index ke45 (Base.can HB_V_s1) H8 rfl rfl) rfl rfl rfl ?_
      refine TO.y (Y.load_el (us := [.int .i64 E7.Tenant, .int .i64 E7.Quota]) (u := .agg #[.int .i64 E7.Tenant, .int .i64 E7.Quota]) kk74 rfl (Base.can HB_V_s1) (idx_get H8).2.2 rfl rfl rfl rfl rfl) rfl rfl rfl ?_
      refine TO.ef (Ef.alloc kz74 rfl) rfl rfl rfl (fun B9 => ?_)
      refine TO.ef0 (Ef.store_box (us := [.int .i64 E7.Tenant, .int .i64 E7.Quota]) (vs' := [.int .i64 E7.Tenant, .int .i64 E7.Quota]) (is' := [.box B9 74 [.int .i64 E7.Tenant, .int .i64 E7.Quota]]) 0 kk74 rfl rfl rfl (Cel.plain rfl rfl) rfl rfl rfl rfl) rfl rfl (fun _ => ?_)
      refine TO.nil ?_
      refine TE.next ?_
      refine TW.region ?_
      refine TO.y (Y.move rfl) rfl rfl rfl ?_
      refine TO.y (Y.field_box kf74_1 rfl rfl) rfl rfl rfl ?_
      refine TO.y (Y.load_box (v := .int .i64 E7.Quota) 0 kk3 rfl rfl rfl) rfl rfl rfl ?_
      refine TO.bind fun R10 H11 => ?_
      refine TO.ef (Ef.call (rest := [.box B9 74 [.int .i64 E7.Tenant, .int .i64 E7.Quota]]) [0] (impl_Need_con E7.Quota  R10 H11) kc10 rfl rfl trivial) rfl rfl rfl (fun _ => ?_)
      refine TO.y (Y.add rfl rfl) rfl rfl rfl ?_
      refine TO.y (Y.assign rfl) rfl rfl rfl ?_
      refine TO.nil ?_
      refine TE.block_normal ?_
      refine TE.next ?_
      refine TW.region ?_
      refine TO.y (Y.add rfl rfl) rfl rfl rfl ?_
      refine TO.y (Y.move rfl) rfl rfl rfl ?_
      refine TO.nil ?_
      exact TE.lp_go () [] ⟨rfl, rfl, rfl, rfl, trivial⟩ rfl
    · refine TW.exit ?_
      refine TE.then_exit ?_
      refine TE.lp_exit ?_
      refine TE.block_exit ?_
      exact TE.jn_go () [] ⟨rfl, trivial⟩ rfl
  · refine TE.next ?_
    refine TW.seq ?_
    refine TW.region ?_
    refine TO.y (Y.move rfl) rfl rfl rfl ?_
    refine TO.y (Y.assign rfl) rfl rfl rfl ?_
    refine TO.nil ?_
    refine TE.next ?_
    refine TW.ret ?_
    exact TE.leaf fun _ _ hf_ hs_ => ret_any (rs := [.tmp 2]) (vs := [.int .i64 T4]) (.inl rfl) rfl ⟨rfl, trivial⟩ hf_ hs_ ⟨(), rfl, hs_.pulls [] rfl⟩

/-- loop.example/g00950/impl.SharesOk -/
noncomputable def impl_SharesOk (s : Shares) : Option Bool :=
  ((impl_inRange s.Size (0 : Int) (1000 : Int)).bind fun R4 =>
  if (!R4) = true then (some true)
  else (some (decide (((s.List.length : Nat) : Int) > (4 : Int))))).bind (fun (T2 : Bool) =>
  if T2 = true then (some false)
  else (bindC (loopO (fun (S9 : Int) => if (decide (S9 < ((s.List.length : Nat) : Int))) = true then ((idx s.List S9).bind fun E14 =>
  ((impl_isTenant E14.Tenant).bind fun R19 =>
  if (!R19) = true then (some true)
  else ((impl_inRange E14.Quota (0 : Int) (1000 : Int)).bind fun R23 =>
  if (!R23) = true then (some true)
  else (if (decide (S9 > (0 : Int))) = true then ((idx s.List (IntKind.i64.wrap (S9 - (1 : Int)))).bind fun E28 =>
  some (decide (E14.Tenant ≤ E28.Tenant)))
  else (some false)))).bind (fun (T17 : Bool) =>
  if T17 = true then (some (.done (.done false)))
  else (some (.go (IntKind.i64.wrap (S9 + (1 : Int)))))))
  else (some (.done (.go ()))))
  (0 : Int))
  (fun (T11 : Unit) => (if (decide (((s.List.length : Nat) : Int) = (0 : Int))) = true then (some true)
  else ((impl_needOf s).bind fun R34 =>
  some (decide (R34 ≤ s.Size)))).bind (fun (T31 : Bool) =>
  some T31))))

theorem impl_SharesOk_con (s : Shares) (V_s1 : Value) (r : Bool) (hm : impl_SharesOk s = some r) :
    Con Try.prog 24 [.agg #[.int .i64 s.Size, V_s1]] [] [(V_s1, lc 74 s.List)] (fun _ : Unit => .bool r) (fun _ => []) := by
  refine Con.intro (args := [.agg #[.int .i64 s.Size, V_s1]]) (n := 61) (val := fun r (_ : Unit) => .bool r) (post := fun _ _ => []) (m := impl_SharesOk s) Try.func24 rfl rfl rfl hm ?_
  intro w S hrd
  have HB_V_s1 := hrd _ (.head _)
  clear hrd
  unfold impl_SharesOk
  refine TW.seq ?_
  refine TW.region ?_
  refine TO.ef (Ef.box rfl (Cel.agg ⟨(One.plain rfl), (One.can (Base.can HB_V_s1)), trivial⟩)) rfl rfl rfl (fun B1 => ?_)
  refine TO.y (Y.assign rfl) rfl rfl rfl ?_
  refine TO.nil ?_
  refine TE.next ?_
  refine TW.seq ?_
  refine TW.seq ?_
  refine TW.joinBX (τ := Bool) (X := Unit) (fun T _ => [(1, .pointer (some ⟨B1, 0, none⟩)), (14, .bool T)]) (fun _ _ => [.box B1 47 [.int .i64 s.Size, V_s1]]) ?_ (fun T2 X3 => ?_)
  · refine TW.region ?_
    refine TO.y (Y.field_box kf47_0 rfl rfl) rfl rfl rfl ?_
    refine TO.y (Y.load_box (v := .int .i64 s.Size) 0 kk3 rfl rfl rfl) rfl rfl rfl ?_
    refine TO.bind fun R4 H5 => ?_
    refine TO.ef (Ef.call (rest := [.box B1 47 [.int .i64 s.Size, V_s1]]) [0] (impl_inRange_con s.Size (0 : Int) (1000 : Int)  R4 H5) kc38 rfl rfl trivial) rfl rfl rfl (fun _ => ?_)
    refine TO.y (Y.not rfl) rfl rfl rfl ?_
    refine TO.y (Y.move rfl) rfl rfl rfl ?_
    refine TO.ite (b := !R4) (fun H7 => ?_) (fun H7 => ?_)
    · refine TO.off (Gd.at 4 false 9 (!R4) rfl rfl rfl (beq_tf H7)) rfl rfl ?_
      refine TO.off (Gd.at 4 false 9 (!R4) rfl rfl rfl (beq_tf H7)) rfl rfl ?_
      refine TO.off (Gd.at 4 false 9 (!R4) rfl rfl rfl (beq_tf H7)) rfl rfl ?_
      refine TO.off (Gd.at 4 false 9 (!R4) rfl rfl rfl (beq_tf H7)) rfl rfl ?_
      refine TO.y (Y.pick_t H7 rfl rfl) rfl rfl rfl ?_
      refine TO.nil ?_
      exact TE.jb_go () [0] ⟨rfl, rfl, trivial⟩ rfl
    · refine TO.y (Y.field_box kf47_1 rfl rfl) (Gd.at 4 false 9 (!R4) rfl rfl rfl (beq_ff H7)) rfl rfl ?_
      refine TO.y (Y.load_box (v := V_s1) 0 kk45 rfl rfl rfl) (Gd.at 4 false 9 (!R4) rfl rfl rfl (beq_ff H7)) rfl rfl ?_
      refine TO.y (Y.len (l := s.List) ke45 (Base.can HB_V_s1) rfl) (Gd.at 4 false 9 (!R4) rfl rfl rfl (beq_ff H7)) rfl rfl ?_
      refine TO.y (Y.gtr rfl rfl) (Gd.at 4 false 9 (!R4) rfl rfl rfl (beq_ff H7)) rfl rfl ?_
      refine TO.y (Y.pick_f H7 rfl rfl) rfl rfl rfl ?_
      refine TO.nil ?_
      exact TE.jb_go () [0] ⟨rfl, rfl, trivial⟩ rfl
  · refine TE.next ?_
    refine TW.cond rfl (fun H8 => ?_) (fun H8 => ?_)
    · refine TW.seq ?_
      refine TW.region ?_
      refine TO.y (Y.assign rfl) rfl rfl rfl ?_
      refine TO.nil ?_
      refine TE.next ?_
      refine TW.ret ?_
      refine TE.then_ret ?_
      exact TE.leaf fun _ _ hf_ hs_ => ret_any (rs := [.tmp 2]) (vs := [.bool false]) (.inl rfl) rfl ⟨rfl, trivial⟩ hf_ hs_ ⟨(), rfl, hs_.pulls [] rfl⟩
    · refine TW.skip ?_
      refine TE.next ?_
      refine TW.seq ?_
      refine TW.seq ?_
      refine TW.region ?_
      refine TO.y (Y.field_box kf47_1 rfl rfl) rfl rfl rfl ?_
      refine TO.y (Y.load_box (v := V_s1) 0 kk45 rfl rfl rfl) rfl rfl rfl ?_
      refine TO.y (Y.len (l := s.List) ke45 (Base.can HB_V_s1) rfl) rfl rfl rfl ?_
      refine TO.y (Y.move rfl) rfl rfl rfl ?_
      refine TO.nil ?_
      refine TE.next ?_
      refine TW.joinX (τ := Unit) (X := Unit) (fun _ _ => [(1, .pointer (some ⟨B1, 0, none⟩))]) (fun _ _ => [.box B1 47 [.int .i64 s.Size, V_s1]]) ?_ (fun T11 X12 => ?_)
      · refine TW.block ?_
        refine TW.loopX (σ := Int) (X := Unit) (fun T _ => [(1, .pointer (some ⟨B1, 0, none⟩)), (16, V_s1), (17, .int .i64 ((s.List.length : Nat) : Int)), (18, .int .i64 T)]) (fun _ _ => [.box B1 47 [.int .i64 s.Size, V_s1]]) () [0] ⟨rfl, rfl, rfl, rfl, trivial⟩ rfl (fun S9 X10 => ?_)
        refine TW.seq ?_
        refine TW.region ?_
        refine TO.y (Y.lss rfl rfl) rfl rfl rfl ?_
        refine TO.nil ?_
        refine TE.next ?_
        refine TW.seq ?_
        refine TW.cond rfl (fun H13 => ?_) (fun H13 => ?_)
        · refine TW.skip ?_
          refine TE.next ?_
          refine TW.seq ?_
          refine TW.block ?_
          refine TW.seq ?_
          refine TW.region ?_
          refine TO.y (Y.move rfl) rfl rfl rfl ?_
          refine TO.bind fun E14 H15 => ?_
          refine TO.y (Y.index ke45 (Base.can HB_V_s1) H15 rfl rfl) rfl rfl rfl ?_
          refine TO.y (Y.load_el (us := [.int .i64 E14.Tenant, .int .i64 E14.Quota]) (u := .agg #[.int .i64 E14.Tenant, .int .i64 E14.Quota]) kk74 rfl (Base.can HB_V_s1) (idx_get H15).2.2 rfl rfl rfl rfl rfl) rfl rfl rfl ?_
          refine TO.ef (Ef.alloc kz74 rfl) rfl rfl rfl (fun B16 => ?_)
          refine TO.y (Y.assign rfl) rfl rfl rfl ?_
          refine TO.ef0 (Ef.store_box (us := [.int .i64 E14.Tenant, .int .i64 E14.Quota]) (vs' := [.int .i64 E14.Tenant, .int .i64 E14.Quota]) (is' := [.box B16 74 [.int .i64 E14.Tenant, .int .i64 E14.Quota], .box B1 47 [.int .i64 s.Size, V_s1]]) 0 kk74 rfl rfl rfl (Cel.plain rfl rfl) rfl rfl rfl rfl) rfl rfl (fun _ => ?_)
          refine TO.nil ?_
          refine TE.next ?_
          refine TW.seq ?_
          refine TW.joinBX (τ := Bool) (X := Unit) (fun T _ => [(1, .pointer (some ⟨B1, 0, none⟩)), (16, V_s1), (17, .int .i64 ((s.List.length : Nat) : Int)), (18, .int .i64 S9), (48, .bool T)]) (fun _ _ => [.box B1 47 [.int .i64 s.Size, V_s1]]) ?_ (fun T17 X18 => ?_)
          · refine TW.draw (isH := [.box B16 74 [.int .i64 E14.Tenant, .int .i64 E14.Quota], .box B1 47 [.int .i64 s.Size, V_s1]]) hMix ?_
            refine TA.y (listed' := #[true, false, false, false, false, false, false, false, false, false, false, false, false, false, false, false, false, false, false, false, false, false, false, false, false, false]) 0 [0, 0] rfl (Y.field_box kf74_0 rfl rfl) rfl rfl rfl (by kernel_rfl) (by kernel_rfl) (by kernel_rfl) rfl rfl ?_
            refine TA.y (listed' := #[true, true, false, false, false, false, false, false, false, false, false, false, false, false, false, false, false, false, false, false, false, false, false, false, false, false]) 1 [0, 0] rfl (Y.load_box (v := .int .i64 E14.Tenant) 0 kk3 rfl rfl rfl) rfl rfl rfl (by kernel_rfl) (by kernel_rfl) (by kernel_rfl) rfl rfl ?_
            refine TA.bind fun R19 H20 => ?_
            refine TA.one 2 (by kernel_rfl) ?_
            refine TX.ef (listed' := #[true, true, true, false, false, false, false, false, false, false, false, false, false, false, false, false, false, false, false, false, false, false, false, false, false, false]) [0, 0] rfl (Ef.call (rest := [.box B16 74 [.int .i64 E14.Tenant, .int .i64 E14.Quota], .box B1 47 [.int .i64 s.Size, V_s1]]) [0, 0] (impl_isTenant_con E14.Tenant  R19 H20) kc46 rfl rfl trivial) rfl rfl rfl rfl (fun _ => rfl) (fun _ => ?_)
            refine TA.y (listed' := #[true, true, true, true, false, false, false, false, false, false, false, false, false, false, false, false, false, false, false, false, false, false, false, false, false, false]) 3 [0, 0] rfl (Y.not rfl) rfl rfl rfl (by kernel_rfl) (by kernel_rfl) (by kernel_rfl) rfl rfl ?_
            refine TA.y (listed' := #[true, true, true, true, true, false, false, false, false, false, false, false, false, false, false, false, false, false, false, false, false, false, false, false, false, false]) 4 [0, 0] rfl (Y.move rfl) rfl rfl rfl (by kernel_rfl) (by kernel_rfl) (by kernel_rfl) rfl rfl ?_
            refine TA.ite (b := !R19) (fun H22 => ?_) (fun H22 => ?_)
            · refine TA.off (listed' := #[true, true, true, true, true, true, false, false, false, false, false, false, false, false, false, false, false, false, false, false, false, false, false, false, false, false]) 5 [0, 0] rfl (Gd.at 4 false 27 (!R19) rfl rfl rfl (beq_tf H22)) rfl rfl (by kernel_rfl) (by kernel_rfl) (by kernel_rfl) rfl rfl ?_
              refine TA.off (listed' := #[true, true, true, true, true, true, true, false, false, false, false, false, false, false, false, false, false, false, false, false, false, false, false, false, false, false]) 6 [0, 0] rfl (Gd.at 4 false 27 (!R19) rfl rfl rfl (beq_tf H22)) rfl rfl (by kernel_rfl) (by kernel_rfl) (by kernel_rfl) rfl rfl ?_
              refine TA.off (listed' := #[true, true, true, true, true, true, true, true, false, false, false, false, false, false, false, false, false, false, false, false, false, false, false, false, false, false]) 7 [0, 0] rfl (Gd.at 4 false 27 (!R19) rfl rfl rfl (beq_tf H22)) rfl rfl (by kernel_rfl) (by kernel_rfl) (by kernel_rfl) rfl rfl ?_
              refine TA.off (listed' := #[true, true, true, true, true, true, true, true, true, false, false, false, false, false, false, false, false, false, false, false, false, false, false, false, false, false]) 8 [0, 0] rfl (Gd.at 4 false 27 (!R19) rfl rfl rfl (beq_tf H22)) rfl rfl (by kernel_rfl) (by kernel_rfl) (by kernel_rfl) rfl rfl ?_
              refine TA.y (listed' := #[true, true, true, true, true, true, true, true, true, true, false, false, false, false, false, false, false, false, false, false, false, false, false, false, false, false]) 9 [0, 0] rfl (Y.pick_t H22 rfl rfl) rfl rfl rfl (by kernel_rfl) (by kernel_rfl) (by kernel_rfl) rfl rfl ?_
              refine TA.y (listed' := #[true, true, true, true, true, true, true, true, true, true, true, false, false, false, false, false, false, false, false, false, false, false, false, false, false, false]) 10 [0, 0] rfl (Y.move rfl) rfl rfl rfl (by kernel_rfl) (by kernel_rfl) (by kernel_rfl) rfl rfl ?_
              refine TA.off (listed' := #[true, true, true, true, true, true, true, true, true, true, true, true, false, false, false, false, false, false, false, false, false, false, false, false, false, false]) 11 [0, 0] rfl (Gd.at 10 false 33 true rfl rfl rfl rfl) rfl rfl (by kernel_rfl) (by kernel_rfl) (by kernel_rfl) rfl rfl ?_
              refine TA.off (listed' := #[true, true, true, true, true, true, true, true, true, true, true, true, true, false, false, false, false, false, false, false, false, false, false, false, false, false]) 12 [0, 0] rfl (Gd.at 10 false 33 true rfl rfl rfl rfl) rfl rfl (by kernel_rfl) (by kernel_rfl) (by kernel_rfl) rfl rfl ?_
              refine TA.off (listed' := #[true, true, true, true, true, true, true, true, true, true, true, true, true, true, false, false, false, false, false, false, false, false, false, false, false, false]) 13 [0, 0] rfl (Gd.at 10 false 33 true rfl rfl rfl rfl) rfl rfl (by kernel_rfl) (by kernel_rfl) (by kernel_rfl) rfl rfl ?_
              refine TA.off (listed' := #[true, true, true, true, true, true, true, true, true, true, true, true, true, true, true, false, false, false, false, false, false, false, false, false, false, false]) 14 [0, 0] rfl (Gd.un 13 true 36 rfl rfl rfl) rfl rfl (by kernel_rfl) (by kernel_rfl) (by kernel_rfl) rfl rfl ?_
              refine TA.off (listed' := #[true, true, true, true, true, true, true, true, true, true, true, true, true, true, true, true, false, false, false, false, false, false, false, false, false, false]) 15 [0, 0] rfl (Gd.un 13 true 36 rfl rfl rfl) rfl rfl (by kernel_rfl) (by kernel_rfl) (by kernel_rfl) rfl rfl ?_
              refine TA.off (listed' := #[true, true, true, true, true, true, true, true, true, true, true, true, true, true, true, true, true, false, false, false, false, false, false, false, false, false]) 16 [0, 0] rfl (Gd.un 13 true 36 rfl rfl rfl) rfl rfl (by kernel_rfl) (by kernel_rfl) (by kernel_rfl) rfl rfl ?_
              refine TA.off (listed' := #[true, true, true, true, true, true, true, true, true, true, true, true, true, true, true, true, true, true, false, false, false, false, false, false, false, false]) 17 [0, 0] rfl (Gd.un 13 true 36 rfl rfl rfl) rfl rfl (by kernel_rfl) (by kernel_rfl) (by kernel_rfl) rfl rfl ?_
              refine TA.off (listed' := #[true, true, true, true, true, true, true, true, true, true, true, true, true, true, true, true, true, true, true, false, false, false, false, false, false, false]) 18 [0, 0] rfl (Gd.un 13 true 36 rfl rfl rfl) rfl rfl (by kernel_rfl) (by kernel_rfl) (by kernel_rfl) rfl rfl ?_
              refine TA.off (listed' := #[true, true, true, true, true, true, true, true, true, true, true, true, true, true, true, true, true, true, true, true, false, false, false, false, false, false]) 19 [0, 0] rfl (Gd.un 13 true 36 rfl rfl rfl) rfl rfl (by kernel_rfl) (by kernel_rfl) (by kernel_rfl) rfl rfl ?_
              refine TA.off (listed' := #[true, true, true, true, true, true, true, true, true, true, true, true, true, true, true, true, true, true, true, true, true, false, false, false, false, false]) 20 [0, 0] rfl (Gd.un 13 true 36 rfl rfl rfl) rfl rfl (by kernel_rfl) (by kernel_rfl) (by kernel_rfl) rfl rfl ?_
              refine TA.off (listed' := #[true, true, true, true, true, true, true, true, true, true, true, true, true, true, true, true, true, true, true, true, true, true, false, false, false, false]) 21 [0, 0] rfl (Gd.un 13 true 36 rfl rfl rfl) rfl rfl (by kernel_rfl) (by kernel_rfl) (by kernel_rfl) rfl rfl ?_
              refine TA.off (listed' := #[true, true, true, true, true, true, true, true, true, true, true, true, true, true, true, true, true, true, true, true, true, true, true, false, false, false]) 22 [0, 0] rfl (Gd.un 13 true 36 rfl rfl rfl) rfl rfl (by kernel_rfl) (by kernel_rfl) (by kernel_rfl) rfl rfl ?_
              refine TA.off (listed' := #[true, true, true, true, true, true, true, true, true, true, true, true, true, true, true, true, true, true, true, true, true, true, true, true, false, false]) 23 [0, 0] rfl (Gd.un 13 true 36 rfl rfl rfl) rfl rfl (by kernel_rfl) (by kernel_rfl) (by kernel_rfl) rfl rfl ?_
              refine TA.off (listed' := #[true, true, true, true, true, true, true, true, true, true, true, true, true, true, true, true, true, true, true, true, true, true, true, true, true, false]) 24 [0, 0] rfl (Gd.at 10 false 33 true rfl rfl rfl rfl) rfl rfl (by kernel_rfl) (by kernel_rfl) (by kernel_rfl) rfl rfl ?_
              refine TA.y (listed' := #[true, true, true, true, true, true, true, true, true, true, true, true, true, true, true, true, true, true, true, true, true, true, true, true, true, true]) 25 [0, 0] rfl (Y.pick_t rfl rfl rfl) rfl rfl rfl (by kernel_rfl) (by kernel_rfl) (by kernel_rfl) rfl rfl ?_
              refine TA.nil (by kernel_rfl) ?_
              exact TE.jb_go () [1] ⟨rfl, rfl, rfl, rfl, rfl, trivial⟩ rfl
            · refine TA.y (listed' := #[true, true, true, true, true, true, false, false, false, false, false, false, false, false, false, false, false, false, false, false, false, false, false, false, false, false]) 5 [0, 0] rfl (Y.field_box kf74_1 rfl rfl) (Gd.at 4 false 27 (!R19) rfl rfl rfl (beq_ff H22)) rfl rfl (by kernel_rfl) (by kernel_rfl) (by kernel_rfl) rfl rfl ?_
              refine TA.y (listed' := #[true, true, true, true, true, true, true, false, false, false, false, false, false, false, false, false, false, false, false, false, false, false, false, false, false, false]) 6 [0, 0] rfl (Y.load_box (v := .int .i64 E14.Quota) 0 kk3 rfl rfl rfl) (Gd.at 4 false 27 (!R19) rfl rfl rfl (beq_ff H22)) rfl rfl (by kernel_rfl) (by kernel_rfl) (by kernel_rfl) rfl rfl ?_
              refine TA.bind fun R23 H24 => ?_
              refine TA.one 7 (by kernel_rfl) ?_
              refine TX.ef (listed' := #[true, true, true, true, true, true, true, true, false, false, false, false, false, false, false, false, false, false, false, false, false, false, false, false, false, false]) [0, 0] rfl (Ef.call (rest := [.box B16 74 [.int .i64 E14.Tenant, .int .i64 E14.Quota], .box B1 47 [.int .i64 s.Size, V_s1]]) [0, 0] (impl_inRange_con E14.Quota (0 : Int) (1000 : Int)  R23 H24) kc38 rfl rfl trivial) (Gd.at 4 false 27 (!R19) rfl rfl rfl (beq_ff H22)) rfl rfl rfl (fun _ => rfl) (fun _ => ?_)
              refine TA.y (listed' := #[true, true, true, true, true, true, true, true, true, false, false, false, false, false, false, false, false, false, false, false, false, false, false, false, false, false]) 8 [0, 0] rfl (Y.not rfl) (Gd.at 4 false 27 (!R19) rfl rfl rfl (beq_ff H22)) rfl rfl (by kernel_rfl) (by kernel_rfl) (by kernel_rfl) rfl rfl ?_
              refine TA.y (listed' := #[true, true, true, true, true, true, true, true, true, true, false, false, false, false, false, false, false, false, false, false, false, false, false, false, false, false]) 9 [0, 0] rfl (Y.pick_f H22 rfl rfl) rfl rfl rfl (by kernel_rfl) (by kernel_rfl) (by kernel_rfl) rfl rfl ?_
              refine TA.y (listed' := #[true, true, true, true, true, true, true, true, true, true, true, false, false, false, false, false, false, false, false, false, false, false, false, false, false, false]) 10 [0, 0] rfl (Y.move rfl) rfl rfl rfl (by kernel_rfl) (by kernel_rfl) (by kernel_rfl) rfl rfl ?_
              refine TA.ite (b := !R23) (fun H26 => ?_) (fun H26 => ?_)
              · refine TA.off (listed' := #[true, true, true, true, true, true, true, true, true, true, true, true, false, false, false, false, false, false, false, false, false, false, false, false, false, false]) 11 [0, 0] rfl (Gd.at 10 false 33 (!R23) rfl rfl rfl (beq_tf H26)) rfl rfl (by kernel_rfl) (by kernel_rfl) (by kernel_rfl) rfl rfl ?_
                refine TA.off (listed' := #[true, true, true, true, true, true, true, true, true, true, true, true, true, false, false, false, false, false, false, false, false, false, false, false, false, false]) 12 [0, 0] rfl (Gd.at 10 false 33 (!R23) rfl rfl rfl (beq_tf H26)) rfl rfl (by kernel_rfl) (by kernel_rfl) (by kernel_rfl) rfl rfl ?_
                refine TA.off (listed' := #[true, true, true, true, true, true, true, true, true, true, true, true, true, true, false, false, false, false, false, false, false, false, false, false, false, false]) 13 [0, 0] rfl (Gd.at 10 false 33 (!R23) rfl rfl rfl (beq_tf H26)) rfl rfl (by kernel_rfl) (by kernel_rfl) (by kernel_rfl) rfl rfl ?_
                refine TA.off (listed' := #[true, true, true, true, true, true, true, true, true, true, true, true, true, true, true, false, false, false, false, false, false, false, false, false, false, false]) 14 [0, 0] rfl (Gd.un 13 true 36 rfl rfl rfl) rfl rfl (by kernel_rfl) (by kernel_rfl) (by kernel_rfl) rfl rfl ?_
                refine TA.off (listed' := #[true, true, true, true, true, true, true, true, true, true, true, true, true, true, true, true, false, false, false, false, false, false, false, false, false, false]) 15 [0, 0] rfl (Gd.un 13 true 36 rfl rfl rfl) rfl rfl (by kernel_rfl) (by kernel_rfl) (by kernel_rfl) rfl rfl ?_
                refine TA.off (listed' := #[true, true, true, true, true, true, true, true, true, true, true, true, true, true, true, true, true, false, false, false, false, false, false, false, false, false]) 16 [0, 0] rfl (Gd.un 13 true 36 rfl rfl rfl) rfl rfl (by kernel_rfl) (by kernel_rfl) (by kernel_rfl) rfl rfl ?_
                refine TA.off (listed' := #[true, true, true, true, true, true, true, true, true, true, true, true, true, true, true, true, true, true, false, false, false, false, false, false, false, false]) 17 [0, 0] rfl (Gd.un 13 true 36 rfl rfl rfl) rfl rfl (by kernel_rfl) (by kernel_rfl) (by kernel_rfl) rfl rfl ?_
                refine TA.off (listed' := #[true, true, true, true, true, true, true, true, true, true, true, true, true, true, true, true, true, true, true, false, false, false, false, false, false, false]) 18 [0, 0] rfl (Gd.un 13 true 36 rfl rfl rfl) rfl rfl (by kernel_rfl) (by kernel_rfl) (by kernel_rfl) rfl rfl ?_
                refine TA.off (listed' := #[true, true, true, true, true, true, true, true, true, true, true, true, true, true, true, true, true, true, true, true, false, false, false, false, false, false]) 19 [0, 0] rfl (Gd.un 13 true 36 rfl rfl rfl) rfl rfl (by kernel_rfl) (by kernel_rfl) (by kernel_rfl) rfl rfl ?_
                refine TA.off (listed' := #[true, true, true, true, true, true, true, true, true, true, true, true, true, true, true, true, true, true, true, true, true, false, false, false, false, false]) 20 [0, 0] rfl (Gd.un 13 true 36 rfl rfl rfl) rfl rfl (by kernel_rfl) (by kernel_rfl) (by kernel_rfl) rfl rfl ?_
                refine TA.off (listed' := #[true, true, true, true, true, true, true, true, true, true, true, true, true, true, true, true, true, true, true, true, true, true, false, false, false, false]) 21 [0, 0] rfl (Gd.un 13 true 36 rfl rfl rfl) rfl rfl (by kernel_rfl) (by kernel_rfl) (by kernel_rfl) rfl rfl ?_
                refine TA.off (listed' := #[true, true, true, true, true, true, true, true, true, true, true, true, true, true, true, true, true, true, true, true, true, true, true, false, false, false]) 22 [0, 0] rfl (Gd.un 13 true 36 rfl rfl rfl) rfl rfl (by kernel_rfl) (by kernel_rfl) (by kernel_rfl) rfl rfl ?_
                refine TA.off (listed' := #[true, true, true, true, true, true, true, true, true, true, true, true, true, true, true, true, true, true, true, true, true, true, true, true, false, false]) 23 [0, 0] rfl (Gd.un 13 true 36 rfl rfl rfl) rfl rfl (by kernel_rfl) (by kernel_rfl) (by kernel_rfl) rfl rfl ?_
                refine TA.off (listed' := #[true, true, true, true, true, true, true, true, true, true, true, true, true, true, true, true, true, true, true, true, true, true, true, true, true, false]) 24 [0, 0] rfl (Gd.at 10 false 33 (!R23) rfl rfl rfl (beq_tf H26)) rfl rfl (by kernel_rfl) (by kernel_rfl) (by kernel_rfl) rfl rfl ?_
                refine TA.y (listed' := #[true, true, true, true, true, true, true, true, true, true, true, true, true, true, true, true, true, true, true, true, true, true, true, true, true, true]) 25 [0, 0] rfl (Y.pick_t H26 rfl rfl) rfl rfl rfl (by kernel_rfl) (by kernel_rfl) (by kernel_rfl) rfl rfl ?_
                refine TA.nil (by kernel_rfl) ?_
                exact TE.jb_go () [1] ⟨rfl, rfl, rfl, rfl, rfl, trivial⟩ rfl
              · refine TA.y (listed' := #[true, true, true, true, true, true, true, true, true, true, true, true, false, false, false, false, false, false, false, false, false, false, false, false, false, false]) 11 [0, 0] rfl (Y.move rfl) (Gd.at 10 false 33 (!R23) rfl rfl rfl (beq_ff H26)) rfl rfl (by kernel_rfl) (by kernel_rfl) (by kernel_rfl) rfl rfl ?_
                refine TA.y (listed' := #[true, true, true, true, true, true, true, true, true, true, true, true, true, false, false, false, false, false, false, false, false, false, false, false, false, false]) 12 [0, 0] rfl (Y.gtr rfl rfl) (Gd.at 10 false 33 (!R23) rfl rfl rfl (beq_ff H26)) rfl rfl (by kernel_rfl) (by kernel_rfl) (by kernel_rfl) rfl rfl ?_
                refine TA.y (listed' := #[true, true, true, true, true, true, true, true, true, true, true, true, true, true, false, false, false, false, false, false, false, false, false, false, false, false]) 13 [0, 0] rfl (Y.move rfl) (Gd.at 10 false 33 (!R23) rfl rfl rfl (beq_ff H26)) rfl rfl (by kernel_rfl) (by kernel_rfl) (by kernel_rfl) rfl rfl ?_
                refine TA.ite (b := decide (S9 > (0 : Int))) (fun H27 => ?_) (fun H27 => ?_)
                · refine TA.y (listed' := #[true, true, true, true, true, true, true, true, true, true, true, true, true, true, true, false, false, false, false, false, false, false, false, false, false, false]) 14 [0, 0] rfl (Y.field_box kf74_0 rfl rfl) (Gd.at 13 true 36 (decide (S9 > (0 : Int))) rfl rfl rfl (beq_tt H27)) rfl rfl (by kernel_rfl) (by kernel_rfl) (by kernel_rfl) rfl rfl ?_
                  refine TA.y (listed' := #[true, true, true, true, true, true, true, true, true, true, true, true, true, true, true, true, false, false, false, false, false, false, false, false, false, false]) 15 [0, 0] rfl (Y.load_box (v := .int .i64 E14.Tenant) 0 kk3 rfl rfl rfl) (Gd.at 13 true 36 (decide (S9 > (0 : Int))) rfl rfl rfl (beq_tt H27)) rfl rfl (by kernel_rfl) (by kernel_rfl) (by kernel_rfl) rfl rfl ?_
                  refine TA.y (listed' := #[true, true, true, true, true, true, true, true, true, true, true, true, true, true, true, true, true, false, false, false, false, false, false, false, false, false]) 16 [0, 0] rfl (Y.field_box kf47_1 rfl rfl) (Gd.at 13 true 36 (decide (S9 > (0 : Int))) rfl rfl rfl (beq_tt H27)) rfl rfl (by kernel_rfl) (by kernel_rfl) (by kernel_rfl) rfl rfl ?_
                  refine TA.y (listed' := #[true, true, true, true, true, true, true, true, true, true, true, true, true, true, true, true, true, true, false, false, false, false, false, false, false, false]) 17 [0, 0] rfl (Y.load_box (v := V_s1) 1 kk45 rfl rfl rfl) (Gd.at 13 true 36 (decide (S9 > (0 : Int))) rfl rfl rfl (beq_tt H27)) rfl rfl (by kernel_rfl) (by kernel_rfl) (by kernel_rfl) rfl rfl ?_
                  refine TA.y (listed' := #[true, true, true, true, true, true, true, true, true, true, true, true, true, true, true, true, true, true, true, false, false, false, false, false, false, false]) 18 [0, 0] rfl (Y.move rfl) (Gd.at 13 true 36 (decide (S9 > (0 : Int))) rfl rfl rfl (beq_tt H27)) rfl rfl (by kernel_rfl) (by kernel_rfl) (by kernel_rfl) rfl rfl ?_
                  refine TA.y (listed' := #[true, true, true, true, true, true, true, true, true, true, true, true, true, true, true, true, true, true, true, true, false, false, false, false, false, false]) 19 [0, 0] rfl (Y.sub rfl rfl) (Gd.at 13 true 36 (decide (S9 > (0 : Int))) rfl rfl rfl (beq_tt H27)) rfl rfl (by kernel_rfl) (by kernel_rfl) (by kernel_rfl) rfl rfl ?_
                  refine TA.bind fun E28 H29 => ?_
                  refine TA.y (listed' := #[true, true, true, true, true, true, true, true, true, true, true, true, true, true, true, true, true, true, true, true, true, false, false, false, false, false]) 20 [0, 0] rfl (Y.index ke45 (Base.can HB_V_s1) H29 rfl rfl) (Gd.at 13 true 36 (decide (S9 > (0 : Int))) rfl rfl rfl (beq_tt H27)) rfl rfl (by kernel_rfl) (by kernel_rfl) (by kernel_rfl) rfl rfl ?_
                  refine TA.y (listed' := #[true, true, true, true, true, true, true, true, true, true, true, true, true, true, true, true, true, true, true, true, true, true, false, false, false, false]) 21 [0, 0] rfl (Y.field_el kf74_0 (Base.can HB_V_s1) (idx_get H29).2.2 rfl rfl) (Gd.at 13 true 36 (decide (S9 > (0 : Int))) rfl rfl rfl (beq_tt H27)) rfl rfl (by kernel_rfl) (by kernel_rfl) (by kernel_rfl) rfl rfl ?_
                  refine TA.y (listed' := #[true, true, true, true, true, true, true, true, true, true, true, true, true, true, true, true, true, true, true, true, true, true, true, false, false, false]) 22 [0, 0] rfl (Y.load_el (us := [.int .i64 E28.Tenant]) (u := .int .i64 E28.Tenant) kk3 rfl (Base.can HB_V_s1) (idx_get H29).2.2 rfl rfl rfl rfl rfl) (Gd.at 13 true 36 (decide (S9 > (0 : Int))) rfl rfl rfl (beq_tt H27)) rfl rfl (by kernel_rfl) (by kernel_rfl) (by kernel_rfl) rfl rfl ?_
                  refine TA.y (listed' := #[true, true, true, true, true, true, true, true, true, true, true, true, true, true, true, true, true, true, true, true, true, true, true, true, false, false]) 23 [0, 0] rfl (Y.leq rfl rfl) (Gd.at 13 true 36 (decide (S9 > (0 : Int))) rfl rfl rfl (beq_tt H27)) rfl rfl (by kernel_rfl) (by kernel_rfl) (by kernel_rfl) rfl rfl ?_
                  refine TA.y (listed' := #[true, true, true, true, true, true, true, true, true, true, true, true, true, true, true, true, true, true, true, true, true, true, true, true, true, false]) 24 [0, 0] rfl (Y.pick_t H27 rfl rfl) (Gd.at 10 false 33 (!R23) rfl rfl rfl (beq_ff H26)) rfl rfl (by kernel_rfl) (by kernel_rfl) (by kernel_rfl) rfl rfl ?_
                  refine TA.y (listed' := #[true, true, true, true, true, true, true, true, true, true, true, true, true, true, true, true, true, true, true, true, true, true, true, true, true, true]) 25 [0, 0] rfl (Y.pick_f H26 rfl rfl) rfl rfl rfl (by kernel_rfl) (by kernel_rfl) (by kernel_rfl) rfl rfl ?_
                  refine TA.nil (by kernel_rfl) ?_
                  exact TE.jb_go () [1] ⟨rfl, rfl, rfl, rfl, rfl, trivial⟩ rfl
                · refine TA.off (listed' := #[true, true, true, true, true, true, true, true, true, true, true, true, true, true, true, false, false, false, false, false, false, false, false, false, false, false]) 14 [0, 0] rfl (Gd.at 13 true 36 (decide (S9 > (0 : Int))) rfl rfl rfl (beq_ft H27)) rfl rfl (by kernel_rfl) (by kernel_rfl) (by kernel_rfl) rfl rfl ?_
                  refine TA.off (listed' := #[true, true, true, true, true, true, true, true, true, true, true, true, true, true, true, true, false, false, false, false, false, false, false, false, false, false]) 15 [0, 0] rfl (Gd.at 13 true 36 (decide (S9 > (0 : Int))) rfl rfl rfl (beq_ft H27)) rfl rfl (by kernel_rfl) (by kernel_rfl) (by kernel_rfl) rfl rfl ?_
                  refine TA.off (listed' := #[true, true, true, true, true, true, true, true, true, true, true, true, true, true, true, true, true, false, false, false, false, false, false, false, false, false]) 16 [0, 0] rfl (Gd.at 13 true 36 (decide (S9 > (0 : Int))) rfl rfl rfl (beq_ft H27)) rfl rfl (by kernel_rfl) (by kernel_rfl) (by kernel_rfl) rfl rfl ?_
                  refine TA.off (listed' := #[true, true, true, true, true, true, true, true, true, true, true, true, true, true, true, true, true, true, false, false, false, false, false, false, false, false]) 17 [0, 0] rfl (Gd.at 13 true 36 (decide (S9 > (0 : Int))) rfl rfl rfl (beq_ft H27)) rfl rfl (by kernel_rfl) (by kernel_rfl) (by kernel_rfl) rfl rfl ?_
                  refine TA.off (listed' := #[true, true, true, true, true, true, true, true, true, true, true, true, true, true, true, true, true, true, true, false, false, false, false, false, false, false]) 18 [0, 0] rfl (Gd.at 13 true 36 (decide (S9 > (0 : Int))) rfl rfl rfl (beq_ft H27)) rfl rfl (by kernel_rfl) (by kernel_rfl) (by kernel_rfl) rfl rfl ?_
                  refine TA.off (listed' := #[true, true, true, true, true, true, true, true, true, true, true, true, true, true, true, true, true, true, true, true, false, false, false, false, false, false]) 19 [0, 0] rfl (Gd.at 13 true 36 (decide (S9 > (0 : Int))) rfl rfl rfl (beq_ft H27)) rfl rfl (by kernel_rfl) (by kernel_rfl) (by kernel_rfl) rfl rfl ?_
                  refine TA.off (listed' := #[true, true, true, true, true, true, true, true, true, true, true, true, true, true, true, true, true, true, true, true, true, false, false, false, false, false]) 20 [0, 0] rfl (Gd.at 13 true 36 (decide (S9 > (0 : Int))) rfl rfl rfl (beq_ft H27)) rfl rfl (by kernel_rfl) (by kernel_rfl) (by kernel_rfl) rfl rfl ?_
                  refine TA.off (listed' := #[true, true, true, true, true, true, true, true, true, true, true, true, true, true, true, true, true, true, true, true, true, true, false, false, false, false]) 21 [0, 0] rfl (Gd.at 13 true 36 (decide (S9 > (0 : Int))) rfl rfl rfl (beq_ft H27)) rfl rfl (by kernel_rfl) (by kernel_rfl) (by kernel_rfl) rfl rfl ?_
                  refine TA.off (listed' := #[true, true, true, true, true, true, true, true, true, true, true, true, true, true, true, true, true, true, true, true, true, true, true, false, false, false]) 22 [0, 0] rfl (Gd.at 13 true 36 (decide (S9 > (0 : Int))) rfl rfl rfl (beq_ft H27)) rfl rfl (by kernel_rfl) (by kernel_rfl) (by kernel_rfl) rfl rfl ?_
                  refine TA.off (listed' := #[true, true, true, true, true, true, true, true, true, true, true, true, true, true, true, true, true, true, true, true, true, true, true, true, false, false]) 23 [0, 0] rfl (Gd.at 13 true 36 (decide (S9 > (0 : Int))) rfl rfl rfl (beq_ft H27)) rfl rfl (by kernel_rfl) (by kernel_rfl) (by kernel_rfl) rfl rfl ?_
                  refine TA.y (listed' := #[true, true, true, true, true, true, true, true, true, true, true, true, true, true, true, true, true, true, true, true, true, true, true, true, true, false]) 24 [0, 0] rfl (Y.pick_f H27 rfl rfl) (Gd.at 10 false 33 (!R23) rfl rfl rfl (beq_ff H26)) rfl rfl (by kernel_rfl) (by kernel_rfl) (by kernel_rfl) rfl rfl ?_
                  refine TA.y (listed' := #[true, true, true, true, true, true, true, true, true, true, true, true, true, true, true, true, true, true, true, true, true, true, true, true, true, true]) 25 [0, 0] rfl (Y.pick_f H26 rfl rfl) rfl rfl rfl (by kernel_rfl) (by kernel_rfl) (by kernel_rfl) rfl rfl ?_
                  refine TA.nil (by kernel_rfl) ?_
                  exact TE.jb_go () [1] ⟨rfl, rfl, rfl, rfl, rfl, trivial⟩ rfl
          · refine TE.next ?_
            refine TW.cond rfl (fun H30 => ?_) (fun H30 => ?_)
            · refine TW.seq ?_
              refine TW.region ?_
              refine TO.y (Y.assign rfl) rfl rfl rfl ?_
              refine TO.nil ?_
              refine TE.next ?_
              refine TW.ret ?_
              refine TE.block_ret ?_
              refine TE.then_ret ?_
              refine TE.lp_ret ?_
              refine TE.block_ret ?_
              refine TE.jn_done ?_
              refine TE.then_ret ?_
              exact TE.leaf fun _ _ hf_ hs_ => ret_any (rs := [.tmp 2]) (vs := [.bool false]) (.inl rfl) rfl ⟨rfl, trivial⟩ hf_ hs_ ⟨(), rfl, hs_.pulls [] rfl⟩
            · refine TW.skip ?_
              refine TE.block_normal ?_
              refine TE.next ?_
              refine TW.region ?_
              refine TO.y (Y.add rfl rfl) rfl rfl rfl ?_
              refine TO.y (Y.move rfl) rfl rfl rfl ?_
              refine TO.nil ?_
              exact TE.lp_go () [0] ⟨rfl, rfl, rfl, rfl, trivial⟩ rfl
        · refine TW.exit ?_
          refine TE.then_exit ?_
          refine TE.lp_exit ?_
          refine TE.block_exit ?_
          exact TE.jn_go () [0] ⟨rfl, trivial⟩ rfl
      · refine TE.next ?_
        refine TW.seq ?_
        refine TW.joinBX (τ := Bool) (X := Unit) (fun T _ => [(2, .bool T)]) (fun _ _ => []) ?_ (fun T31 X32 => ?_)
        · refine TW.draw (isH := [.box B1 47 [.int .i64 s.Size, V_s1]]) hMix ?_
          refine TA.y (listed' := #[true, false, false, false, false, false, false, false, false, false, false, false]) 0 [0] rfl (Y.field_box kf47_1 rfl rfl) rfl rfl rfl (by kernel_rfl) (by kernel_rfl) (by kernel_rfl) rfl rfl ?_
          refine TA.y (listed' := #[true, true, false, false, false, false, false, false, false, false, false, false]) 1 [0] rfl (Y.load_box (v := V_s1) 0 kk45 rfl rfl rfl) rfl rfl rfl (by kernel_rfl) (by kernel_rfl) (by kernel_rfl) rfl rfl ?_
          refine TA.y (listed' := #[true, true, true, false, false, false, false, false, false, false, false, false]) 2 [0] rfl (Y.len (l := s.List) ke45 (Base.can HB_V_s1) rfl) rfl rfl rfl (by kernel_rfl) (by kernel_rfl) (by kernel_rfl) rfl rfl ?_
          refine TA.y (listed' := #[true, true, true, true, false, false, false, false, false, false, false, false]) 3 [0] rfl (Y.eql rfl rfl) rfl rfl rfl (by kernel_rfl) (by kernel_rfl) (by kernel_rfl) rfl rfl ?_
          refine TA.y (listed' := #[true, true, true, true, true, false, false, false, false, false, false, false]) 4 [0] rfl (Y.move rfl) rfl rfl rfl (by kernel_rfl) (by kernel_rfl) (by kernel_rfl) rfl rfl ?_
          refine TA.ite (b := decide (((s.List.length : Nat) : Int) = (0 : Int))) (fun H33 => ?_) (fun H33 => ?_)
          · refine TA.off (listed' := #[true, true, true, true, true, true, false, false, false, false, false, false]) 5 [0] rfl (Gd.at 4 false 54 (decide (((s.List.length : Nat) : Int) = (0 : Int))) rfl rfl rfl (beq_tf H33)) rfl rfl (by kernel_rfl) (by kernel_rfl) (by kernel_rfl) rfl rfl ?_
            refine TA.off (listed' := #[true, true, true, true, true, true, true, false, false, false, false, false]) 6 [0] rfl (Gd.at 4 false 54 (decide (((s.List.length : Nat) : Int) = (0 : Int))) rfl rfl rfl (beq_tf H33)) rfl rfl (by kernel_rfl) (by kernel_rfl) (by kernel_rfl) rfl rfl ?_
            refine TA.off (listed' := #[true, true, true, true, true, true, true, true, false, false, false, false]) 7 [0] rfl (Gd.at 4 false 54 (decide (((s.List.length : Nat) : Int) = (0 : Int))) rfl rfl rfl (beq_tf H33)) rfl rfl (by kernel_rfl) (by kernel_rfl) (by kernel_rfl) rfl rfl ?_
            refine TA.off (listed' := #[true, true, true, true, true, true, true, true, true, false, false, false]) 8 [0] rfl (Gd.at 4 false 54 (decide (((s.List.length : Nat) : Int) = (0 : Int))) rfl rfl rfl (beq_tf H33)) rfl rfl (by kernel_rfl) (by kernel_rfl) (by kernel_rfl) rfl rfl ?_
            refine TA.off (listed' := #[true, true, true, true, true, true, true, true, true, true, false, false]) 9 [0] rfl (Gd.at 4 false 54 (decide (((s.List.length : Nat) : Int) = (0 : Int))) rfl rfl rfl (beq_tf H33)) rfl rfl (by kernel_rfl) (by kernel_rfl) (by kernel_rfl) rfl rfl ?_
            refine TA.y (listed' := #[true, true, true, true, true, true, true, true, true, true, true, false]) 10 [0] rfl (Y.pick_t H33 rfl rfl) rfl rfl rfl (by kernel_rfl) (by kernel_rfl) (by kernel_rfl) rfl rfl ?_
            refine TA.y (listed' := #[true, true, true, true, true, true, true, true, true, true, true, true]) 11 [0] rfl (Y.assign rfl) rfl rfl rfl (by kernel_rfl) (by kernel_rfl) (by kernel_rfl) rfl rfl ?_
            refine TA.nil (by kernel_rfl) ?_
            exact TE.jb_go () [] ⟨rfl, trivial⟩ rfl
          · refine TA.y (listed' := #[true, true, true, true, true, true, false, false, false, false, false, false]) 5 [0] rfl (Y.load_box (v := .agg #[.int .i64 s.Size, V_s1]) 0 kk47 rfl rfl rfl) (Gd.at 4 false 54 (decide (((s.List.length : Nat) : Int) = (0 : Int))) rfl rfl rfl (beq_ff H33)) rfl rfl (by kernel_rfl) (by kernel_rfl) (by kernel_rfl) rfl rfl ?_
            refine TA.y (listed' := #[true, true, true, true, true, true, false, true, false, false, false, false]) 7 [0] rfl (Y.field_box kf47_0 rfl rfl) (Gd.at 4 false 54 (decide (((s.List.length : Nat) : Int) = (0 : Int))) rfl rfl rfl (beq_ff H33)) rfl rfl (by kernel_rfl) (by kernel_rfl) (by kernel_rfl) rfl rfl ?_
            refine TA.y (listed' := #[true, true, true, true, true, true, false, true, true, false, false, false]) 8 [0] rfl (Y.load_box (v := .int .i64 s.Size) 0 kk3 rfl rfl rfl) (Gd.at 4 false 54 (decide (((s.List.length : Nat) : Int) = (0 : Int))) rfl rfl rfl (beq_ff H33)) rfl rfl (by kernel_rfl) (by kernel_rfl) (by kernel_rfl) rfl rfl ?_
            refine TA.bind fun R34 H35 => ?_
            refine TA.one 6 (by kernel_rfl) ?_
            refine TX.ef (listed' := #[true, true, true, true, true, true, true, true, true, false, false, false]) [0] rfl (Ef.call (rest := [.box B1 47 [.int .i64 s.Size, V_s1]]) [0] (impl_needOf_con s V_s1 R34 H35) kc47 rfl rfl ⟨(Base.can HB_V_s1), trivial⟩) (Gd.at 4 false 54 (decide (((s.List.length : Nat) : Int) = (0 : Int))) rfl rfl rfl (beq_ff H33)) rfl rfl rfl (fun _ => rfl) (fun _ => ?_)
            refine TA.y (listed' := #[true, true, true, true, true, true, true, true, true, true, false, false]) 9 [0] rfl (Y.leq rfl rfl) (Gd.at 4 false 54 (decide (((s.List.length : Nat) : Int) = (0 : Int))) rfl rfl rfl (beq_ff H33)) rfl rfl (by kernel_rfl) (by kernel_rfl) (by kernel_rfl) rfl rfl ?_
            refine TA.y (listed' := #[true, true, true, true, true, true, true, true, true, true, true, false]) 10 [0] rfl (Y.pick_f H33 rfl rfl) rfl rfl rfl (by kernel_rfl) (by kernel_rfl) (by kernel_rfl) rfl rfl ?_
            refine TA.y (listed' := #[true, true, true, true, true, true, true, true, true, true, true, true]) 11 [0] rfl (Y.assign rfl) rfl rfl rfl (by kernel_rfl) (by kernel_rfl) (by kernel_rfl) rfl rfl ?_
            refine TA.nil (by kernel_rfl) ?_
            exact TE.jb_go () [] ⟨rfl, trivial⟩ rfl
        · refine TE.next ?_
          refine TW.ret ?_
          exact TE.leaf fun _ _ hf_ hs_ => ret_any (rs := [.tmp 2]) (vs := [.bool T31]) (.inl rfl) rfl ⟨rfl, trivial⟩ hf_ hs_ ⟨(), rfl, hs_.pulls [] rfl⟩

/-- loop.example/g00950/laws.eqShare -/
noncomputable def laws_eqShare (a : Share) (b : Share) : Option Bool :=
  if (!(decide (a.Tenant = b.Tenant))) = true then (some false)
  else (if (!(decide (a.Quota = b.Quota))) = true then (some false)
  else (some true))

theorem laws_eqShare_con (a : Share) (b : Share)  (r : Bool) (hm : laws_eqShare a b = some r) :
    Con Try.prog 53 [.agg #[.int .i64 a.Tenant, .int .i64 a.Quota], .agg #[.int .i64 b.Tenant, .int .i64 b.Quota]] [] [] (fun _ : Unit => .bool r) (fun _ => []) := by
  refine Con.intro (args := [.agg #[.int .i64 a.Tenant, .int .i64 a.Quota], .agg #[.int .i64 b.Tenant, .int .i64 b.Quota]]) (n := 15) (val := fun r (_ : Unit) => .bool r) (post := fun _ _ => []) (m := laws_eqShare a b) Try.func53 rfl rfl rfl hm ?_
  intro w S _
  unfold laws_eqShare
  refine TW.seq ?_
  refine TW.region ?_
  refine TO.ef (Ef.box rfl (Cel.plain rfl rfl)) rfl rfl rfl (fun B1 => ?_)
  refine TO.ef (Ef.box rfl (Cel.plain rfl rfl)) rfl rfl rfl (fun B2 => ?_)
  refine TO.y (Y.assign rfl) rfl rfl rfl ?_
  refine TO.nil ?_
  refine TE.next ?_
  refine TW.seq ?_
  refine TW.seq ?_
  refine TW.region ?_
  refine TO.y (Y.field_box kf74_0 rfl rfl) rfl rfl rfl ?_
  refine TO.y (Y.load_box (v := .int .i64 a.Tenant) 1 kk3 rfl rfl rfl) rfl rfl rfl ?_
  refine TO.y (Y.field_box kf74_0 rfl rfl) rfl rfl rfl ?_
  refine TO.y (Y.load_box (v := .int .i64 b.Tenant) 0 kk3 rfl rfl rfl) rfl rfl rfl ?_
  refine TO.y (Y.neq rfl rfl) rfl rfl rfl ?_
  refine TO.nil ?_
  refine TE.next ?_
  refine TW.cond rfl (fun H3 => ?_) (fun H3 => ?_)
  · refine TW.seq ?_
    refine TW.region ?_
    refine TO.y (Y.assign rfl) rfl rfl rfl ?_
    refine TO.nil ?_
    refine TE.next ?_
    refine TW.ret ?_
    refine TE.then_ret ?_
    exact TE.leaf fun _ _ hf_ hs_ => ret_any (rs := [.tmp 4]) (vs := [.bool false]) (.inl rfl) rfl ⟨rfl, trivial⟩ hf_ hs_ ⟨(), rfl, hs_.pulls [] rfl⟩
  · refine TW.skip ?_
    refine TE.next ?_
    refine TW.seq ?_
    refine TW.seq ?_
    refine TW.region ?_
    refine TO.y (Y.field_box kf74_1 rfl rfl) rfl rfl rfl ?_
    refine TO.y (Y.load_box (v := .int .i64 a.Quota) 1 kk3 rfl rfl rfl) rfl rfl rfl ?_
    refine TO.y (Y.field_box kf74_1 rfl rfl) rfl rfl rfl ?_
    refine TO.y (Y.load_box (v := .int .i64 b.Quota) 0 kk3 rfl rfl rfl) rfl rfl rfl ?_
    refine TO.y (Y.neq rfl rfl) rfl rfl rfl ?_
    refine TO.nil ?_
    refine TE.next ?_
    refine TW.cond rfl (fun H4 => ?_) (fun H4 => ?_)
    · refine TW.seq ?_
      refine TW.region ?_
      refine TO.y (Y.assign rfl) rfl rfl rfl ?_
      refine TO.nil ?_
      refine TE.next ?_
      refine TW.ret ?_
      refine TE.then_ret ?_
      exact TE.leaf fun _ _ hf_ hs_ => ret_any (rs := [.tmp 4]) (vs := [.bool false]) (.inl rfl) rfl ⟨rfl, trivial⟩ hf_ hs_ ⟨(), rfl, hs_.pulls [] rfl⟩
    · refine TW.skip ?_
      refine TE.next ?_
      refine TW.seq ?_
      refine TW.region ?_
      refine TO.y (Y.assign rfl) rfl rfl rfl ?_
      refine TO.nil ?_
      refine TE.next ?_
      refine TW.ret ?_
      exact TE.leaf fun _ _ hf_ hs_ => ret_any (rs := [.tmp 4]) (vs := [.bool true]) (.inl rfl) rfl ⟨rfl, trivial⟩ hf_ hs_ ⟨(), rfl, hs_.pulls [] rfl⟩

/-- loop.example/g00950/laws.eqShareS -/
noncomputable def laws_eqShareS (a : List Share) (b : List Share) : Option Bool :=
  if (!(decide (((a.length : Nat) : Int) = ((b.length : Nat) : Int)))) = true then (some false)
  else (bindC (loopO (fun (S2 : Int) => if (decide (S2 < ((a.length : Nat) : Int))) = true then ((idx a S2).bind fun E7 =>
  (idx b S2).bind fun E9 =>
  (laws_eqShare E7 E9).bind fun R11 =>
  if (!R11) = true then (some (.done (.done false)))
  else (some (.go (IntKind.i64.wrap (S2 + (1 : Int))))))
  else (some (.done (.go ()))))
  (0 : Int))
  (fun (T4 : Unit) => some true))

theorem laws_eqShareS_con (a : List Share) (b : List Share) (V_a0 : Value) (V_b0 : Value) (r : Bool) (hm : laws_eqShareS a b = some r) :
    Con Try.prog 48 [V_a0, V_b0] [] [(V_a0, lc 74 a), (V_b0, lc 74 b)] (fun _ : Unit => .bool r) (fun _ => []) := by
  refine Con.intro (args := [V_a0, V_b0]) (n := 27) (val := fun r (_ : Unit) => .bool r) (post := fun _ _ => []) (m := laws_eqShareS a b) Try.func48 rfl rfl rfl hm ?_
  intro w S hrd
  have HB_V_a0 := hrd _ (.head _)
  have HB_V_b0 := hrd _ (.tail _ (.head _))
  clear hrd
  unfold laws_eqShareS
  refine TW.seq ?_
  refine TW.region ?_
  refine TO.y (Y.assign rfl) rfl rfl rfl ?_
  refine TO.nil ?_
  refine TE.next ?_
  refine TW.seq ?_
  refine TW.seq ?_
  refine TW.region ?_
  refine TO.y (Y.move rfl) rfl rfl rfl ?_
  refine TO.y (Y.len (l := a) ke45 (Base.can HB_V_a0) rfl) rfl rfl rfl ?_
  refine TO.y (Y.move rfl) rfl rfl rfl ?_
  refine TO.y (Y.len (l := b) ke45 (Base.can HB_V_b0) rfl) rfl rfl rfl ?_
  refine TO.y (Y.neq rfl rfl) rfl rfl rfl ?_
  refine TO.nil ?_
  refine TE.next ?_
  refine TW.cond rfl (fun H1 => ?_) (fun H1 => ?_)
  · refine TW.seq ?_
    refine TW.region ?_
    refine TO.y (Y.assign rfl) rfl rfl rfl ?_
    refine TO.nil ?_
    refine TE.next ?_
    refine TW.ret ?_
    refine TE.then_ret ?_
    exact TE.leaf fun _ _ hf_ hs_ => ret_any (rs := [.tmp 4]) (vs := [.bool false]) (.inl rfl) rfl ⟨rfl, trivial⟩ hf_ hs_ ⟨(), rfl, hs_.pulls [] rfl⟩
  · refine TW.skip ?_
    refine TE.next ?_
    refine TW.seq ?_
    refine TW.seq ?_
    refine TW.region ?_
    refine TO.y (Y.assign rfl) rfl rfl rfl ?_
    refine TO.nil ?_
    refine TE.next ?_
    refine TW.joinX (τ := Unit) (X := Unit) (fun _ _ => []) (fun _ _ => []) ?_ (fun T4 X5 => ?_)
    · refine TW.block ?_
      refine TW.loopX (σ := Int) (X := Unit) (fun T _ => [(0, V_a0), (1, V_b0), (5, .int .i64 T)]) (fun _ _ => []) () [] ⟨rfl, rfl, rfl, trivial⟩ rfl (fun S2 X3 => ?_)
      refine TW.seq ?_
      refine TW.seq ?_
      refine TW.region ?_
      refine TO.y (Y.move rfl) rfl rfl rfl ?_
      refine TO.y (Y.move rfl) rfl rfl rfl ?_
      refine TO.y (Y.len (l := a) ke45 (Base.can HB_V_a0) rfl) rfl rfl rfl ?_
      refine TO.y (Y.lss rfl rfl) rfl rfl rfl ?_
      refine TO.nil ?_
      refine TE.next ?_
      refine TW.cond rfl (fun H6 => ?_) (fun H6 => ?_)
      · refine TW.skip ?_
        refine TE.next ?_
        refine TW.seq ?_
        refine TW.block ?_
        refine TW.seq ?_
        refine TW.draw (isH := []) hMix ?_
        refine TA.y (listed' := #[true, false, false, false, false, false, false, false, false, false]) 0 [] rfl (Y.move rfl) rfl rfl rfl (by kernel_rfl) (by kernel_rfl) (by kernel_rfl) rfl rfl ?_
        refine TA.y (listed' := #[true, true, false, false, false, false, false, false, false, false]) 1 [] rfl (Y.move rfl) rfl rfl rfl (by kernel_rfl) (by kernel_rfl) (by kernel_rfl) rfl rfl ?_
        refine TA.bind fun E7 H8 => ?_
        refine TA.y (listed' := #[true, true, true, false, false, false, false, false, false, false]) 2 [] rfl (Y.index ke45 (Base.can HB_V_a0) H8 rfl rfl) rfl rfl rfl (by kernel_rfl) (by kernel_rfl) (by kernel_rfl) rfl rfl ?_
        refine TA.y (listed' := #[true, true, true, true, false, false, false, false, false, false]) 3 [] rfl (Y.load_el (us := [.int .i64 E7.Tenant, .int .i64 E7.Quota]) (u := .agg #[.int .i64 E7.Tenant, .int .i64 E7.Quota]) kk74 rfl (Base.can HB_V_a0) (idx_get H8).2.2 rfl rfl rfl rfl rfl) rfl rfl rfl (by kernel_rfl) (by kernel_rfl) (by kernel_rfl) rfl rfl ?_
        refine TA.y (listed' := #[true, true, true, true, true, false, false, false, false, false]) 4 [] rfl (Y.move rfl) rfl rfl rfl (by kernel_rfl) (by kernel_rfl) (by kernel_rfl) rfl rfl ?_
        refine TA.y (listed' := #[true, true, true, true, true, true, false, false, false, false]) 5 [] rfl (Y.move rfl) rfl rfl rfl (by kernel_rfl) (by kernel_rfl) (by kernel_rfl) rfl rfl ?_
        refine TA.bind fun E9 H10 => ?_
        refine TA.y (listed' := #[true, true, true, true, true, true, true, false, false, false]) 6 [] rfl (Y.index ke45 (Base.can HB_V_b0) H10 rfl rfl) rfl rfl rfl (by kernel_rfl) (by kernel_rfl) (by kernel_rfl) rfl rfl ?_
        refine TA.y (listed' := #[true, true, true, true, true, true, true, true, false, false]) 7 [] rfl (Y.load_el (us := [.int .i64 E9.Tenant, .int .i64 E9.Quota]) (u := .agg #[.int .i64 E9.Tenant, .int .i64 E9.Quota]) kk74 rfl (Base.can HB_V_b0) (idx_get H10).2.2 rfl rfl rfl rfl rfl) rfl rfl rfl (by kernel_rfl) (by kernel_rfl) (by kernel_rfl) rfl rfl ?_
        refine TA.bind fun R11 H12 => ?_
        refine TA.one 8 (by kernel_rfl) ?_
        refine TX.ef (listed' := #[true, true, true, true, true, true, true, true, true, false]) [] rfl (Ef.call (rest := []) [] (laws_eqShare_con E7 E9  R11 H12) kc53 rfl rfl trivial) rfl rfl rfl rfl (fun _ => rfl) (fun _ => ?_)
        refine TA.y (listed' := #[true, true, true, true, true, true, true, true, true, true]) 9 [] rfl (Y.not rfl) rfl rfl rfl (by kernel_rfl) (by kernel_rfl) (by kernel_rfl) rfl rfl ?_
        refine TA.nil (by kernel_rfl) ?_
        refine TE.next ?_
        refine TW.cond rfl (fun H14 => ?_) (fun H14 => ?_)
        · refine TW.seq ?_
          refine TW.region ?_
          refine TO.y (Y.assign rfl) rfl rfl rfl ?_
          refine TO.nil ?_
          refine TE.next ?_
          refine TW.ret ?_
          refine TE.block_ret ?_
          refine TE.then_ret ?_
          refine TE.lp_ret ?_
          refine TE.block_ret ?_
          refine TE.jn_done ?_
          refine TE.then_ret ?_
          exact TE.leaf fun _ _ hf_ hs_ => ret_any (rs := [.tmp 4]) (vs := [.bool false]) (.inl rfl) rfl ⟨rfl, trivial⟩ hf_ hs_ ⟨(), rfl, hs_.pulls [] rfl⟩
        · refine TW.skip ?_
          refine TE.block_normal ?_
          refine TE.next ?_
          refine TW.region ?_
          refine TO.y (Y.move rfl) rfl rfl rfl ?_
          refine TO.y (Y.add rfl rfl) rfl rfl rfl ?_
          refine TO.y (Y.assign rfl) rfl rfl rfl ?_
          refine TO.nil ?_
          exact TE.lp_go () [] ⟨rfl, rfl, rfl, trivial⟩ rfl
      · refine TW.exit ?_
        refine TE.then_exit ?_
        refine TE.lp_exit ?_
        refine TE.block_exit ?_
        exact TE.jn_go () [] trivial rfl
    · refine TE.next ?_
      refine TW.seq ?_
      refine TW.region ?_
      refine TO.y (Y.assign rfl) rfl rfl rfl ?_
      refine TO.nil ?_
      refine TE.next ?_
      refine TW.ret ?_
      exact TE.leaf fun _ _ hf_ hs_ => ret_any (rs := [.tmp 4]) (vs := [.bool true]) (.inl rfl) rfl ⟨rfl, trivial⟩ hf_ hs_ ⟨(), rfl, hs_.pulls [] rfl⟩

/-- loop.example/g00950/laws.eqShares -/
noncomputable def laws_eqShares (a : Shares) (b : Shares) : Option Bool :=
  if (!(decide (a.Size = b.Size))) = true then (some false)
  else ((laws_eqShareS a.List b.List).bind fun R4 =>
  if (!R4) = true then (some false)
  else (some true))

theorem laws_eqShares_con (a : Shares) (b : Shares) (V_a1 : Value) (V_b1 : Value) (r : Bool) (hm : laws_eqShares a b = some r) :
    Con Try.prog 25 [.agg #[.int .i64 a.Size, V_a1], .agg #[.int .i64 b.Size, V_b1]] [] [(V_a1, lc 74 a.List), (V_b1, lc 74 b.List)] (fun _ : Unit => .bool r) (fun _ => []) := by
  refine Con.intro (args := [.agg #[.int .i64 a.Size, V_a1], .agg #[.int .i64 b.Size, V_b1]]) (n := 16) (val := fun r (_ : Unit) => .bool r) (post := fun _ _ => []) (m := laws_eqShares a b) Try.func25 rfl rfl rfl hm ?_
  intro w S hrd
  have HB_V_a1 := hrd _ (.head _)
  have HB_V_b1 := hrd _ (.tail _ (.head _))
  clear hrd
  unfold laws_eqShares
  refine TW.seq ?_
  refine TW.region ?_
  refine TO.ef (Ef.box rfl (Cel.agg ⟨(One.plain rfl), (One.can (Base.can HB_V_a1)), trivial⟩)) rfl rfl rfl (fun B1 => ?_)
  refine TO.ef (Ef.box rfl (Cel.agg ⟨(One.plain rfl), (One.can (Base.can HB_V_b1)), trivial⟩)) rfl rfl rfl (fun B2 => ?_)
  refine TO.y (Y.assign rfl) rfl rfl rfl ?_
  refine TO.nil ?_
  refine TE.next ?_
  refine TW.seq ?_
  refine TW.seq ?_
  refine TW.region ?_
  refine TO.y (Y.field_box kf47_0 rfl rfl) rfl rfl rfl ?_
  refine TO.y (Y.load_box (v := .int .i64 a.Size) 1 kk3 rfl rfl rfl) rfl rfl rfl ?_
  refine TO.y (Y.field_box kf47_0 rfl rfl) rfl rfl rfl ?_
  refine TO.y (Y.load_box (v := .int .i64 b.Size) 0 kk3 rfl rfl rfl) rfl rfl rfl ?_
  refine TO.y (Y.neq rfl rfl) rfl rfl rfl ?_
  refine TO.nil ?_
  refine TE.next ?_
  refine TW.cond rfl (fun H3 => ?_) (fun H3 => ?_)
  · refine TW.seq ?_
    refine TW.region ?_
    refine TO.y (Y.assign rfl) rfl rfl rfl ?_
    refine TO.nil ?_
    refine TE.next ?_
    refine TW.ret ?_
    refine TE.then_ret ?_
    exact TE.leaf fun _ _ hf_ hs_ => ret_any (rs := [.tmp 4]) (vs := [.bool false]) (.inl rfl) rfl ⟨rfl, trivial⟩ hf_ hs_ ⟨(), rfl, hs_.pulls [] rfl⟩
  · refine TW.skip ?_
    refine TE.next ?_
    refine TW.seq ?_
    refine TW.seq ?_
    refine TW.region ?_
    refine TO.y (Y.field_box kf47_1 rfl rfl) rfl rfl rfl ?_
    refine TO.y (Y.load_box (v := V_a1) 1 kk45 rfl rfl rfl) rfl rfl rfl ?_
    refine TO.y (Y.field_box kf47_1 rfl rfl) rfl rfl rfl ?_
    refine TO.y (Y.load_box (v := V_b1) 0 kk45 rfl rfl rfl) rfl rfl rfl ?_
    refine TO.bind fun R4 H5 => ?_
    refine TO.ef (Ef.call (rest := [.box B2 47 [.int .i64 b.Size, V_b1], .box B1 47 [.int .i64 a.Size, V_a1]]) [0, 0] (laws_eqShareS_con a.List b.List V_a1 V_b1 R4 H5) kc48 rfl rfl ⟨(Base.can HB_V_a1), (Base.can HB_V_b1), trivial⟩) rfl rfl rfl (fun _ => ?_)
    refine TO.y (Y.not rfl) rfl rfl rfl ?_
    refine TO.nil ?_
    refine TE.next ?_
    refine TW.cond rfl (fun H7 => ?_) (fun H7 => ?_)
    · refine TW.seq ?_
      refine TW.region ?_
      refine TO.y (Y.assign rfl) rfl rfl rfl ?_
      refine TO.nil ?_
      refine TE.next ?_
      refine TW.ret ?_
      refine TE.then_ret ?_
      exact TE.leaf fun _ _ hf_ hs_ => ret_any (rs := [.tmp 4]) (vs := [.bool false]) (.inl rfl) rfl ⟨rfl, trivial⟩ hf_ hs_ ⟨(), rfl, hs_.pulls [] rfl⟩
    · refine TW.skip ?_
      refine TE.next ?_
      refine TW.seq ?_
      refine TW.region ?_
      refine TO.y (Y.assign rfl) rfl rfl rfl ?_
      refine TO.nil ?_
      refine TE.next ?_
      refine TW.ret ?_
      exact TE.leaf fun _ _ hf_ hs_ => ret_any (rs := [.tmp 4]) (vs := [.bool true]) (.inl rfl) rfl ⟨rfl, trivial⟩ hf_ hs_ ⟨(), rfl, hs_.pulls [] rfl⟩

/-- loop.example/g00950/laws.FnExactSharesOk -/
noncomputable def laws_FnExactSharesOk (aS : Shares) : Option Bool :=
  (laws_szShares aS (1048576 : Int)).bind fun R2 =>
  if (decide (R2 < (0 : Int))) = true then (some true)
  else ((laws_toShares aS).bind fun R6 =>
  (spec_SharesOk R6).bind fun R9 =>
  (impl_SharesOk R6).bind fun R14 =>
  if (!(decide (R14 = R9))) = true then (some false)
  else ((laws_eqShares R6 R6).bind fun R19 =>
  if (!R19) = true then (some false)
  else (some true)))

theorem laws_FnExactSharesOk_con (aS : Shares) (V_aS1 : Value) (r : Bool) (hm : laws_FnExactSharesOk aS = some r) :
    Con Try.prog 6 [.agg #[.int .i64 aS.Size, V_aS1]] [] [(V_aS1, lc 81 aS.List)] (fun _ : Unit => .bool r) (fun _ => []) := by
  refine Con.intro (args := [.agg #[.int .i64 aS.Size, V_aS1]]) (n := 27) (val := fun r (_ : Unit) => .bool r) (post := fun _ _ => []) (m := laws_FnExactSharesOk aS) Try.func6 rfl rfl rfl hm ?_
  intro w S hrd
  have HB_V_aS1 := hrd _ (.head _)
  clear hrd
  unfold laws_FnExactSharesOk
  refine TW.seq ?_
  refine TW.region ?_
  refine TO.ef (Ef.box rfl (Cel.agg ⟨(One.plain rfl), (One.can (Base.can HB_V_aS1)), trivial⟩)) rfl rfl rfl (fun B1 => ?_)
  refine TO.y (Y.assign rfl) rfl rfl rfl ?_
  refine TO.nil ?_
  refine TE.next ?_
  refine TW.seq ?_
  refine TW.region ?_
  refine TO.y (Y.assign rfl) rfl rfl rfl ?_
  refine TO.nil ?_
  refine TE.next ?_
  refine TW.seq ?_
  refine TW.region ?_
  refine TO.y (Y.load_box (v := .agg #[.int .i64 aS.Size, V_aS1]) 0 kk42 rfl rfl rfl) rfl rfl rfl ?_
  refine TO.y (Y.move rfl) rfl rfl rfl ?_
  refine TO.bind fun R2 H3 => ?_
  refine TO.ef (Ef.call (rest := [.box B1 42 [.int .i64 aS.Size, V_aS1]]) [0] (laws_szShares_con aS (1048576 : Int) V_aS1 R2 H3) kc21 rfl rfl ⟨(Base.can HB_V_aS1), trivial⟩) rfl rfl rfl (fun _ => ?_)
  refine TO.y (Y.assign rfl) rfl rfl rfl ?_
  refine TO.nil ?_
  refine TE.next ?_
  refine TW.seq ?_
  refine TW.seq ?_
  refine TW.region ?_
  refine TO.y (Y.move rfl) rfl rfl rfl ?_
  refine TO.y (Y.lss rfl rfl) rfl rfl rfl ?_
  refine TO.nil ?_
  refine TE.next ?_
  refine TW.cond rfl (fun H5 => ?_) (fun H5 => ?_)
  · refine TW.seq ?_
    refine TW.region ?_
    refine TO.y (Y.assign rfl) rfl rfl rfl ?_
    refine TO.nil ?_
    refine TE.next ?_
    refine TW.ret ?_
    refine TE.then_ret ?_
    exact TE.leaf fun _ _ hf_ hs_ => ret_any (rs := [.tmp 2]) (vs := [.bool true]) (.inl rfl) rfl ⟨rfl, trivial⟩ hf_ hs_ ⟨(), rfl, hs_.pulls [] rfl⟩
  · refine TW.skip ?_
    refine TE.next ?_
    refine TW.seq ?_
    refine TW.region ?_
    refine TO.y (Y.load_box (v := .agg #[.int .i64 aS.Size, V_aS1]) 0 kk42 rfl rfl rfl) rfl rfl rfl ?_
    refine TO.bind fun R6 H7 => ?_
    refine TO.ef (Ef.call (rest := [.box B1 42 [.int .i64 aS.Size, V_aS1]]) [0] (laws_toShares_con aS V_aS1 R6 H7) kc23 rfl rfl ⟨(Base.can HB_V_aS1), trivial⟩) rfl rfl rfl (fun Y8 => ?_)
    refine TO.bind fun R9 H10 => ?_
    refine TO.ef (Ef.call (rest := [.own Y8 (lc 74 R6.List), .box B1 42 [.int .i64 aS.Size, V_aS1]]) [0, 0] (spec_SharesOk_con R6 Y8 R9 H10) kc22 rfl rfl ⟨(Can.own 0 rfl), trivial⟩) rfl rfl rfl (fun _ => ?_)
    refine TO.y (Y.assign rfl) rfl rfl rfl ?_
    refine TO.nil ?_
    refine TE.next ?_
    refine TW.seq ?_
    refine TW.region ?_
    refine TO.y (Y.load_box (v := .agg #[.int .i64 aS.Size, V_aS1]) 1 kk42 rfl rfl rfl) rfl rfl rfl ?_
    refine TO.ef (Ef.call (rest := [.own Y8 (lc 74 R6.List), .box B1 42 [.int .i64 aS.Size, V_aS1]]) [0, 0] (laws_toShares_con aS V_aS1 R6 H7) kc23 rfl rfl ⟨(Base.can HB_V_aS1), trivial⟩) rfl rfl rfl (fun Y12 => ?_)
    refine TO.ef (Ef.alloc kz47 rfl) rfl rfl rfl (fun B13 => ?_)
    refine TO.ef0 (Ef.store_box (us := [.int .i64 R6.Size, Y12]) (vs' := [.int .i64 R6.Size, Y12]) (is' := [.box B13 47 [.int .i64 R6.Size, Y12], .own Y12 (lc 74 R6.List), .own Y8 (lc 74 R6.List), .box B1 42 [.int .i64 aS.Size, V_aS1]]) 0 kk47 rfl rfl rfl (Cel.agg ⟨(One.plain rfl), (One.can (Can.own 1 rfl)), trivial⟩) rfl rfl rfl rfl) rfl rfl (fun _ => ?_)
    refine TO.nil ?_
    refine TE.next ?_
    refine TW.seq ?_
    refine TW.region ?_
    refine TO.y (Y.load_box (v := .agg #[.int .i64 R6.Size, Y12]) 0 kk47 rfl rfl rfl) rfl rfl rfl ?_
    refine TO.bind fun R14 H15 => ?_
    refine TO.ef (Ef.call (rest := [.box B13 47 [.int .i64 R6.Size, Y12], .own Y12 (lc 74 R6.List), .own Y8 (lc 74 R6.List), .box B1 42 [.int .i64 aS.Size, V_aS1]]) [0, 0, 0, 0] (impl_SharesOk_con R6 Y12 R14 H15) kc24 rfl rfl ⟨(Can.own 1 rfl), trivial⟩) rfl rfl rfl (fun _ => ?_)
    refine TO.y (Y.assign rfl) rfl rfl rfl ?_
    refine TO.nil ?_
    refine TE.next ?_
    refine TW.seq ?_
    refine TW.seq ?_
    refine TW.region ?_
    refine TO.y (Y.move rfl) rfl rfl rfl ?_
    refine TO.y (Y.move rfl) rfl rfl rfl ?_
    refine TO.y (Y.neb kb4 rfl rfl) rfl rfl rfl ?_
    refine TO.nil ?_
    refine TE.next ?_
    refine TW.cond rfl (fun H17 => ?_) (fun H17 => ?_)
    · refine TW.seq ?_
      refine TW.region ?_
      refine TO.y (Y.assign rfl) rfl rfl rfl ?_
      refine TO.nil ?_
      refine TE.next ?_
      refine TW.ret ?_
      refine TE.then_ret ?_
      exact TE.leaf fun _ _ hf_ hs_ => ret_any (rs := [.tmp 2]) (vs := [.bool false]) (.inl rfl) rfl ⟨rfl, trivial⟩ hf_ hs_ ⟨(), rfl, hs_.pulls [] rfl⟩
    · refine TW.skip ?_
      refine TE.next ?_
      refine TW.seq ?_
      refine TW.seq ?_
      refine TW.draw (isH := [.box B13 47 [.int .i64 R6.Size, Y12], .own Y12 (lc 74 R6.List), .own Y8 (lc 74 R6.List), .box B1 42 [.int .i64 aS.Size, V_aS1]]) hMix ?_
      refine TA.y (listed' := #[true, false, false, false, false]) 0 [0, 0, 0, 0] rfl (Y.load_box (v := .agg #[.int .i64 R6.Size, Y12]) 0 kk47 rfl rfl rfl) rfl rfl rfl (by kernel_rfl) (by kernel_rfl) (by kernel_rfl) rfl rfl ?_
      refine TA.y (listed' := #[true, true, false, false, false]) 1 [0, 0, 0, 0] rfl (Y.load_box (v := .agg #[.int .i64 aS.Size, V_aS1]) 3 kk42 rfl rfl rfl) rfl rfl rfl (by kernel_rfl) (by kernel_rfl) (by kernel_rfl) rfl rfl ?_
      refine TA.one 2 (by kernel_rfl) ?_
      refine TX.ef (listed' := #[true, true, true, false, false]) [1, 1, 1, 1] rfl (Ef.call (rest := [.box B13 47 [.int .i64 R6.Size, Y12], .own Y12 (lc 74 R6.List), .own Y8 (lc 74 R6.List), .box B1 42 [.int .i64 aS.Size, V_aS1]]) [0, 0, 0, 0] (laws_toShares_con aS V_aS1 R6 H7) kc23 rfl rfl ⟨(Base.can HB_V_aS1), trivial⟩) rfl rfl rfl rfl (fun _ => rfl) (fun Y18 => ?_)
      refine TA.bind fun R19 H20 => ?_
      refine TA.one 3 (by kernel_rfl) ?_
      refine TX.ef (listed' := #[true, true, true, true, false]) [1, 1, 1, 1] rfl (Ef.call (rest := [.own Y18 (lc 74 R6.List), .box B13 47 [.int .i64 R6.Size, Y12], .own Y12 (lc 74 R6.List), .own Y8 (lc 74 R6.List), .box B1 42 [.int .i64 aS.Size, V_aS1]]) [0, 0, 0, 0, 0] (laws_eqShares_con R6 R6 Y12 Y18 R19 H20) kc25 rfl rfl ⟨(Can.own 2 rfl), (Can.own 0 rfl), trivial⟩) rfl rfl rfl rfl (fun _ => rfl) (fun _ => ?_)
      refine TA.y (listed' := #[true, true, true, true, true]) 4 [1, 1, 1, 1] rfl (Y.not rfl) rfl rfl rfl (by kernel_rfl) (by kernel_rfl) (by kernel_rfl) rfl rfl ?_
      refine TA.nil (by kernel_rfl) ?_
      refine TE.next ?_
      refine TW.cond rfl (fun H22 => ?_) (fun H22 => ?_)
      · refine TW.seq ?_
        refine TW.region ?_
        refine TO.y (Y.assign rfl) rfl rfl rfl ?_
        refine TO.nil ?_
        refine TE.next ?_
        refine TW.ret ?_
        refine TE.then_ret ?_
        exact TE.leaf fun _ _ hf_ hs_ => ret_any (rs := [.tmp 2]) (vs := [.bool false]) (.inl rfl) rfl ⟨rfl, trivial⟩ hf_ hs_ ⟨(), rfl, hs_.pulls [] rfl⟩
      · refine TW.skip ?_
        refine TE.next ?_
        refine TW.seq ?_
        refine TW.region ?_
        refine TO.y (Y.assign rfl) rfl rfl rfl ?_
        refine TO.nil ?_
        refine TE.next ?_
        refine TW.ret ?_
        exact TE.leaf fun _ _ hf_ hs_ => ret_any (rs := [.tmp 2]) (vs := [.bool true]) (.inl rfl) rfl ⟨rfl, trivial⟩ hf_ hs_ ⟨(), rfl, hs_.pulls [] rfl⟩

/-- loop.example/g00950/spec.l18Copy -/
noncomputable def spec_l18Copy (s : Space) : Option Space :=
  (app 8 ([] : List Int) s.Owner).bind fun E5 =>
  some ({ Owner := E5 : Space })

theorem spec_l18Copy_con (s : Space) (V_s0 : Value) (r : Space) (hm : spec_l18Copy s = some r) :
    Con Try.prog 49 [.agg #[V_s0]] [] [(V_s0, lc 3 s.Owner)] (fun X : Value => .agg #[X]) (fun X => [.own X (lc 3 r.Owner)]) := by
  refine Con.intro (args := [.agg #[V_s0]]) (n := 8) (val := fun _ (X : Value) => .agg #[X]) (post := fun r X => [.own X (lc 3 r.Owner)]) (m := spec_l18Copy s) Try.func49 rfl rfl rfl hm ?_
  intro w S hrd
  have HB_V_s0 := hrd _ (.head _)
  clear hrd
  unfold spec_l18Copy
  refine TW.seq ?_
  refine TW.region ?_
  refine TO.ef (Ef.box rfl (Cel.agg ⟨(One.can (Base.can HB_V_s0)), trivial⟩)) rfl rfl rfl (fun B1 => ?_)
  refine TO.ef (Ef.alloc kz29 rfl) rfl rfl rfl (fun B2 => ?_)
  refine TO.nil ?_
  refine TE.next ?_
  refine TW.seq ?_
  refine TW.region ?_
  refine TO.ef (Ef.buildSlice (α := Int) (Vs := []) ([] : List Int) ke24 kz3 rfl rfl rfl rfl rfl) rfl rfl rfl (fun B3 => ?_)
  refine TO.y (Y.field_box kf29_0 rfl rfl) rfl rfl rfl ?_
  refine TO.y (Y.load_box (v := V_s0) 2 kk24 rfl rfl rfl) rfl rfl rfl ?_
  refine TO.bind fun E5 H6 => ?_
  refine TO.ef (Ef.append (α := Int) (is' := [.box B2 29 [.slice none 0 0], .box B1 29 [V_s0]]) [0, 0, 0] H6 ke24 kz3 rfl rfl rfl rfl rfl (Base.can HB_V_s0)) rfl rfl rfl (fun V4 => ?_)
  refine TO.y (Y.build (cells := [V4]) [(0, [V4])] kp29 kz29 ⟨rfl, ⟨_, rfl, (Cel.one (One.can (Can.own 0 rfl)))⟩, trivial⟩ rfl) rfl rfl rfl ?_
  refine TO.ef0 (Ef.store_box (us := [V4]) (vs' := [V4]) (is' := [.own V4 (lc 3 E5), .box B2 29 [V4], .box B1 29 [V_s0]]) 1 kk29 rfl rfl rfl (Cel.agg ⟨(One.can (Can.own 0 rfl)), trivial⟩) rfl rfl rfl rfl) rfl rfl (fun _ => ?_)
  refine TO.nil ?_
  refine TE.next ?_
  refine TW.ret ?_
  exact TE.leaf fun _ _ hf_ hs_ => ret_any (rs := [.cell 2 29]) (vs := [.agg #[V4]]) (.inl rfl) rfl (RV.cell 1 rfl rfl kk29 rfl trivial) hf_ hs_ ⟨V4, rfl, hs_.pulls [0] rfl⟩

end Go.Proofs.Ytjmimdhpghecpaa
