/-
  The functions that a law reaches, each as a pure function, with the proof that the program computes it, and the step from a pure law to the given statement. Conditions: none.
-/
import Derived.Test.YtjmimdhpghecpaaSw
import Derived.Test.YtjmimdhpghecpaaRows
set_option linter.unusedVariables false
namespace Go.Proofs.Ytjmimdhpghecpaa
open Go Sl

structure Space where
  Owner : List Int
  deriving DecidableEq
instance : Enc Space := ⟨1, fun x => [lc 3 x.Owner], fun _ => rfl, by decide⟩
instance : Dec Space where
  sh := [.sl 3 1 (Dec.sh Int)]
  ok x := okl x.Owner
  dec cs h := by
    obtain ⟨c0, r0, rfl, h0, h⟩ := h.cons_inv
    obtain rfl := h.nil_inv
    obtain ⟨y0, rfl, w0⟩ := h0.sl_inv (α := Int) rfl
    exact ⟨{ Owner := y0 : Space }, rfl, w0⟩

theorem hMix : Try.prog.follows .mixedOrders = true := by kernel_rfl
theorem kc37 : callB Try.prog 37 = true := by kernel_rfl
theorem kc38 : callB Try.prog 38 = true := by kernel_rfl
theorem kc9 : callB Try.prog 9 = true := by kernel_rfl
theorem kc10 : callB Try.prog 10 = true := by kernel_rfl
theorem ke24 : elemB Try.prog 24 = some (3, 1, 8) := by kernel_rfl
theorem kf26_0 : fieldB Try.prog 26 0 = some 0 := by kernel_rfl
theorem kk24 : kindB Try.prog 24 = some (false, 1) := by kernel_rfl
theorem kc39 : callB Try.prog 39 = true := by kernel_rfl
theorem kz3 : zeroB Try.prog 3 = some (.int .i64 (0 : Int)) := by kernel_rfl
theorem kk3 : kindB Try.prog 3 = some (false, 1) := by kernel_rfl
theorem kz29 : zeroB Try.prog 29 = some (.agg #[.slice none 0 0]) := by kernel_rfl
theorem kc27 : callB Try.prog 27 = true := by kernel_rfl
theorem kf29_0 : fieldB Try.prog 29 0 = some 0 := by kernel_rfl
theorem kk29 : kindB Try.prog 29 = some (true, 1) := by kernel_rfl
theorem kc29 : callB Try.prog 29 = true := by kernel_rfl
theorem kk26 : kindB Try.prog 26 = some (true, 1) := by kernel_rfl
theorem kc11 : callB Try.prog 11 = true := by kernel_rfl
theorem kc13 : callB Try.prog 13 = true := by kernel_rfl
theorem kc12 : callB Try.prog 12 = true := by kernel_rfl
theorem kc14 : callB Try.prog 14 = true := by kernel_rfl
theorem kb4 : Try.prog.underlying 4 = some .bool := by kernel_rfl
theorem kc15 : callB Try.prog 15 = true := by kernel_rfl
theorem hu3 : Try.prog.underlying 3 = some (.int .i64) := by kernel_rfl
theorem hs3 : shB Try.prog 20 3 = some ([.int .i64]) := by kernel_rfl
theorem hu26 : Try.prog.underlying 26 = some (.struct #[⟨ "Owner", 24, 0, Bool.false, "", "", 0⟩]) := by kernel_rfl
theorem hs26 : shB Try.prog 20 26 = some (Dec.sh Space) := by kernel_rfl

/-- loop.example/g00950/spec.l1In -/
noncomputable def spec_l1In (x : Int) (low : Int) (high : Int) : Option Bool :=
  (if (decide (x ≥ low)) = true then (some (decide (x ≤ high)))
  else (some false)).bind (fun (T1 : Bool) =>
  some T1)

theorem spec_l1In_con (x : Int) (low : Int) (high : Int)  (r : Bool) (hm : spec_l1In x low high = some r) :
    Con Try.prog 37 [.int .i64 x, .int .i64 low, .int .i64 high] [] [] (fun _ : Unit => .bool r) (fun _ => []) := by
  refine Con.intro (args := [.int .i64 x, .int .i64 low, .int .i64 high]) (n := 15) (val := fun r (_ : Unit) => .bool r) (post := fun _ _ => []) (m := spec_l1In x low high) Try.func37 rfl rfl rfl hm ?_
  intro w S _
  unfold spec_l1In
  refine TW.seq ?_
  refine TW.region ?_
  refine TO.y (Y.assign rfl) rfl rfl rfl ?_
  refine TO.nil ?_
  refine TE.next ?_
  refine TW.seq ?_
  refine TW.joinBX (τ := Bool) (X := Unit) (fun T _ => [(6, .bool T)]) (fun _ _ => []) ?_ (fun T1 X2 => ?_)
  · refine TW.region ?_
    refine TO.y (Y.move rfl) rfl rfl rfl ?_
    refine TO.y (Y.move rfl) rfl rfl rfl ?_
    refine TO.y (Y.geq rfl rfl) rfl rfl rfl ?_
    refine TO.y (Y.move rfl) rfl rfl rfl ?_
    refine TO.ite (b := decide (x ≥ low)) (fun H3 => ?_) (fun H3 => ?_)
    · refine TO.y (Y.move rfl) (Gd.at 3 true 10 (decide (x ≥ low)) rfl rfl rfl (beq_tt H3)) rfl rfl ?_
      refine TO.y (Y.move rfl) (Gd.at 3 true 10 (decide (x ≥ low)) rfl rfl rfl (beq_tt H3)) rfl rfl ?_
      refine TO.y (Y.leq rfl rfl) (Gd.at 3 true 10 (decide (x ≥ low)) rfl rfl rfl (beq_tt H3)) rfl rfl ?_
      refine TO.y (Y.pick_t H3 rfl rfl) rfl rfl rfl ?_
      refine TO.y (Y.assign rfl) rfl rfl rfl ?_
      refine TO.nil ?_
      exact TE.jb_go () [] ⟨rfl, trivial⟩ rfl
    · refine TO.off (Gd.at 3 true 10 (decide (x ≥ low)) rfl rfl rfl (beq_ft H3)) rfl rfl ?_
      refine TO.off (Gd.at 3 true 10 (decide (x ≥ low)) rfl rfl rfl (beq_ft H3)) rfl rfl ?_
      refine TO.off (Gd.at 3 true 10 (decide (x ≥ low)) rfl rfl rfl (beq_ft H3)) rfl rfl ?_
      refine TO.y (Y.pick_f H3 rfl rfl) rfl rfl rfl ?_
      refine TO.y (Y.assign rfl) rfl rfl rfl ?_
      refine TO.nil ?_
      exact TE.jb_go () [] ⟨rfl, trivial⟩ rfl
  · refine TE.next ?_
    refine TW.ret ?_
    exact TE.leaf fun _ _ hf_ hs_ => ret_any (rs := [.tmp 6]) (vs := [.bool T1]) (.inl rfl) rfl ⟨rfl, trivial⟩ hf_ hs_ ⟨(), rfl, hs_.pulls [] rfl⟩

/-- loop.example/g00950/spec.Need -/
noncomputable def spec_Need (quota : Int) : Option Int :=
  (spec_l1In quota (0 : Int) (1000 : Int)).bind fun R1 =>
  if (!R1) = true then (some (0 : Int))
  else (some (IntKind.i64.wrap ((2 : Int) + (IntKind.i64.wrap ((2 : Int) * (IntKind.i64.wrap (Int.tdiv (IntKind.i64.wrap (quota + (49 : Int))) (50 : Int))))))))

theorem spec_Need_con (quota : Int)  (r : Int) (hm : spec_Need quota = some r) :
    Con Try.prog 9 [.int .i64 quota] [] [] (fun _ : Unit => .int .i64 r) (fun _ => []) := by
  refine Con.intro (args := [.int .i64 quota]) (n := 11) (val := fun r (_ : Unit) => .int .i64 r) (post := fun _ _ => []) (m := spec_Need quota) Try.func9 rfl rfl rfl hm ?_
  intro w S _
  unfold spec_Need
  refine TW.seq ?_
  refine TW.region ?_
  refine TO.y (Y.assign rfl) rfl rfl rfl ?_
  refine TO.nil ?_
  refine TE.next ?_
  refine TW.seq ?_
  refine TW.seq ?_
  refine TW.region ?_
  refine TO.y (Y.move rfl) rfl rfl rfl ?_
  refine TO.bind fun R1 H2 => ?_
  refine TO.ef (Ef.call (rest := []) [] (spec_l1In_con quota (0 : Int) (1000 : Int)  R1 H2) kc37 rfl rfl trivial) rfl rfl rfl (fun _ => ?_)
  refine TO.y (Y.not rfl) rfl rfl rfl ?_
  refine TO.nil ?_
  refine TE.next ?_
  refine TW.cond rfl (fun H4 => ?_) (fun H4 => ?_)
  · refine TW.seq ?_
    refine TW.region ?_
    refine TO.y (Y.assign rfl) rfl rfl rfl ?_
    refine TO.nil ?_
    refine TE.next ?_
    refine TW.ret ?_
    refine TE.then_ret ?_
    exact TE.leaf fun _ _ hf_ hs_ => ret_any (rs := [.tmp 2]) (vs := [.int .i64 (0 : Int)]) (.inl rfl) rfl ⟨rfl, trivial⟩ hf_ hs_ ⟨(), rfl, hs_.pulls [] rfl⟩
  · refine TW.skip ?_
    refine TE.next ?_
    refine TW.seq ?_
    refine TW.region ?_
    refine TO.y (Y.move rfl) rfl rfl rfl ?_
    refine TO.y (Y.add rfl rfl) rfl rfl rfl ?_
    refine TO.y (Y.quo (by decide) rfl rfl) rfl rfl rfl ?_
    refine TO.y (Y.mul rfl rfl) rfl rfl rfl ?_
    refine TO.y (Y.add rfl rfl) rfl rfl rfl ?_
    refine TO.y (Y.assign rfl) rfl rfl rfl ?_
    refine TO.nil ?_
    refine TE.next ?_
    refine TW.ret ?_
    exact TE.leaf fun _ _ hf_ hs_ => ret_any (rs := [.tmp 2]) (vs := [.int .i64 (IntKind.i64.wrap ((2 : Int) + (IntKind.i64.wrap ((2 : Int) * (IntKind.i64.wrap (Int.tdiv (IntKind.i64.wrap (quota + (49 : Int))) (50 : Int)))))))]) (.inl rfl) rfl ⟨rfl, trivial⟩ hf_ hs_ ⟨(), rfl, hs_.pulls [] rfl⟩

/-- loop.example/g00950/impl.inRange -/
noncomputable def impl_inRange (n : Int) (least : Int) (most : Int) : Option Bool :=
  (if (decide (n ≥ least)) = true then (some (decide (n ≤ most)))
  else (some false)).bind (fun (T1 : Bool) =>
  some T1)

theorem impl_inRange_con (n : Int) (least : Int) (most : Int)  (r : Bool) (hm : impl_inRange n least most = some r) :
    Con Try.prog 38 [.int .i64 n, .int .i64 least, .int .i64 most] [] [] (fun _ : Unit => .bool r) (fun _ => []) := by
  refine Con.intro (args := [.int .i64 n, .int .i64 least, .int .i64 most]) (n := 15) (val := fun r (_ : Unit) => .bool r) (post := fun _ _ => []) (m := impl_inRange n least most) Try.func38 rfl rfl rfl hm ?_
  intro w S _
  unfold impl_inRange
  refine TW.seq ?_
  refine TW.region ?_
  refine TO.y (Y.assign rfl) rfl rfl rfl ?_
  refine TO.nil ?_
  refine TE.next ?_
  refine TW.seq ?_
  refine TW.joinBX (τ := Bool) (X := Unit) (fun T _ => [(6, .bool T)]) (fun _ _ => []) ?_ (fun T1 X2 => ?_)
  · refine TW.region ?_
    refine TO.y (Y.move rfl) rfl rfl rfl ?_
    refine TO.y (Y.move rfl) rfl rfl rfl ?_
    refine TO.y (Y.geq rfl rfl) rfl rfl rfl ?_
    refine TO.y (Y.move rfl) rfl rfl rfl ?_
    refine TO.ite (b := decide (n ≥ least)) (fun H3 => ?_) (fun H3 => ?_)
    · refine TO.y (Y.move rfl) (Gd.at 3 true 10 (decide (n ≥ least)) rfl rfl rfl (beq_tt H3)) rfl rfl ?_
      refine TO.y (Y.move rfl) (Gd.at 3 true 10 (decide (n ≥ least)) rfl rfl rfl (beq_tt H3)) rfl rfl ?_
      refine TO.y (Y.leq rfl rfl) (Gd.at 3 true 10 (decide (n ≥ least)) rfl rfl rfl (beq_tt H3)) rfl rfl ?_
      refine TO.y (Y.pick_t H3 rfl rfl) rfl rfl rfl ?_
      refine TO.y (Y.assign rfl) rfl rfl rfl ?_
      refine TO.nil ?_
      exact TE.jb_go () [] ⟨rfl, trivial⟩ rfl
    · refine TO.off (Gd.at 3 true 10 (decide (n ≥ least)) rfl rfl rfl (beq_ft H3)) rfl rfl ?_
      refine TO.off (Gd.at 3 true 10 (decide (n ≥ least)) rfl rfl rfl (beq_ft H3)) rfl rfl ?_
      refine TO.off (Gd.at 3 true 10 (decide (n ≥ least)) rfl rfl rfl (beq_ft H3)) rfl rfl ?_
      refine TO.y (Y.pick_f H3 rfl rfl) rfl rfl rfl ?_
      refine TO.y (Y.assign rfl) rfl rfl rfl ?_
      refine TO.nil ?_
      exact TE.jb_go () [] ⟨rfl, trivial⟩ rfl
  · refine TE.next ?_
    refine TW.ret ?_
    exact TE.leaf fun _ _ hf_ hs_ => ret_any (rs := [.tmp 6]) (vs := [.bool T1]) (.inl rfl) rfl ⟨rfl, trivial⟩ hf_ hs_ ⟨(), rfl, hs_.pulls [] rfl⟩

/-- loop.example/g00950/impl.Need -/
noncomputable def impl_Need (quota : Int) : Option Int :=
  (impl_inRange quota (0 : Int) (1000 : Int)).bind fun R1 =>
  if (!R1) = true then (some (0 : Int))
  else (some (IntKind.i64.wrap ((2 : Int) + (IntKind.i64.wrap ((2 : Int) * (IntKind.i64.wrap (Int.tdiv (IntKind.i64.wrap (IntKind.i64.wrap (quota + (50 : Int)) - (1 : Int))) (50 : Int))))))))

theorem impl_Need_con (quota : Int)  (r : Int) (hm : impl_Need quota = some r) :
    Con Try.prog 10 [.int .i64 quota] [] [] (fun _ : Unit => .int .i64 r) (fun _ => []) := by
  refine Con.intro (args := [.int .i64 quota]) (n := 12) (val := fun r (_ : Unit) => .int .i64 r) (post := fun _ _ => []) (m := impl_Need quota) Try.func10 rfl rfl rfl hm ?_
  intro w S _
  unfold impl_Need
  refine TW.seq ?_
  refine TW.region ?_
  refine TO.y (Y.assign rfl) rfl rfl rfl ?_
  refine TO.nil ?_
  refine TE.next ?_
  refine TW.seq ?_
  refine TW.seq ?_
  refine TW.region ?_
  refine TO.y (Y.move rfl) rfl rfl rfl ?_
  refine TO.bind fun R1 H2 => ?_
  refine TO.ef (Ef.call (rest := []) [] (impl_inRange_con quota (0 : Int) (1000 : Int)  R1 H2) kc38 rfl rfl trivial) rfl rfl rfl (fun _ => ?_)
  refine TO.y (Y.not rfl) rfl rfl rfl ?_
  refine TO.nil ?_
  refine TE.next ?_
  refine TW.cond rfl (fun H4 => ?_) (fun H4 => ?_)
  · refine TW.seq ?_
    refine TW.region ?_
    refine TO.y (Y.assign rfl) rfl rfl rfl ?_
    refine TO.nil ?_
    refine TE.next ?_
    refine TW.ret ?_
    refine TE.then_ret ?_
    exact TE.leaf fun _ _ hf_ hs_ => ret_any (rs := [.tmp 2]) (vs := [.int .i64 (0 : Int)]) (.inl rfl) rfl ⟨rfl, trivial⟩ hf_ hs_ ⟨(), rfl, hs_.pulls [] rfl⟩
  · refine TW.skip ?_
    refine TE.next ?_
    refine TW.seq ?_
    refine TW.region ?_
    refine TO.y (Y.move rfl) rfl rfl rfl ?_
    refine TO.y (Y.add rfl rfl) rfl rfl rfl ?_
    refine TO.y (Y.sub rfl rfl) rfl rfl rfl ?_
    refine TO.y (Y.quo (by decide) rfl rfl) rfl rfl rfl ?_
    refine TO.y (Y.mul rfl rfl) rfl rfl rfl ?_
    refine TO.y (Y.add rfl rfl) rfl rfl rfl ?_
    refine TO.y (Y.assign rfl) rfl rfl rfl ?_
    refine TO.nil ?_
    refine TE.next ?_
    refine TW.ret ?_
    exact TE.leaf fun _ _ hf_ hs_ => ret_any (rs := [.tmp 2]) (vs := [.int .i64 (IntKind.i64.wrap ((2 : Int) + (IntKind.i64.wrap ((2 : Int) * (IntKind.i64.wrap (Int.tdiv (IntKind.i64.wrap (IntKind.i64.wrap (quota + (50 : Int)) - (1 : Int))) (50 : Int)))))))]) (.inl rfl) rfl ⟨rfl, trivial⟩ hf_ hs_ ⟨(), rfl, hs_.pulls [] rfl⟩

/-- loop.example/g00950/laws.FnExactNeed -/
noncomputable def laws_FnExactNeed (aQuota : Int) : Option Bool :=
  (spec_Need aQuota).bind fun R1 =>
  (impl_Need aQuota).bind fun R4 =>
  if (!(decide (R4 = R1))) = true then (some false)
  else (some true)

theorem laws_FnExactNeed_con (aQuota : Int)  (r : Bool) (hm : laws_FnExactNeed aQuota = some r) :
    Con Try.prog 3 [.int .i64 aQuota] [] [] (fun _ : Unit => .bool r) (fun _ => []) := by
  refine Con.intro (args := [.int .i64 aQuota]) (n := 12) (val := fun r (_ : Unit) => .bool r) (post := fun _ _ => []) (m := laws_FnExactNeed aQuota) Try.func3 rfl rfl rfl hm ?_
  intro w S _
  unfold laws_FnExactNeed
  refine TW.seq ?_
  refine TW.region ?_
  refine TO.y (Y.assign rfl) rfl rfl rfl ?_
  refine TO.nil ?_
  refine TE.next ?_
  refine TW.seq ?_
  refine TW.region ?_
  refine TO.y (Y.move rfl) rfl rfl rfl ?_
  refine TO.bind fun R1 H2 => ?_
  refine TO.ef (Ef.call (rest := []) [] (spec_Need_con aQuota  R1 H2) kc9 rfl rfl trivial) rfl rfl rfl (fun _ => ?_)
  refine TO.y (Y.assign rfl) rfl rfl rfl ?_
  refine TO.nil ?_
  refine TE.next ?_
  refine TW.seq ?_
  refine TW.region ?_
  refine TO.y (Y.move rfl) rfl rfl rfl ?_
  refine TO.bind fun R4 H5 => ?_
  refine TO.ef (Ef.call (rest := []) [] (impl_Need_con aQuota  R4 H5) kc10 rfl rfl trivial) rfl rfl rfl (fun _ => ?_)
  refine TO.y (Y.assign rfl) rfl rfl rfl ?_
  refine TO.nil ?_
  refine TE.next ?_
  refine TW.seq ?_
  refine TW.seq ?_
  refine TW.region ?_
  refine TO.y (Y.move rfl) rfl rfl rfl ?_
  refine TO.y (Y.move rfl) rfl rfl rfl ?_
  refine TO.y (Y.neq rfl rfl) rfl rfl rfl ?_
  refine TO.nil ?_
  refine TE.next ?_
  refine TW.cond rfl (fun H7 => ?_) (fun H7 => ?_)
  · refine TW.seq ?_
    refine TW.region ?_
    refine TO.y (Y.assign rfl) rfl rfl rfl ?_
    refine TO.nil ?_
    refine TE.next ?_
    refine TW.ret ?_
    refine TE.then_ret ?_
    exact TE.leaf fun _ _ hf_ hs_ => ret_any (rs := [.tmp 2]) (vs := [.bool false]) (.inl rfl) rfl ⟨rfl, trivial⟩ hf_ hs_ ⟨(), rfl, hs_.pulls [] rfl⟩
  · refine TW.skip ?_
    refine TE.next ?_
    refine TW.seq ?_
    refine TW.region ?_
    refine TO.y (Y.assign rfl) rfl rfl rfl ?_
    refine TO.nil ?_
    refine TE.next ?_
    refine TW.ret ?_
    exact TE.leaf fun _ _ hf_ hs_ => ret_any (rs := [.tmp 2]) (vs := [.bool true]) (.inl rfl) rfl ⟨rfl, trivial⟩ hf_ hs_ ⟨(), rfl, hs_.pulls [] rfl⟩

/-- loop.example/g00950/laws.szIntS -/
noncomputable def laws_szIntS (a : List Int) (left : Int) : Option Int :=
  if (decide (IntKind.i64.wrap (left - ((a.length : Nat) : Int)) < (0 : Int))) = true then (some (-1 : Int))
  else (some (IntKind.i64.wrap (left - ((a.length : Nat) : Int))))

theorem laws_szIntS_con (a : List Int) (left : Int) (V_a0 : Value) (r : Int) (hm : laws_szIntS a left = some r) :
    Con Try.prog 39 [V_a0, .int .i64 left] [] [(V_a0, lc 3 a)] (fun _ : Unit => .int .i64 r) (fun _ => []) := by
  refine Con.intro (args := [V_a0, .int .i64 left]) (n := 12) (val := fun r (_ : Unit) => .int .i64 r) (post := fun _ _ => []) (m := laws_szIntS a left) Try.func39 rfl rfl rfl hm ?_
  intro w S hrd
  have HB_V_a0 := hrd _ (.head _)
  clear hrd
  unfold laws_szIntS
  refine TW.seq ?_
  refine TW.region ?_
  refine TO.y (Y.assign rfl) rfl rfl rfl ?_
  refine TO.nil ?_
  refine TE.next ?_
  refine TW.seq ?_
  refine TW.region ?_
  refine TO.y (Y.move rfl) rfl rfl rfl ?_
  refine TO.y (Y.move rfl) rfl rfl rfl ?_
  refine TO.y (Y.len (l := a) ke24 (Base.can HB_V_a0) rfl) rfl rfl rfl ?_
  refine TO.y (Y.sub rfl rfl) rfl rfl rfl ?_
  refine TO.y (Y.assign rfl) rfl rfl rfl ?_
  refine TO.nil ?_
  refine TE.next ?_
  refine TW.seq ?_
  refine TW.seq ?_
  refine TW.region ?_
  refine TO.y (Y.move rfl) rfl rfl rfl ?_
  refine TO.y (Y.lss rfl rfl) rfl rfl rfl ?_
  refine TO.nil ?_
  refine TE.next ?_
  refine TW.cond rfl (fun H1 => ?_) (fun H1 => ?_)
  · refine TW.seq ?_
    refine TW.region ?_
    refine TO.y (Y.assign rfl) rfl rfl rfl ?_
    refine TO.nil ?_
    refine TE.next ?_
    refine TW.ret ?_
    refine TE.then_ret ?_
    exact TE.leaf fun _ _ hf_ hs_ => ret_any (rs := [.tmp 4]) (vs := [.int .i64 (-1 : Int)]) (.inl rfl) rfl ⟨rfl, trivial⟩ hf_ hs_ ⟨(), rfl, hs_.pulls [] rfl⟩
  · refine TW.skip ?_
    refine TE.next ?_
    refine TW.seq ?_
    refine TW.region ?_
    refine TO.y (Y.move rfl) rfl rfl rfl ?_
    refine TO.y (Y.assign rfl) rfl rfl rfl ?_
    refine TO.nil ?_
    refine TE.next ?_
    refine TW.ret ?_
    exact TE.leaf fun _ _ hf_ hs_ => ret_any (rs := [.tmp 4]) (vs := [.int .i64 (IntKind.i64.wrap (left - ((a.length : Nat) : Int)))]) (.inl rfl) rfl ⟨rfl, trivial⟩ hf_ hs_ ⟨(), rfl, hs_.pulls [] rfl⟩

/-- loop.example/g00950/laws.szSpace -/
noncomputable def laws_szSpace (a : Space) (left : Int) : Option Int :=
  (laws_szIntS a.Owner left).bind fun R2 =>
  if (decide (R2 < (0 : Int))) = true then (some (-1 : Int))
  else (some R2)

theorem laws_szSpace_con (a : Space) (left : Int) (V_a0 : Value) (r : Int) (hm : laws_szSpace a left = some r) :
    Con Try.prog 11 [.agg #[V_a0], .int .i64 left] [] [(V_a0, lc 3 a.Owner)] (fun _ : Unit => .int .i64 r) (fun _ => []) := by
  refine Con.intro (args := [.agg #[V_a0], .int .i64 left]) (n := 12) (val := fun r (_ : Unit) => .int .i64 r) (post := fun _ _ => []) (m := laws_szSpace a left) Try.func11 rfl rfl rfl hm ?_
  intro w S hrd
  have HB_V_a0 := hrd _ (.head _)
  clear hrd
  unfold laws_szSpace
  refine TW.seq ?_
  refine TW.region ?_
  refine TO.ef (Ef.box rfl (Cel.agg ⟨(One.can (Base.can HB_V_a0)), trivial⟩)) rfl rfl rfl (fun B1 => ?_)
  refine TO.y (Y.assign rfl) rfl rfl rfl ?_
  refine TO.nil ?_
  refine TE.next ?_
  refine TW.seq ?_
  refine TW.region ?_
  refine TO.y (Y.field_box kf26_0 rfl rfl) rfl rfl rfl ?_
  refine TO.y (Y.load_box (v := V_a0) 0 kk24 rfl rfl rfl) rfl rfl rfl ?_
  refine TO.y (Y.move rfl) rfl rfl rfl ?_
  refine TO.bind fun R2 H3 => ?_
  refine TO.ef (Ef.call (rest := [.box B1 26 [V_a0]]) [0] (laws_szIntS_con a.Owner left V_a0 R2 H3) kc39 rfl rfl ⟨(Base.can HB_V_a0), trivial⟩) rfl rfl rfl (fun _ => ?_)
  refine TO.y (Y.assign rfl) rfl rfl rfl ?_
  refine TO.nil ?_
  refine TE.next ?_
  refine TW.seq ?_
  refine TW.seq ?_
  refine TW.region ?_
  refine TO.y (Y.move rfl) rfl rfl rfl ?_
  refine TO.y (Y.lss rfl rfl) rfl rfl rfl ?_
  refine TO.nil ?_
  refine TE.next ?_
  refine TW.cond rfl (fun H5 => ?_) (fun H5 => ?_)
  · refine TW.seq ?_
    refine TW.region ?_
    refine TO.y (Y.assign rfl) rfl rfl rfl ?_
    refine TO.nil ?_
    refine TE.next ?_
    refine TW.ret ?_
    refine TE.then_ret ?_
    exact TE.leaf fun _ _ hf_ hs_ => ret_any (rs := [.tmp 4]) (vs := [.int .i64 (-1 : Int)]) (.inl rfl) rfl ⟨rfl, trivial⟩ hf_ hs_ ⟨(), rfl, hs_.pulls [] rfl⟩
  · refine TW.skip ?_
    refine TE.next ?_
    refine TW.seq ?_
    refine TW.region ?_
    refine TO.y (Y.move rfl) rfl rfl rfl ?_
    refine TO.y (Y.assign rfl) rfl rfl rfl ?_
    refine TO.nil ?_
    refine TE.next ?_
    refine TW.ret ?_
    exact TE.leaf fun _ _ hf_ hs_ => ret_any (rs := [.tmp 4]) (vs := [.int .i64 R2]) (.inl rfl) rfl ⟨rfl, trivial⟩ hf_ hs_ ⟨(), rfl, hs_.pulls [] rfl⟩

/-- loop.example/g00950/laws.toIntS -/
noncomputable def laws_toIntS (a : List Int) : Option (List Int) :=
  (mkLen 8 ((a.length : Nat) : Int)).bind fun E2 =>
  bindC (loopO (fun (S4 : Int × List Int) => if (decide (S4.1 < ((a.length : Nat) : Int))) = true then ((idx a S4.1).bind fun E9 =>
  (idx S4.2 S4.1).bind fun E11 =>
  some (.go (IntKind.i64.wrap (S4.1 + (1 : Int)), (S4.2.set S4.1.toNat E9))))
  else (some (.done (.go S4.2))))
  ((0 : Int), (List.replicate E2 (0 : Int))))
  (fun (T6 : List Int) => some T6)

theorem laws_toIntS_con (a : List Int) (V_a0 : Value) (r : List Int) (hm : laws_toIntS a = some r) :
    Con Try.prog 27 [V_a0] [] [(V_a0, lc 3 a)] (fun X : Value => X) (fun X => [.own X (lc 3 r)]) := by
  refine Con.intro (args := [V_a0]) (n := 22) (val := fun _ (X : Value) => X) (post := fun r X => [.own X (lc 3 r)]) (m := laws_toIntS a) Try.func27 rfl rfl rfl hm ?_
  intro w S hrd
  have HB_V_a0 := hrd _ (.head _)
  clear hrd
  unfold laws_toIntS
  refine TW.seq ?_
  refine TW.region ?_
  refine TO.y (Y.assign rfl) rfl rfl rfl ?_
  refine TO.nil ?_
  refine TE.next ?_
  refine TW.seq ?_
  refine TW.region ?_
  refine TO.y (Y.move rfl) rfl rfl rfl ?_
  refine TO.y (Y.len (l := a) ke24 (Base.can HB_V_a0) rfl) rfl rfl rfl ?_
  refine TO.bind fun E2 H3 => ?_
  refine TO.ef (Ef.make (α := Int) (z := (0 : Int)) H3 ke24 kz3 rfl rfl rfl rfl) rfl rfl rfl (fun V1 => ?_)
  refine TO.y (Y.assign rfl) rfl rfl rfl ?_
  refine TO.nil ?_
  refine TE.next ?_
  refine TW.seq ?_
  refine TW.seq ?_
  refine TW.region ?_
  refine TO.y (Y.assign rfl) rfl rfl rfl ?_
  refine TO.nil ?_
  refine TE.next ?_
  refine TW.joinX (τ := List Int) (X := Unit) (fun _ _ => [(3, V1)]) (fun T _ => [.own V1 (lc 3 T)]) ?_ (fun T6 X7 => ?_)
  · refine TW.block ?_
    refine TW.loopX (σ := Int × List Int) (X := Unit) (fun T _ => [(0, V_a0), (3, V1), (4, .int .i64 T.1)]) (fun T _ => [.own V1 (lc 3 T.2)]) () [0] ⟨rfl, rfl, rfl, trivial⟩ rfl (fun S4 X5 => ?_)
    refine TW.seq ?_
    refine TW.seq ?_
    refine TW.region ?_
    refine TO.y (Y.move rfl) rfl rfl rfl ?_
    refine TO.y (Y.move rfl) rfl rfl rfl ?_
    refine TO.y (Y.len (l := a) ke24 (Base.can HB_V_a0) rfl) rfl rfl rfl ?_
    refine TO.y (Y.lss rfl rfl) rfl rfl rfl ?_
    refine TO.nil ?_
    refine TE.next ?_
    refine TW.cond rfl (fun H8 => ?_) (fun H8 => ?_)
    · refine TW.skip ?_
      refine TE.next ?_
      refine TW.seq ?_
      refine TW.block ?_
      refine TW.region ?_
      refine TO.y (Y.move rfl) rfl rfl rfl ?_
      refine TO.y (Y.move rfl) rfl rfl rfl ?_
      refine TO.y (Y.move rfl) rfl rfl rfl ?_
      refine TO.y (Y.move rfl) rfl rfl rfl ?_
      refine TO.bind fun E9 H10 => ?_
      refine TO.y (Y.index ke24 (Base.can HB_V_a0) H10 rfl rfl) rfl rfl rfl ?_
      refine TO.y (Y.load_el (us := [.int .i64 E9]) (u := .int .i64 E9) kk3 rfl (Base.can HB_V_a0) (idx_get H10).2.2 rfl rfl rfl rfl rfl) rfl rfl rfl ?_
      refine TO.bind fun E11 H12 => ?_
      refine TO.y (Y.index ke24 (Can.own 0 rfl) H12 rfl rfl) rfl rfl rfl ?_
      refine TO.ef0 (Ef.store_el (us := [.int .i64 E9]) (is' := [.own V1 (lc 3 (S4.2.set S4.1.toNat E9))]) E9 0 kk3 rfl rfl (idx_get H12).2.2 rfl rfl (Cel.plain rfl rfl) rfl rfl rfl rfl) rfl rfl (fun _ => ?_)
      refine TO.nil ?_
      refine TE.block_normal ?_
      refine TE.next ?_
      refine TW.region ?_
      refine TO.y (Y.move rfl) rfl rfl rfl ?_
      refine TO.y (Y.add rfl rfl) rfl rfl rfl ?_
      refine TO.y (Y.assign rfl) rfl rfl rfl ?_
      refine TO.nil ?_
      exact TE.lp_go () [0] ⟨rfl, rfl, rfl, trivial⟩ rfl
    · refine TW.exit ?_
      refine TE.then_exit ?_
      refine TE.lp_exit ?_
      refine TE.block_exit ?_
      exact TE.jn_go () [0] ⟨rfl, trivial⟩ rfl
  · refine TE.next ?_
    refine TW.seq ?_
    refine TW.region ?_
    refine TO.y (Y.move rfl) rfl rfl rfl ?_
    refine TO.y (Y.assign rfl) rfl rfl rfl ?_
    refine TO.nil ?_
    refine TE.next ?_
    refine TW.ret ?_
    exact TE.leaf fun _ _ hf_ hs_ => ret_any (rs := [.tmp 2]) (vs := [V1]) (.inl rfl) rfl ⟨rfl, trivial⟩ hf_ hs_ ⟨V1, rfl, hs_.pulls [0] rfl⟩

/-- loop.example/g00950/laws.toSpace -/
noncomputable def laws_toSpace (a : Space) : Option Space :=
  (laws_toIntS a.Owner).bind fun R4 =>
  some ({ Owner := R4 : Space })

theorem laws_toSpace_con (a : Space) (V_a0 : Value) (r : Space) (hm : laws_toSpace a = some r) :
    Con Try.prog 13 [.agg #[V_a0]] [] [(V_a0, lc 3 a.Owner)] (fun X : Value => .agg #[X]) (fun X => [.own X (lc 3 r.Owner)]) := by
  refine Con.intro (args := [.agg #[V_a0]]) (n := 9) (val := fun _ (X : Value) => .agg #[X]) (post := fun r X => [.own X (lc 3 r.Owner)]) (m := laws_toSpace a) Try.func13 rfl rfl rfl hm ?_
  intro w S hrd
  have HB_V_a0 := hrd _ (.head _)
  clear hrd
  unfold laws_toSpace
  refine TW.seq ?_
  refine TW.region ?_
  refine TO.ef (Ef.box rfl (Cel.agg ⟨(One.can (Base.can HB_V_a0)), trivial⟩)) rfl rfl rfl (fun B1 => ?_)
  refine TO.ef (Ef.alloc kz29 rfl) rfl rfl rfl (fun B2 => ?_)
  refine TO.nil ?_
  refine TE.next ?_
  refine TW.seq ?_
  refine TW.region ?_
  refine TO.ef (Ef.alloc kz29 rfl) rfl rfl rfl (fun B3 => ?_)
  refine TO.nil ?_
  refine TE.next ?_
  refine TW.seq ?_
  refine TW.region ?_
  refine TO.y (Y.field_box kf26_0 rfl rfl) rfl rfl rfl ?_
  refine TO.y (Y.load_box (v := V_a0) 2 kk24 rfl rfl rfl) rfl rfl rfl ?_
  refine TO.bind fun R4 H5 => ?_
  refine TO.ef (Ef.call (rest := [.box B3 29 [.slice none 0 0], .box B2 29 [.slice none 0 0], .box B1 26 [V_a0]]) [0, 0, 0] (laws_toIntS_con a.Owner V_a0 R4 H5) kc27 rfl rfl ⟨(Base.can HB_V_a0), trivial⟩) rfl rfl rfl (fun Y6 => ?_)
  refine TO.y (Y.field_box kf29_0 rfl rfl) rfl rfl rfl ?_
  refine TO.ef0 (Ef.store_box (us := [Y6]) (vs' := [Y6]) (is' := [.own Y6 (lc 3 R4), .box B3 29 [Y6], .box B2 29 [.slice none 0 0], .box B1 26 [V_a0]]) 1 kk24 rfl rfl rfl (Cel.one (One.can (Can.own 0 rfl))) rfl rfl rfl rfl) rfl rfl (fun _ => ?_)
  refine TO.nil ?_
  refine TE.next ?_
  refine TW.seq ?_
  refine TW.region ?_
  refine TO.y (Y.load_box (v := .agg #[Y6]) 1 kk29 rfl rfl rfl) rfl rfl rfl ?_
  refine TO.ef0 (Ef.store_box (us := [Y6]) (vs' := [Y6]) (is' := [.own Y6 (lc 3 R4), .box B3 29 [Y6], .box B2 29 [Y6], .box B1 26 [V_a0]]) 2 kk29 rfl rfl rfl (Cel.agg ⟨(One.can (Can.own 0 rfl)), trivial⟩) rfl rfl rfl rfl) rfl rfl (fun _ => ?_)
  refine TO.nil ?_
  refine TE.next ?_
  refine TW.ret ?_
  exact TE.leaf fun _ _ hf_ hs_ => ret_any (rs := [.cell 2 29]) (vs := [.agg #[Y6]]) (.inl rfl) rfl (RV.cell 2 rfl rfl kk29 rfl trivial) hf_ hs_ ⟨Y6, rfl, hs_.pulls [0] rfl⟩

/-- loop.example/g00950/spec.SpaceOk -/
noncomputable def spec_SpaceOk (s : Space) : Option Bool :=
  (spec_l1In ((s.Owner.length : Nat) : Int) (1 : Int) (40 : Int)).bind fun R2 =>
  if (!R2) = true then (some false)
  else (bindC (loopO (fun (S6 : Int) => if (decide (S6 < ((s.Owner.length : Nat) : Int))) = true then ((idx s.Owner S6).bind fun E11 =>
  (spec_l1In E11 (0 : Int) (99 : Int)).bind fun R13 =>
  if (!R13) = true then (some (.done (.done false)))
  else (some (.go (IntKind.i64.wrap (S6 + (1 : Int))))))
  else (some (.done (.go ()))))
  (0 : Int))
  (fun (T8 : Unit) => some true))

theorem spec_SpaceOk_con (s : Space) (V_s0 : Value) (r : Bool) (hm : spec_SpaceOk s = some r) :
    Con Try.prog 12 [.agg #[V_s0]] [] [(V_s0, lc 3 s.Owner)] (fun _ : Unit => .bool r) (fun _ => []) := by
  refine Con.intro (args := [.agg #[V_s0]]) (n := 23) (val := fun r (_ : Unit) => .bool r) (post := fun _ _ => []) (m := spec_SpaceOk s) Try.func12 rfl rfl rfl hm ?_
  intro w S hrd
  have HB_V_s0 := hrd _ (.head _)
  clear hrd
  unfold spec_SpaceOk
  refine TW.seq ?_
  refine TW.region ?_
  refine TO.ef (Ef.box rfl (Cel.agg ⟨(One.can (Base.can HB_V_s0)), trivial⟩)) rfl rfl rfl (fun B1 => ?_)
  refine TO.y (Y.assign rfl) rfl rfl rfl ?_
  refine TO.nil ?_
  refine TE.next ?_
  refine TW.seq ?_
  refine TW.seq ?_
  refine TW.region ?_
  refine TO.y (Y.field_box kf29_0 rfl rfl) rfl rfl rfl ?_
  refine TO.y (Y.load_box (v := V_s0) 0 kk24 rfl rfl rfl) rfl rfl rfl ?_
  refine TO.y (Y.len (l := s.Owner) ke24 (Base.can HB_V_s0) rfl) rfl rfl rfl ?_
  refine TO.bind fun R2 H3 => ?_
  refine TO.ef (Ef.call (rest := [.box B1 29 [V_s0]]) [0] (spec_l1In_con ((s.Owner.length : Nat) : Int) (1 : Int) (40 : Int)  R2 H3) kc37 rfl rfl trivial) rfl rfl rfl (fun _ => ?_)
  refine TO.y (Y.not rfl) rfl rfl rfl ?_
  refine TO.nil ?_
  refine TE.next ?_
  refine TW.cond rfl (fun H5 => ?_) (fun H5 => ?_)
  · refine TW.seq ?_
    refine TW.region ?_
    refine TO.y (Y.assign rfl) rfl rfl rfl ?_
    refine TO.nil ?_
    refine TE.next ?_
    refine TW.ret ?_
    refine TE.then_ret ?_
    exact TE.leaf fun _ _ hf_ hs_ => ret_any (rs := [.tmp 2]) (vs := [.bool false]) (.inl rfl) rfl ⟨rfl, trivial⟩ hf_ hs_ ⟨(), rfl, hs_.pulls [] rfl⟩
  · refine TW.skip ?_
    refine TE.next ?_
    refine TW.seq ?_
    refine TW.seq ?_
    refine TW.region ?_
    refine TO.y (Y.assign rfl) rfl rfl rfl ?_
    refine TO.nil ?_
    refine TE.next ?_
    refine TW.joinX (τ := Unit) (X := Unit) (fun _ _ => []) (fun _ _ => []) ?_ (fun T8 X9 => ?_)
    · refine TW.block ?_
      refine TW.loopX (σ := Int) (X := Unit) (fun T _ => [(1, .pointer (some ⟨B1, 0, none⟩)), (3, .int .i64 T)]) (fun _ _ => [.box B1 29 [V_s0]]) () [0] ⟨rfl, rfl, trivial⟩ rfl (fun S6 X7 => ?_)
      refine TW.seq ?_
      refine TW.seq ?_
      refine TW.region ?_
      refine TO.y (Y.move rfl) rfl rfl rfl ?_
      refine TO.y (Y.field_box kf29_0 rfl rfl) rfl rfl rfl ?_
      refine TO.y (Y.load_box (v := V_s0) 0 kk24 rfl rfl rfl) rfl rfl rfl ?_
      refine TO.y (Y.len (l := s.Owner) ke24 (Base.can HB_V_s0) rfl) rfl rfl rfl ?_
      refine TO.y (Y.lss rfl rfl) rfl rfl rfl ?_
      refine TO.nil ?_
      refine TE.next ?_
      refine TW.cond rfl (fun H10 => ?_) (fun H10 => ?_)
      · refine TW.skip ?_
        refine TE.next ?_
        refine TW.seq ?_
        refine TW.block ?_
        refine TW.seq ?_
        refine TW.region ?_
        refine TO.y (Y.field_box kf29_0 rfl rfl) rfl rfl rfl ?_
        refine TO.y (Y.load_box (v := V_s0) 0 kk24 rfl rfl rfl) rfl rfl rfl ?_
        refine TO.y (Y.move rfl) rfl rfl rfl ?_
        refine TO.bind fun E11 H12 => ?_
        refine TO.y (Y.index ke24 (Base.can HB_V_s0) H12 rfl rfl) rfl rfl rfl ?_
        refine TO.y (Y.load_el (us := [.int .i64 E11]) (u := .int .i64 E11) kk3 rfl (Base.can HB_V_s0) (idx_get H12).2.2 rfl rfl rfl rfl rfl) rfl rfl rfl ?_
        refine TO.bind fun R13 H14 => ?_
        refine TO.ef (Ef.call (rest := [.box B1 29 [V_s0]]) [0] (spec_l1In_con E11 (0 : Int) (99 : Int)  R13 H14) kc37 rfl rfl trivial) rfl rfl rfl (fun _ => ?_)
        refine TO.y (Y.not rfl) rfl rfl rfl ?_
        refine TO.nil ?_
        refine TE.next ?_
        refine TW.cond rfl (fun H16 => ?_) (fun H16 => ?_)
        · refine TW.seq ?_
          refine TW.region ?_
          refine TO.y (Y.assign rfl) rfl rfl rfl ?_
          refine TO.nil ?_
          refine TE.next ?_
          refine TW.ret ?_
          refine TE.block_ret ?_
          refine TE.then_ret ?_
          refine TE.lp_ret ?_
          refine TE.block_ret ?_
          refine TE.jn_done ?_
          refine TE.then_ret ?_
          exact TE.leaf fun _ _ hf_ hs_ => ret_any (rs := [.tmp 2]) (vs := [.bool false]) (.inl rfl) rfl ⟨rfl, trivial⟩ hf_ hs_ ⟨(), rfl, hs_.pulls [] rfl⟩
        · refine TW.skip ?_
          refine TE.block_normal ?_
          refine TE.next ?_
          refine TW.region ?_
          refine TO.y (Y.move rfl) rfl rfl rfl ?_
          refine TO.y (Y.add rfl rfl) rfl rfl rfl ?_
          refine TO.y (Y.assign rfl) rfl rfl rfl ?_
          refine TO.nil ?_
          exact TE.lp_go () [0] ⟨rfl, rfl, trivial⟩ rfl
      · refine TW.exit ?_
        refine TE.then_exit ?_
        refine TE.lp_exit ?_
        refine TE.block_exit ?_
        exact TE.jn_go () [] trivial rfl
    · refine TE.next ?_
      refine TW.seq ?_
      refine TW.region ?_
      refine TO.y (Y.assign rfl) rfl rfl rfl ?_
      refine TO.nil ?_
      refine TE.next ?_
      refine TW.ret ?_
      exact TE.leaf fun _ _ hf_ hs_ => ret_any (rs := [.tmp 2]) (vs := [.bool true]) (.inl rfl) rfl ⟨rfl, trivial⟩ hf_ hs_ ⟨(), rfl, hs_.pulls [] rfl⟩

/-- loop.example/g00950/impl.SpaceOk -/
noncomputable def impl_SpaceOk (s : Space) : Option Bool :=
  bindC (loopO (fun (S2 : Int) => if (decide (S2 < ((s.Owner.length : Nat) : Int))) = true then ((idx s.Owner S2).bind fun E7 =>
  (impl_inRange E7 (0 : Int) (99 : Int)).bind fun R9 =>
  if (!R9) = true then (some (.done (.done false)))
  else (some (.go (IntKind.i64.wrap (S2 + (1 : Int))))))
  else (some (.done (.go ()))))
  (0 : Int))
  (fun (T4 : Unit) => (impl_inRange ((s.Owner.length : Nat) : Int) (1 : Int) (40 : Int)).bind fun R13 =>
  some R13)

theorem impl_SpaceOk_con (s : Space) (V_s0 : Value) (r : Bool) (hm : impl_SpaceOk s = some r) :
    Con Try.prog 14 [.agg #[V_s0]] [] [(V_s0, lc 3 s.Owner)] (fun _ : Unit => .bool r) (fun _ => []) := by
  refine Con.intro (args := [.agg #[V_s0]]) (n := 20) (val := fun r (_ : Unit) => .bool r) (post := fun _ _ => []) (m := impl_SpaceOk s) Try.func14 rfl rfl rfl hm ?_
  intro w S hrd
  have HB_V_s0 := hrd _ (.head _)
  clear hrd
  unfold impl_SpaceOk
  refine TW.seq ?_
  refine TW.region ?_
  refine TO.ef (Ef.box rfl (Cel.agg ⟨(One.can (Base.can HB_V_s0)), trivial⟩)) rfl rfl rfl (fun B1 => ?_)
  refine TO.y (Y.assign rfl) rfl rfl rfl ?_
  refine TO.nil ?_
  refine TE.next ?_
  refine TW.seq ?_
  refine TW.seq ?_
  refine TW.region ?_
  refine TO.y (Y.field_box kf29_0 rfl rfl) rfl rfl rfl ?_
  refine TO.y (Y.load_box (v := V_s0) 0 kk24 rfl rfl rfl) rfl rfl rfl ?_
  refine TO.y (Y.len (l := s.Owner) ke24 (Base.can HB_V_s0) rfl) rfl rfl rfl ?_
  refine TO.y (Y.move rfl) rfl rfl rfl ?_
  refine TO.nil ?_
  refine TE.next ?_
  refine TW.joinX (τ := Unit) (X := Unit) (fun _ _ => [(1, .pointer (some ⟨B1, 0, none⟩))]) (fun _ _ => [.box B1 29 [V_s0]]) ?_ (fun T4 X5 => ?_)
  · refine TW.block ?_
    refine TW.loopX (σ := Int) (X := Unit) (fun T _ => [(1, .pointer (some ⟨B1, 0, none⟩)), (6, V_s0), (7, .int .i64 ((s.Owner.length : Nat) : Int)), (8, .int .i64 T)]) (fun _ _ => [.box B1 29 [V_s0]]) () [0] ⟨rfl, rfl, rfl, rfl, trivial⟩ rfl (fun S2 X3 => ?_)
    refine TW.seq ?_
    refine TW.region ?_
    refine TO.y (Y.lss rfl rfl) rfl rfl rfl ?_
    refine TO.nil ?_
    refine TE.next ?_
    refine TW.seq ?_
    refine TW.cond rfl (fun H6 => ?_) (fun H6 => ?_)
    · refine TW.skip ?_
      refine TE.next ?_
      refine TW.seq ?_
      refine TW.block ?_
      refine TW.seq ?_
      refine TW.region ?_
      refine TO.bind fun E7 H8 => ?_
      refine TO.y (Y.index ke24 (Base.can HB_V_s0) H8 rfl rfl) rfl rfl rfl ?_
      refine TO.y (Y.load_el (us := [.int .i64 E7]) (u := .int .i64 E7) kk3 rfl (Base.can HB_V_s0) (idx_get H8).2.2 rfl rfl rfl rfl rfl) rfl rfl rfl ?_
      refine TO.y (Y.assign rfl) rfl rfl rfl ?_
      refine TO.nil ?_
      refine TE.next ?_
      refine TW.seq ?_
      refine TW.region ?_
      refine TO.y (Y.move rfl) rfl rfl rfl ?_
      refine TO.bind fun R9 H10 => ?_
      refine TO.ef (Ef.call (rest := [.box B1 29 [V_s0]]) [0] (impl_inRange_con E7 (0 : Int) (99 : Int)  R9 H10) kc38 rfl rfl trivial) rfl rfl rfl (fun _ => ?_)
      refine TO.y (Y.not rfl) rfl rfl rfl ?_
      refine TO.nil ?_
      refine TE.next ?_
      refine TW.cond rfl (fun H12 => ?_) (fun H12 => ?_)
      · refine TW.seq ?_
        refine TW.region ?_
        refine TO.y (Y.assign rfl) rfl rfl rfl ?_
        refine TO.nil ?_
        refine TE.next ?_
        refine TW.ret ?_
        refine TE.block_ret ?_
        refine TE.then_ret ?_
        refine TE.lp_ret ?_
        refine TE.block_ret ?_
        refine TE.jn_done ?_
        refine TE.then_ret ?_
        exact TE.leaf fun _ _ hf_ hs_ => ret_any (rs := [.tmp 2]) (vs := [.bool false]) (.inl rfl) rfl ⟨rfl, trivial⟩ hf_ hs_ ⟨(), rfl, hs_.pulls [] rfl⟩
      · refine TW.skip ?_
        refine TE.block_normal ?_
        refine TE.next ?_
        refine TW.region ?_
        refine TO.y (Y.add rfl rfl) rfl rfl rfl ?_
        refine TO.y (Y.move rfl) rfl rfl rfl ?_
        refine TO.nil ?_
        exact TE.lp_go () [0] ⟨rfl, rfl, rfl, rfl, trivial⟩ rfl
    · refine TW.exit ?_
      refine TE.then_exit ?_
      refine TE.lp_exit ?_
      refine TE.block_exit ?_
      exact TE.jn_go () [0] ⟨rfl, trivial⟩ rfl
  · refine TE.next ?_
    refine TW.seq ?_
    refine TW.region ?_
    refine TO.y (Y.field_box kf29_0 rfl rfl) rfl rfl rfl ?_
    refine TO.y (Y.load_box (v := V_s0) 0 kk24 rfl rfl rfl) rfl rfl rfl ?_
    refine TO.y (Y.len (l := s.Owner) ke24 (Base.can HB_V_s0) rfl) rfl rfl rfl ?_
    refine TO.bind fun R13 H14 => ?_
    refine TO.ef (Ef.call (rest := [.box B1 29 [V_s0]]) [0] (impl_inRange_con ((s.Owner.length : Nat) : Int) (1 : Int) (40 : Int)  R13 H14) kc38 rfl rfl trivial) rfl rfl rfl (fun _ => ?_)
    refine TO.y (Y.assign rfl) rfl rfl rfl ?_
    refine TO.nil ?_
    refine TE.next ?_
    refine TW.ret ?_
    exact TE.leaf fun _ _ hf_ hs_ => ret_any (rs := [.tmp 2]) (vs := [.bool R13]) (.inl rfl) rfl ⟨rfl, trivial⟩ hf_ hs_ ⟨(), rfl, hs_.pulls [] rfl⟩

/-- loop.example/g00950/laws.eqIntS -/
noncomputable def laws_eqIntS (a : List Int) (b : List Int) : Option Bool :=
  if (!(decide (((a.length : Nat) : Int) = ((b.length : Nat) : Int)))) = true then (some false)
  else (bindC (loopO (fun (S2 : Int) => if (decide (S2 < ((a.length : Nat) : Int))) = true then ((idx a S2).bind fun E7 =>
  (idx b S2).bind fun E9 =>
  if (!(decide (E7 = E9))) = true then (some (.done (.done false)))
  else (some (.go (IntKind.i64.wrap (S2 + (1 : Int))))))
  else (some (.done (.go ()))))
  (0 : Int))
  (fun (T4 : Unit) => some true))

theorem laws_eqIntS_con (a : List Int) (b : List Int) (V_a0 : Value) (V_b0 : Value) (r : Bool) (hm : laws_eqIntS a b = some r) :
    Con Try.prog 29 [V_a0, V_b0] [] [(V_a0, lc 3 a), (V_b0, lc 3 b)] (fun _ : Unit => .bool r) (fun _ => []) := by
  refine Con.intro (args := [V_a0, V_b0]) (n := 26) (val := fun r (_ : Unit) => .bool r) (post := fun _ _ => []) (m := laws_eqIntS a b) Try.func29 rfl rfl rfl hm ?_
  intro w S hrd
  have HB_V_a0 := hrd _ (.head _)
  have HB_V_b0 := hrd _ (.tail _ (.head _))
  clear hrd
  unfold laws_eqIntS
  refine TW.seq ?_
  refine TW.region ?_
  refine TO.y (Y.assign rfl) rfl rfl rfl ?_
  refine TO.nil ?_
  refine TE.next ?_
  refine TW.seq ?_
  refine TW.seq ?_
  refine TW.region ?_
  refine TO.y (Y.move rfl) rfl rfl rfl ?_
  refine TO.y (Y.len (l := a) ke24 (Base.can HB_V_a0) rfl) rfl rfl rfl ?_
  refine TO.y (Y.move rfl) rfl rfl rfl ?_
  refine TO.y (Y.len (l := b) ke24 (Base.can HB_V_b0) rfl) rfl rfl rfl ?_
  refine TO.y (Y.neq rfl rfl) rfl rfl rfl ?_
  refine TO.nil ?_
  refine TE.next ?_
  refine TW.cond rfl (fun H1 => ?_) (fun H1 => ?_)
  · refine TW.seq ?_
    refine TW.region ?_
    refine TO.y (Y.assign rfl) rfl rfl rfl ?_
    refine TO.nil ?_
    refine TE.next ?_
    refine TW.ret ?_
    refine TE.then_ret ?_
    exact TE.leaf fun _ _ hf_ hs_ => ret_any (rs := [.tmp 4]) (vs := [.bool false]) (.inl rfl) rfl ⟨rfl, trivial⟩ hf_ hs_ ⟨(), rfl, hs_.pulls [] rfl⟩
  · refine TW.skip ?_
    refine TE.next ?_
    refine TW.seq ?_
    refine TW.seq ?_
    refine TW.region ?_
    refine TO.y (Y.assign rfl) rfl rfl rfl ?_
    refine TO.nil ?_
    refine TE.next ?_
    refine TW.joinX (τ := Unit) (X := Unit) (fun _ _ => []) (fun _ _ => []) ?_ (fun T4 X5 => ?_)
    · refine TW.block ?_
      refine TW.loopX (σ := Int) (X := Unit) (fun T _ => [(0, V_a0), (1, V_b0), (5, .int .i64 T)]) (fun _ _ => []) () [] ⟨rfl, rfl, rfl, trivial⟩ rfl (fun S2 X3 => ?_)
      refine TW.seq ?_
      refine TW.seq ?_
      refine TW.region ?_
      refine TO.y (Y.move rfl) rfl rfl rfl ?_
      refine TO.y (Y.move rfl) rfl rfl rfl ?_
      refine TO.y (Y.len (l := a) ke24 (Base.can HB_V_a0) rfl) rfl rfl rfl ?_
      refine TO.y (Y.lss rfl rfl) rfl rfl rfl ?_
      refine TO.nil ?_
      refine TE.next ?_
      refine TW.cond rfl (fun H6 => ?_) (fun H6 => ?_)
      · refine TW.skip ?_
        refine TE.next ?_
        refine TW.seq ?_
        refine TW.block ?_
        refine TW.seq ?_
        refine TW.draw (isH := []) hMix ?_
        refine TA.y (listed' := #[true, false, false, false, false, false, false, false, false]) 0 [] rfl (Y.move rfl) rfl rfl rfl (by kernel_rfl) (by kernel_rfl) (by kernel_rfl) rfl rfl ?_
        refine TA.y (listed' := #[true, true, false, false, false, false, false, false, false]) 1 [] rfl (Y.move rfl) rfl rfl rfl (by kernel_rfl) (by kernel_rfl) (by kernel_rfl) rfl rfl ?_
        refine TA.bind fun E7 H8 => ?_
        refine TA.y (listed' := #[true, true, true, false, false, false, false, false, false]) 2 [] rfl (Y.index ke24 (Base.can HB_V_a0) H8 rfl rfl) rfl rfl rfl (by kernel_rfl) (by kernel_rfl) (by kernel_rfl) rfl rfl ?_
        refine TA.y (listed' := #[true, true, true, true, false, false, false, false, false]) 3 [] rfl (Y.load_el (us := [.int .i64 E7]) (u := .int .i64 E7) kk3 rfl (Base.can HB_V_a0) (idx_get H8).2.2 rfl rfl rfl rfl rfl) rfl rfl rfl (by kernel_rfl) (by kernel_rfl) (by kernel_rfl) rfl rfl ?_
        refine TA.y (listed' := #[true, true, true, true, true, false, false, false, false]) 4 [] rfl (Y.move rfl) rfl rfl rfl (by kernel_rfl) (by kernel_rfl) (by kernel_rfl) rfl rfl ?_
        refine TA.y (listed' := #[true, true, true, true, true, true, false, false, false]) 5 [] rfl (Y.move rfl) rfl rfl rfl (by kernel_rfl) (by kernel_rfl) (by kernel_rfl) rfl rfl ?_
        refine TA.bind fun E9 H10 => ?_
        refine TA.y (listed' := #[true, true, true, true, true, true, true, false, false]) 6 [] rfl (Y.index ke24 (Base.can HB_V_b0) H10 rfl rfl) rfl rfl rfl (by kernel_rfl) (by kernel_rfl) (by kernel_rfl) rfl rfl ?_
        refine TA.y (listed' := #[true, true, true, true, true, true, true, true, false]) 7 [] rfl (Y.load_el (us := [.int .i64 E9]) (u := .int .i64 E9) kk3 rfl (Base.can HB_V_b0) (idx_get H10).2.2 rfl rfl rfl rfl rfl) rfl rfl rfl (by kernel_rfl) (by kernel_rfl) (by kernel_rfl) rfl rfl ?_
        refine TA.y (listed' := #[true, true, true, true, true, true, true, true, true]) 8 [] rfl (Y.neq rfl rfl) rfl rfl rfl (by kernel_rfl) (by kernel_rfl) (by kernel_rfl) rfl rfl ?_
        refine TA.nil (by kernel_rfl) ?_
        refine TE.next ?_
        refine TW.cond rfl (fun H11 => ?_) (fun H11 => ?_)
        · refine TW.seq ?_
          refine TW.region ?_
          refine TO.y (Y.assign rfl) rfl rfl rfl ?_
          refine TO.nil ?_
          refine TE.next ?_
          refine TW.ret ?_
          refine TE.block_ret ?_
          refine TE.then_ret ?_
          refine TE.lp_ret ?_
          refine TE.block_ret ?_
          refine TE.jn_done ?_
          refine TE.then_ret ?_
          exact TE.leaf fun _ _ hf_ hs_ => ret_any (rs := [.tmp 4]) (vs := [.bool false]) (.inl rfl) rfl ⟨rfl, trivial⟩ hf_ hs_ ⟨(), rfl, hs_.pulls [] rfl⟩
        · refine TW.skip ?_
          refine TE.block_normal ?_
          refine TE.next ?_
          refine TW.region ?_
          refine TO.y (Y.move rfl) rfl rfl rfl ?_
          refine TO.y (Y.add rfl rfl) rfl rfl rfl ?_
          refine TO.y (Y.assign rfl) rfl rfl rfl ?_
          refine TO.nil ?_
          exact TE.lp_go () [] ⟨rfl, rfl, rfl, trivial⟩ rfl
      · refine TW.exit ?_
        refine TE.then_exit ?_
        refine TE.lp_exit ?_
        refine TE.block_exit ?_
        exact TE.jn_go () [] trivial rfl
    · refine TE.next ?_
      refine TW.seq ?_
      refine TW.region ?_
      refine TO.y (Y.assign rfl) rfl rfl rfl ?_
      refine TO.nil ?_
      refine TE.next ?_
      refine TW.ret ?_
      exact TE.leaf fun _ _ hf_ hs_ => ret_any (rs := [.tmp 4]) (vs := [.bool true]) (.inl rfl) rfl ⟨rfl, trivial⟩ hf_ hs_ ⟨(), rfl, hs_.pulls [] rfl⟩

/-- loop.example/g00950/laws.eqSpace -/
noncomputable def laws_eqSpace (a : Space) (b : Space) : Option Bool :=
  (laws_eqIntS a.Owner b.Owner).bind fun R3 =>
  if (!R3) = true then (some false)
  else (some true)

theorem laws_eqSpace_con (a : Space) (b : Space) (V_a0 : Value) (V_b0 : Value) (r : Bool) (hm : laws_eqSpace a b = some r) :
    Con Try.prog 15 [.agg #[V_a0], .agg #[V_b0]] [] [(V_a0, lc 3 a.Owner), (V_b0, lc 3 b.Owner)] (fun _ : Unit => .bool r) (fun _ => []) := by
  refine Con.intro (args := [.agg #[V_a0], .agg #[V_b0]]) (n := 11) (val := fun r (_ : Unit) => .bool r) (post := fun _ _ => []) (m := laws_eqSpace a b) Try.func15 rfl rfl rfl hm ?_
  intro w S hrd
  have HB_V_a0 := hrd _ (.head _)
  have HB_V_b0 := hrd _ (.tail _ (.head _))
  clear hrd
  unfold laws_eqSpace
  refine TW.seq ?_
  refine TW.region ?_
  refine TO.ef (Ef.box rfl (Cel.agg ⟨(One.can (Base.can HB_V_a0)), trivial⟩)) rfl rfl rfl (fun B1 => ?_)
  refine TO.ef (Ef.box rfl (Cel.agg ⟨(One.can (Base.can HB_V_b0)), trivial⟩)) rfl rfl rfl (fun B2 => ?_)
  refine TO.y (Y.assign rfl) rfl rfl rfl ?_
  refine TO.nil ?_
  refine TE.next ?_
  refine TW.seq ?_
  refine TW.seq ?_
  refine TW.region ?_
  refine TO.y (Y.field_box kf29_0 rfl rfl) rfl rfl rfl ?_
  refine TO.y (Y.load_box (v := V_a0) 1 kk24 rfl rfl rfl) rfl rfl rfl ?_
  refine TO.y (Y.field_box kf29_0 rfl rfl) rfl rfl rfl ?_
  refine TO.y (Y.load_box (v := V_b0) 0 kk24 rfl rfl rfl) rfl rfl rfl ?_
  refine TO.bind fun R3 H4 => ?_
  refine TO.ef (Ef.call (rest := [.box B2 29 [V_b0], .box B1 29 [V_a0]]) [0, 0] (laws_eqIntS_con a.Owner b.Owner V_a0 V_b0 R3 H4) kc29 rfl rfl ⟨(Base.can HB_V_a0), (Base.can HB_V_b0), trivial⟩) rfl rfl rfl (fun _ => ?_)
  refine TO.y (Y.not rfl) rfl rfl rfl ?_
  refine TO.nil ?_
  refine TE.next ?_
  refine TW.cond rfl (fun H6 => ?_) (fun H6 => ?_)
  · refine TW.seq ?_
    refine TW.region ?_
    refine TO.y (Y.assign rfl) rfl rfl rfl ?_
    refine TO.nil ?_
    refine TE.next ?_
    refine TW.ret ?_
    refine TE.then_ret ?_
    exact TE.leaf fun _ _ hf_ hs_ => ret_any (rs := [.tmp 4]) (vs := [.bool false]) (.inl rfl) rfl ⟨rfl, trivial⟩ hf_ hs_ ⟨(), rfl, hs_.pulls [] rfl⟩
  · refine TW.skip ?_
    refine TE.next ?_
    refine TW.seq ?_
    refine TW.region ?_
    refine TO.y (Y.assign rfl) rfl rfl rfl ?_
    refine TO.nil ?_
    refine TE.next ?_
    refine TW.ret ?_
    exact TE.leaf fun _ _ hf_ hs_ => ret_any (rs := [.tmp 4]) (vs := [.bool true]) (.inl rfl) rfl ⟨rfl, trivial⟩ hf_ hs_ ⟨(), rfl, hs_.pulls [] rfl⟩

/-- loop.example/g00950/laws.FnExactSpaceOk -/
noncomputable def laws_FnExactSpaceOk (aS : Space) : Option Bool :=
  (laws_szSpace aS (1048576 : Int)).bind fun R2 =>
  if (decide (R2 < (0 : Int))) = true then (some true)
  else ((laws_toSpace aS).bind fun R6 =>
  (spec_SpaceOk R6).bind fun R9 =>
  (laws_toSpace aS).bind fun R12 =>
  (impl_SpaceOk R12).bind fun R16 =>
  if (!(decide (R16 = R9))) = true then (some false)
  else ((laws_toSpace aS).bind fun R20 =>
  (laws_eqSpace R12 R20).bind fun R23 =>
  if (!R23) = true then (some false)
  else (some true)))

theorem laws_FnExactSpaceOk_con (aS : Space) (V_aS0 : Value) (r : Bool) (hm : laws_FnExactSpaceOk aS = some r) :
    Con Try.prog 4 [.agg #[V_aS0]] [] [(V_aS0, lc 3 aS.Owner)] (fun _ : Unit => .bool r) (fun _ => []) := by
  refine Con.intro (args := [.agg #[V_aS0]]) (n := 27) (val := fun r (_ : Unit) => .bool r) (post := fun _ _ => []) (m := laws_FnExactSpaceOk aS) Try.func4 rfl rfl rfl hm ?_
  intro w S hrd
  have HB_V_aS0 := hrd _ (.head _)
  clear hrd
  unfold laws_FnExactSpaceOk
  refine TW.seq ?_
  refine TW.region ?_
  refine TO.ef (Ef.box rfl (Cel.agg ⟨(One.can (Base.can HB_V_aS0)), trivial⟩)) rfl rfl rfl (fun B1 => ?_)
  refine TO.y (Y.assign rfl) rfl rfl rfl ?_
  refine TO.nil ?_
  refine TE.next ?_
  refine TW.seq ?_
  refine TW.region ?_
  refine TO.y (Y.assign rfl) rfl rfl rfl ?_
  refine TO.nil ?_
  refine TE.next ?_
  refine TW.seq ?_
  refine TW.region ?_
  refine TO.y (Y.load_box (v := .agg #[V_aS0]) 0 kk26 rfl rfl rfl) rfl rfl rfl ?_
  refine TO.y (Y.move rfl) rfl rfl rfl ?_
  refine TO.bind fun R2 H3 => ?_
  refine TO.ef (Ef.call (rest := [.box B1 26 [V_aS0]]) [0] (laws_szSpace_con aS (1048576 : Int) V_aS0 R2 H3) kc11 rfl rfl ⟨(Base.can HB_V_aS0), trivial⟩) rfl rfl rfl (fun _ => ?_)
  refine TO.y (Y.assign rfl) rfl rfl rfl ?_
  refine TO.nil ?_
  refine TE.next ?_
  refine TW.seq ?_
  refine TW.seq ?_
  refine TW.region ?_
  refine TO.y (Y.move rfl) rfl rfl rfl ?_
  refine TO.y (Y.lss rfl rfl) rfl rfl rfl ?_
  refine TO.nil ?_
  refine TE.next ?_
  refine TW.cond rfl (fun H5 => ?_) (fun H5 => ?_)
  · refine TW.seq ?_
    refine TW.region ?_
    refine TO.y (Y.assign rfl) rfl rfl rfl ?_
    refine TO.nil ?_
    refine TE.next ?_
    refine TW.ret ?_
    refine TE.then_ret ?_
    exact TE.leaf fun _ _ hf_ hs_ => ret_any (rs := [.tmp 2]) (vs := [.bool true]) (.inl rfl) rfl ⟨rfl, trivial⟩ hf_ hs_ ⟨(), rfl, hs_.pulls [] rfl⟩
  · refine TW.skip ?_
    refine TE.next ?_
    refine TW.seq ?_
    refine TW.region ?_
    refine TO.y (Y.load_box (v := .agg #[V_aS0]) 0 kk26 rfl rfl rfl) rfl rfl rfl ?_
    refine TO.bind fun R6 H7 => ?_
    refine TO.ef (Ef.call (rest := [.box B1 26 [V_aS0]]) [0] (laws_toSpace_con aS V_aS0 R6 H7) kc13 rfl rfl ⟨(Base.can HB_V_aS0), trivial⟩) rfl rfl rfl (fun Y8 => ?_)
    refine TO.bind fun R9 H10 => ?_
    refine TO.ef (Ef.call (rest := [.own Y8 (lc 3 R6.Owner), .box B1 26 [V_aS0]]) [0, 0] (spec_SpaceOk_con R6 Y8 R9 H10) kc12 rfl rfl ⟨(Can.own 0 rfl), trivial⟩) rfl rfl rfl (fun _ => ?_)
    refine TO.y (Y.assign rfl) rfl rfl rfl ?_
    refine TO.nil ?_
    refine TE.next ?_
    refine TW.seq ?_
    refine TW.region ?_
    refine TO.y (Y.load_box (v := .agg #[V_aS0]) 1 kk26 rfl rfl rfl) rfl rfl rfl ?_
    refine TO.bind fun R12 H13 => ?_
    refine TO.ef (Ef.call (rest := [.own Y8 (lc 3 R6.Owner), .box B1 26 [V_aS0]]) [0, 0] (laws_toSpace_con aS V_aS0 R12 H13) kc13 rfl rfl ⟨(Base.can HB_V_aS0), trivial⟩) rfl rfl rfl (fun Y14 => ?_)
    refine TO.ef (Ef.alloc kz29 rfl) rfl rfl rfl (fun B15 => ?_)
    refine TO.ef0 (Ef.store_box (us := [Y14]) (vs' := [Y14]) (is' := [.box B15 29 [Y14], .own Y14 (lc 3 R12.Owner), .own Y8 (lc 3 R6.Owner), .box B1 26 [V_aS0]]) 0 kk29 rfl rfl rfl (Cel.agg ⟨(One.can (Can.own 1 rfl)), trivial⟩) rfl rfl rfl rfl) rfl rfl (fun _ => ?_)
    refine TO.nil ?_
    refine TE.next ?_
    refine TW.seq ?_
    refine TW.region ?_
    refine TO.y (Y.load_box (v := .agg #[Y14]) 0 kk29 rfl rfl rfl) rfl rfl rfl ?_
    refine TO.bind fun R16 H17 => ?_
    refine TO.ef (Ef.call (rest := [.box B15 29 [Y14], .own Y14 (lc 3 R12.Owner), .own Y8 (lc 3 R6.Owner), .box B1 26 [V_aS0]]) [0, 0, 0, 0] (impl_SpaceOk_con R12 Y14 R16 H17) kc14 rfl rfl ⟨(Can.own 1 rfl), trivial⟩) rfl rfl rfl (fun _ => ?_)
    refine TO.y (Y.assign rfl) rfl rfl rfl ?_
    refine TO.nil ?_
    refine TE.next ?_
    refine TW.seq ?_
    refine TW.seq ?_
    refine TW.region ?_
    refine TO.y (Y.move rfl) rfl rfl rfl ?_
    refine TO.y (Y.move rfl) rfl rfl rfl ?_
    refine TO.y (Y.neb kb4 rfl rfl) rfl rfl rfl ?_
    refine TO.nil ?_
    refine TE.next ?_
    refine TW.cond rfl (fun H19 => ?_) (fun H19 => ?_)
    · refine TW.seq ?_
      refine TW.region ?_
      refine TO.y (Y.assign rfl) rfl rfl rfl ?_
      refine TO.nil ?_
      refine TE.next ?_
      refine TW.ret ?_
      refine TE.then_ret ?_
      exact TE.leaf fun _ _ hf_ hs_ => ret_any (rs := [.tmp 2]) (vs := [.bool false]) (.inl rfl) rfl ⟨rfl, trivial⟩ hf_ hs_ ⟨(), rfl, hs_.pulls [] rfl⟩
    · refine TW.skip ?_
      refine TE.next ?_
      refine TW.seq ?_
      refine TW.seq ?_
      refine TW.draw (isH := [.box B15 29 [Y14], .own Y14 (lc 3 R12.Owner), .own Y8 (lc 3 R6.Owner), .box B1 26 [V_aS0]]) hMix ?_
      refine TA.y (listed' := #[true, false, false, false, false]) 0 [0, 0, 0, 0] rfl (Y.load_box (v := .agg #[Y14]) 0 kk29 rfl rfl rfl) rfl rfl rfl (by kernel_rfl) (by kernel_rfl) (by kernel_rfl) rfl rfl ?_
      refine TA.y (listed' := #[true, true, false, false, false]) 1 [0, 0, 0, 0] rfl (Y.load_box (v := .agg #[V_aS0]) 3 kk26 rfl rfl rfl) rfl rfl rfl (by kernel_rfl) (by kernel_rfl) (by kernel_rfl) rfl rfl ?_
      refine TA.bind fun R20 H21 => ?_
      refine TA.one 2 (by kernel_rfl) ?_
      refine TX.ef (listed' := #[true, true, true, false, false]) [1, 1, 1, 1] rfl (Ef.call (rest := [.box B15 29 [Y14], .own Y14 (lc 3 R12.Owner), .own Y8 (lc 3 R6.Owner), .box B1 26 [V_aS0]]) [0, 0, 0, 0] (laws_toSpace_con aS V_aS0 R20 H21) kc13 rfl rfl ⟨(Base.can HB_V_aS0), trivial⟩) rfl rfl rfl rfl (fun _ => rfl) (fun Y22 => ?_)
      refine TA.bind fun R23 H24 => ?_
      refine TA.one 3 (by kernel_rfl) ?_
      refine TX.ef (listed' := #[true, true, true, true, false]) [1, 1, 1, 1] rfl (Ef.call (rest := [.own Y22 (lc 3 R20.Owner), .box B15 29 [Y14], .own Y14 (lc 3 R12.Owner), .own Y8 (lc 3 R6.Owner), .box B1 26 [V_aS0]]) [0, 0, 0, 0, 0] (laws_eqSpace_con R12 R20 Y14 Y22 R23 H24) kc15 rfl rfl ⟨(Can.own 2 rfl), (Can.own 0 rfl), trivial⟩) rfl rfl rfl rfl (fun _ => rfl) (fun _ => ?_)
      refine TA.y (listed' := #[true, true, true, true, true]) 4 [1, 1, 1, 1] rfl (Y.not rfl) rfl rfl rfl (by kernel_rfl) (by kernel_rfl) (by kernel_rfl) rfl rfl ?_
      refine TA.nil (by kernel_rfl) ?_
      refine TE.next ?_
      refine TW.cond rfl (fun H26 => ?_) (fun H26 => ?_)
      · refine TW.seq ?_
        refine TW.region ?_
        refine TO.y (Y.assign rfl) rfl rfl rfl ?_
        refine TO.nil ?_
        refine TE.next ?_
        refine TW.ret ?_
        refine TE.then_ret ?_
        exact TE.leaf fun _ _ hf_ hs_ => ret_any (rs := [.tmp 2]) (vs := [.bool false]) (.inl rfl) rfl ⟨rfl, trivial⟩ hf_ hs_ ⟨(), rfl, hs_.pulls [] rfl⟩
      · refine TW.skip ?_
        refine TE.next ?_
        refine TW.seq ?_
        refine TW.region ?_
        refine TO.y (Y.assign rfl) rfl rfl rfl ?_
        refine TO.nil ?_
        refine TE.next ?_
        refine TW.ret ?_
        exact TE.leaf fun _ _ hf_ hs_ => ret_any (rs := [.tmp 2]) (vs := [.bool true]) (.inl rfl) rfl ⟨rfl, trivial⟩ hf_ hs_ ⟨(), rfl, hs_.pulls [] rfl⟩

open Go.ChangeShapes Go.WideShapes Go.ChangeAt Go.RowKit
open Go.ChangeMaps (open_string shut_string)
theorem own : ownKnob Try.prog.godebug = none := by kernel_rfl
theorem laidOut : laidOutB Try.prog = true := by kernel_rfl

set_option maxRecDepth 100000 in
theorem FnExactNeed_lifted (hp : ∀ (aQuota : Int), okI aQuota → laws_FnExactNeed aQuota = some true) (os : Os) (started : os.Started) (H : Type) (enc : TypeId × Value → H) :
    ReturnsInHanded {} Try.checked os 3 .any (Rows.fnExactNeedSpec.pre6 enc Try.prog Try.f3 Rows.fnExactNeedRow.domain false) (Rows.fnExactNeedSpec.post enc Try.prog Try.f3 false true false false) := by
  refine returnsInHanded_of_change (C := Try.checked) own started (by kernel_rfl) Try.func3
    (ChangeSpec.witness6 (enc := enc) (C := Try.checked) false ⟨#[], #[.int .i64 (0 : Int)], []⟩ 20 (by kernel_rfl) (by kernel_rfl) (by kernel_rfl) (by kernel_rfl)) ?_
  intro W base args ds gs before hval0 hW hcnd _
  have hval : ∀ (j : Nat) t v, Try.f3.params[j]? = some t → args[j]? = some v → Value.okWide Try.prog W .any base t v := hval0
  have hW' := hW
  obtain ⟨p, q, hA0, hV, rfl, hfz, hnd⟩ := hW
  have hA : DataW.TrodAll enc Try.prog W 0 (fun _ => true) true Try.f3.params.toList args.toList ds p := hA0
  rw [Try.params3] at hA hval
  obtain ⟨v0, vs0, d0, ds0, p0, q0, hargs, rfl, rfl, h0, r0⟩ := trodAll_cons hA
  obtain ⟨rfl, rfl, rfl⟩ := trodAll_nil r0
  obtain rfl : args = #[v0] := by cases args; simp_all
  obtain ⟨rfl, rfl⟩ := trodVars_none hV
  have k0 := h0
  have lt0 : ∀ x ∈ p0, x.block < W.heap.size := by obtain ⟨m, hm⟩ := k0; exact DataW.trod_lt m _ _ _ hm
  have ow0 := hval 0 3 v0 rfl rfl
  obtain ⟨C0, S0, g0, f0⟩ := arg_fits 20 hs3 h0
  obtain ⟨c0, e0, rfl, m0, f0⟩ := f0.cons_inv
  obtain rfl := f0.nil_inv
  obtain ⟨x0, rfl, w0_⟩ := m0.int_inv
  have w0 := okI_of w0_
  obtain ⟨V0_0, y0_0, z0_0, b0_0, _, g0⟩ := Rds.cons_inv g0
  obtain rfl := Rds.nil_inv g0
  rw [cells_int hu3 ow0] at z0_0
  obtain rfl := (List.cons.inj z0_0).1
  obtain rfl := Base.val b0_0 rfl
  clear hA0 hval0
  have hb_ := Con.below (W := W) (laws_FnExactNeed_con x0  true (hp x0 w0)) (by
    intro p hp
    cases hp)
  refine hb_.mono fun e W' ⟨he, bel⟩ => ?_
  subst he
  exact ⟨_, rfl, _, _, _, [], _, [], hW', trodAll_mk1 (shut_bool kb4 _), (trodAll_cons_mk (Below.trod laidOut (by kernel_rfl) (of_decide_eq_true (by kernel_rfl)) k0 bel lt0) trodAll_mk0), rfl, bel.frame _, fun h => by cases h⟩

theorem FnExactNeed_over (hp : ∀ (aQuota : Int), okI aQuota → laws_FnExactNeed aQuota = some true) : Rows.FnExactNeedSaid :=
  OpenClaim.holds_of_wide 3 Try.f3 rfl rfl rfl rfl rfl rfl rfl ⟨rfl, rfl, rfl, rfl, rfl⟩ rfl rfl rfl rfl rfl (by kernel_rfl) Try.func3 (by kernel_rfl)
    (of_decide_eq_true (by kernel_rfl)) (by unfold Func.isWrapper; first | (rw [if_pos (by decide +kernel)]; kernel_rfl) | (rw [if_neg (by decide +kernel)]; exact ⟨rfl, rfl⟩))
    (fun os started H enc _ => FnExactNeed_lifted hp os started H enc)

set_option maxRecDepth 100000 in
theorem FnExactSpaceOk_lifted (hp : ∀ (aS : Space), Dec.ok aS → laws_FnExactSpaceOk aS = some true) (os : Os) (started : os.Started) (H : Type) (enc : TypeId × Value → H) :
    ReturnsInHanded {} Try.checked os 4 .any (Rows.fnExactSpaceOkSpec.pre6 enc Try.prog Try.f4 Rows.fnExactSpaceOkRow.domain false) (Rows.fnExactSpaceOkSpec.post enc Try.prog Try.f4 false true false false) := by
  refine returnsInHanded_of_change (C := Try.checked) own started (by kernel_rfl) Try.func4
    (ChangeSpec.witness6 (enc := enc) (C := Try.checked) false ⟨#[], #[.agg #[.slice none 0 0]], []⟩ 20 (by kernel_rfl) (by kernel_rfl) (by kernel_rfl) (by kernel_rfl)) ?_
  intro W base args ds gs before hval0 hW hcnd _
  have hval : ∀ (j : Nat) t v, Try.f4.params[j]? = some t → args[j]? = some v → Value.okWide Try.prog W .any base t v := hval0
  have hW' := hW
  obtain ⟨p, q, hA0, hV, rfl, hfz, hnd⟩ := hW
  have hA : DataW.TrodAll enc Try.prog W 0 (fun _ => true) true Try.f4.params.toList args.toList ds p := hA0
  rw [Try.params4] at hA hval
  obtain ⟨v0, vs0, d0, ds0, p0, q0, hargs, rfl, rfl, h0, r0⟩ := trodAll_cons hA
  obtain ⟨rfl, rfl, rfl⟩ := trodAll_nil r0
  obtain rfl : args = #[v0] := by cases args; simp_all
  obtain ⟨rfl, rfl⟩ := trodVars_none hV
  have k0 := h0
  have lt0 : ∀ x ∈ p0, x.block < W.heap.size := by obtain ⟨m, hm⟩ := k0; exact DataW.trod_lt m _ _ _ hm
  have ow0 := hval 0 26 v0 rfl rfl
  obtain ⟨C0, S0, g0, f0⟩ := arg_fits 20 hs26 h0
  obtain ⟨x0, rfl, w0⟩ := Dec.dec (α := Space) _ f0
  obtain ⟨V0_0, y0_0, z0_0, b0_0, _, g0⟩ := Rds.cons_inv g0
  obtain rfl := Rds.nil_inv g0
  obtain rfl := cells_agg hu26 ow0 z0_0
  clear hA0 hval0
  have hb_ := Con.below (W := W) (laws_FnExactSpaceOk_con x0 V0_0 true (hp x0 w0)) (by
    intro p hp
    rcases List.mem_cons.1 hp with rfl | hp
    · exact b0_0
    cases hp)
  refine hb_.mono fun e W' ⟨he, bel⟩ => ?_
  subst he
  exact ⟨_, rfl, _, _, _, [], _, [], hW', trodAll_mk1 (shut_bool kb4 _), (trodAll_cons_mk (Below.trod laidOut (by kernel_rfl) (of_decide_eq_true (by kernel_rfl)) k0 bel lt0) trodAll_mk0), rfl, bel.frame _, fun h => by cases h⟩

theorem FnExactSpaceOk_over (hp : ∀ (aS : Space), Dec.ok aS → laws_FnExactSpaceOk aS = some true) : Rows.FnExactSpaceOkSaid :=
  OpenClaim.holds_of_wide 4 Try.f4 rfl rfl rfl rfl rfl rfl rfl ⟨rfl, rfl, rfl, rfl, rfl⟩ rfl rfl rfl rfl rfl (by kernel_rfl) Try.func4 (by kernel_rfl)
    (of_decide_eq_true (by kernel_rfl)) (by unfold Func.isWrapper; first | (rw [if_pos (by decide +kernel)]; kernel_rfl) | (rw [if_neg (by decide +kernel)]; exact ⟨rfl, rfl⟩))
    (fun os started H enc _ => FnExactSpaceOk_lifted hp os started H enc)

end Go.Proofs.Ytjmimdhpghecpaa
