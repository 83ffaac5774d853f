/-
  The functions that a law reaches, each as a pure function, with the proof that the program computes it, and the step from a pure law to the given statement. Conditions: none.
-/
import Derived.Test.YtfanigbmjmiidaaSw
import Derived.Test.YtfanigbmjmiidaaRows
set_option linter.unusedVariables false
set_option maxRecDepth 100000
set_option maxHeartbeats 4000000
namespace Go.Proofs.Ytfanigbmjmiidaa
open Go Sl

structure File where
  No : Int
  Level : Int
  Lo : List UInt8
  Hi : List UInt8
  deriving DecidableEq
instance : Enc File := ⟨4, fun x => [.int .i64 x.No, .int .i64 x.Level, .str x.Lo, .str x.Hi], fun _ => rfl, by decide⟩
instance : Dec File where
  sh := [.int .i64, .int .i64, .str, .str]
  ok x := okI x.No ∧ okI x.Level ∧ x.Lo.length ≤ 9223372036854775807 ∧ x.Hi.length ≤ 9223372036854775807
  dec cs h := by
    obtain ⟨c0, r0, rfl, h0, h⟩ := h.cons_inv
    obtain ⟨c1, r1, rfl, h1, h⟩ := h.cons_inv
    obtain ⟨c2, r2, rfl, h2, h⟩ := h.cons_inv
    obtain ⟨c3, r3, rfl, h3, h⟩ := h.cons_inv
    obtain rfl := h.nil_inv
    obtain ⟨y0, rfl, w0_⟩ := h0.int_inv
    have w0 := okI_of w0_
    obtain ⟨y1, rfl, w1_⟩ := h1.int_inv
    have w1 := okI_of w1_
    obtain ⟨y2, rfl, w2⟩ := h2.str_inv
    obtain ⟨y3, rfl, w3⟩ := h3.str_inv
    exact ⟨{ No := y0, Level := y1, Lo := y2, Hi := y3 : File }, rfl, w0, w1, w2, w3⟩
instance : Flat File := { vals := fun x => [.int .i64 x.No, .int .i64 x.Level, strV x.Lo, strV x.Hi], flat := fun _ => rfl }
structure Edit where
  Add : List File
  Drop : List Int
  deriving DecidableEq
instance : Enc Edit := ⟨2, fun x => [lc x.Add, lc x.Drop], fun _ => rfl, by decide⟩
instance : Dec Edit where
  sh := [.sl 4 (Dec.sh File), .sl 1 (Dec.sh Int)]
  ok x := okl x.Add ∧ okl x.Drop
  dec cs h := by
    obtain ⟨c0, r0, rfl, h0, h⟩ := h.cons_inv
    obtain ⟨c1, r1, rfl, h1, h⟩ := h.cons_inv
    obtain rfl := h.nil_inv
    obtain ⟨y0, rfl, w0⟩ := h0.sl_inv (α := File) rfl
    obtain ⟨y1, rfl, w1⟩ := h1.sl_inv (α := Int) rfl
    exact ⟨{ Add := y0, Drop := y1 : Edit }, rfl, w0, w1⟩

theorem hMix : Try.prog.follows .mixedOrders = true := by kernel_rfl
theorem kf87_2 : fieldB Try.prog 87 2 = some 2 := by kernel_rfl
theorem kk9 : kindB Try.prog 9 = some (false, 1) := by kernel_rfl
theorem ks9 : isStrB Try.prog 9 = true := by kernel_rfl
theorem kf87_3 : fieldB Try.prog 87 3 = some 3 := by kernel_rfl
theorem ke44 : elemB Try.prog 44 = some (87, 4, 48) := by kernel_rfl
theorem kk87 : kindB Try.prog 87 = some (true, 4) := by kernel_rfl
theorem kc54 : callB Try.prog 54 = true := by kernel_rfl
theorem ke24 : elemB Try.prog 24 = some (3, 1, 8) := by kernel_rfl
theorem kf46_0 : fieldB Try.prog 46 0 = some 0 := by kernel_rfl
theorem kk44 : kindB Try.prog 44 = some (false, 1) := by kernel_rfl
theorem kc16 : callB Try.prog 16 = true := by kernel_rfl
theorem kf46_1 : fieldB Try.prog 46 1 = some 1 := by kernel_rfl
theorem kk24 : kindB Try.prog 24 = some (false, 1) := by kernel_rfl
theorem kc29 : callB Try.prog 29 = true := by kernel_rfl
theorem kz91 : zeroB Try.prog 91 = some (.agg #[.int .i64 (0 : Int), .int .i64 (0 : Int), strV ([]), strV ([])]) := by kernel_rfl
theorem kf87_0 : fieldB Try.prog 87 0 = some 0 := by kernel_rfl
theorem kk3 : kindB Try.prog 3 = some (false, 1) := by kernel_rfl
theorem kf91_0 : fieldB Try.prog 91 0 = some 0 := by kernel_rfl
theorem kf87_1 : fieldB Try.prog 87 1 = some 1 := by kernel_rfl
theorem kf91_1 : fieldB Try.prog 91 1 = some 1 := by kernel_rfl
theorem kf91_2 : fieldB Try.prog 91 2 = some 2 := by kernel_rfl
theorem kf91_3 : fieldB Try.prog 91 3 = some 3 := by kernel_rfl
theorem kk91 : kindB Try.prog 91 = some (true, 4) := by kernel_rfl
theorem ke49 : elemB Try.prog 49 = some (91, 4, 48) := by kernel_rfl
theorem kc58 : callB Try.prog 58 = true := by kernel_rfl
theorem kz3 : zeroB Try.prog 3 = some (.int .i64 (0 : Int)) := by kernel_rfl
theorem kz54 : zeroB Try.prog 54 = some (.agg #[.slice none 0 0, .slice none 0 0]) := by kernel_rfl
theorem kc19 : callB Try.prog 19 = true := by kernel_rfl
theorem kf54_0 : fieldB Try.prog 54 0 = some 0 := by kernel_rfl
theorem kk49 : kindB Try.prog 49 = some (false, 1) := by kernel_rfl
theorem kc37 : callB Try.prog 37 = true := by kernel_rfl
theorem kf54_1 : fieldB Try.prog 54 1 = some 1 := by kernel_rfl
theorem kk54 : kindB Try.prog 54 = some (true, 2) := by kernel_rfl
theorem kc66 : callB Try.prog 66 = true := by kernel_rfl
theorem kc84 : callB Try.prog 84 = true := by kernel_rfl
theorem kc85 : callB Try.prog 85 = true := by kernel_rfl
theorem kc55 : callB Try.prog 55 = true := by kernel_rfl
theorem kc56 : callB Try.prog 56 = true := by kernel_rfl
theorem kc57 : callB Try.prog 57 = true := by kernel_rfl
theorem kc74 : callB Try.prog 74 = true := by kernel_rfl
theorem kc77 : callB Try.prog 77 = true := by kernel_rfl
theorem kc100 : callB Try.prog 100 = true := by kernel_rfl
theorem kc99 : callB Try.prog 99 = true := by kernel_rfl
theorem kc109 : callB Try.prog 109 = true := by kernel_rfl
theorem kc110 : callB Try.prog 110 = true := by kernel_rfl
theorem kc101 : callB Try.prog 101 = true := by kernel_rfl
theorem kc102 : callB Try.prog 102 = true := by kernel_rfl
theorem kc86 : callB Try.prog 86 = true := by kernel_rfl
theorem kc87 : callB Try.prog 87 = true := by kernel_rfl
theorem kc88 : callB Try.prog 88 = true := by kernel_rfl
theorem kc59 : callB Try.prog 59 = true := by kernel_rfl
theorem kc60 : callB Try.prog 60 = true := by kernel_rfl
theorem kc89 : callB Try.prog 89 = true := by kernel_rfl
theorem ki3 : intB Try.prog 3 = some .i64 := by kernel_rfl
theorem kc90 : callB Try.prog 90 = true := by kernel_rfl
theorem kc61 : callB Try.prog 61 = true := by kernel_rfl
theorem kc62 : callB Try.prog 62 = true := by kernel_rfl
theorem kc63 : callB Try.prog 63 = true := by kernel_rfl
theorem kc22 : callB Try.prog 22 = true := by kernel_rfl
theorem kc45 : callB Try.prog 45 = true := by kernel_rfl
theorem ki5 : intB Try.prog 5 = some .u8 := by kernel_rfl
theorem kz5 : zeroB Try.prog 5 = some (.int .u8 (0 : Int)) := by kernel_rfl
theorem ke113 : elemB Try.prog 113 = some (5, 1, 1) := by kernel_rfl
theorem kc50 : callB Try.prog 50 = true := by kernel_rfl
theorem kc24 : callB Try.prog 24 = true := by kernel_rfl
theorem kc49 : callB Try.prog 49 = true := by kernel_rfl
theorem kk46 : kindB Try.prog 46 = some (true, 2) := by kernel_rfl
theorem kc17 : callB Try.prog 17 = true := by kernel_rfl
theorem kc20 : callB Try.prog 20 = true := by kernel_rfl
theorem kc18 : callB Try.prog 18 = true := by kernel_rfl
theorem kc21 : callB Try.prog 21 = true := by kernel_rfl
theorem kb4 : Try.prog.underlying 4 = some .bool := by kernel_rfl
theorem kc23 : callB Try.prog 23 = true := by kernel_rfl
theorem kc25 : callB Try.prog 25 = true := by kernel_rfl
theorem kc26 : callB Try.prog 26 = true := by kernel_rfl
theorem hu44 : Try.prog.underlying 44 = some (.slice 87) := by kernel_rfl
theorem hs44 : shB Try.prog 20 44 = some ([.sl 4 (Dec.sh File)]) := by kernel_rfl
theorem hu46 : Try.prog.underlying 46 = some (.struct #[⟨ "Add", 44, 0, Bool.false, "", "", 0⟩, ⟨ "Drop", 24, 1, Bool.false, "", "", 24⟩]) := by kernel_rfl
theorem hs46 : shB Try.prog 20 46 = some (Dec.sh Edit) := by kernel_rfl

/-- loop.example/g00950/laws.szFile -/
noncomputable def laws_szFile (a : File) (left : Int) : Option Int :=
  if (decide (IntKind.i64.wrap (left - ((a.Lo.length : Nat) : Int)) < (0 : Int))) = true then (some (-1 : Int))
  else (if (decide (IntKind.i64.wrap (IntKind.i64.wrap (left - ((a.Lo.length : Nat) : Int)) - ((a.Hi.length : Nat) : Int)) < (0 : Int))) = true then (some (-1 : Int))
  else (some (IntKind.i64.wrap (IntKind.i64.wrap (left - ((a.Lo.length : Nat) : Int)) - ((a.Hi.length : Nat) : Int)))))

theorem laws_szFile_con (a : File) (left : Int)  (r : Int) (hm : laws_szFile a left = some r) :
    Con Try.prog 54 [.agg #[.int .i64 a.No, .int .i64 a.Level, strV a.Lo, strV a.Hi], .int .i64 left] [] [] (fun _ : Unit => .int .i64 r) (fun _ => []) := by
  refine Con.intro (args := [.agg #[.int .i64 a.No, .int .i64 a.Level, strV a.Lo, strV a.Hi], .int .i64 left]) (n := 20) (val := fun r (_ : Unit) => .int .i64 r) (post := fun _ _ => []) (m := laws_szFile a left) Try.func54 rfl rfl rfl hm ?_
  intro w S _
  unfold laws_szFile
  refine TW.seq ?_
  refine TW.region ?_
  refine TO.ef (Ef.box rfl (Cel.plain rfl rfl)) rfl rfl rfl (fun B1 => ?_)
  refine TO.y (Y.assign rfl) rfl rfl rfl ?_
  refine TO.nil ?_
  refine TE.next ?_
  refine TW.seq ?_
  refine TW.region ?_
  refine TO.y (Y.move rfl) rfl rfl rfl ?_
  refine TO.y (Y.field_box kf87_2 rfl rfl) rfl rfl rfl ?_
  refine TO.y (Y.load_box (v := strV a.Lo) 0 kk9 rfl rfl rfl) rfl rfl rfl ?_
  refine TO.y (Y.slen ks9 rfl) rfl rfl rfl ?_
  refine TO.y (Y.sub rfl rfl) rfl rfl rfl ?_
  refine TO.y (Y.assign rfl) rfl rfl rfl ?_
  refine TO.nil ?_
  refine TE.next ?_
  refine TW.seq ?_
  refine TW.seq ?_
  refine TW.region ?_
  refine TO.y (Y.move rfl) rfl rfl rfl ?_
  refine TO.y (Y.lss rfl rfl) rfl rfl rfl ?_
  refine TO.nil ?_
  refine TE.next ?_
  refine TW.cond rfl (fun H2 => ?_) (fun H2 => ?_)
  · refine TW.seq ?_
    refine TW.region ?_
    refine TO.y (Y.assign rfl) rfl rfl rfl ?_
    refine TO.nil ?_
    refine TE.next ?_
    refine TW.ret ?_
    refine TE.then_ret ?_
    exact TE.leaf fun _ _ hf_ hs_ => ret_any (rs := [.tmp 4]) (vs := [.int .i64 (-1 : Int)]) (.inl rfl) rfl ⟨rfl, trivial⟩ hf_ hs_ ⟨(), rfl, hs_.pulls [] rfl⟩
  · refine TW.skip ?_
    refine TE.next ?_
    refine TW.seq ?_
    refine TW.region ?_
    refine TO.y (Y.move rfl) rfl rfl rfl ?_
    refine TO.y (Y.field_box kf87_3 rfl rfl) rfl rfl rfl ?_
    refine TO.y (Y.load_box (v := strV a.Hi) 0 kk9 rfl rfl rfl) rfl rfl rfl ?_
    refine TO.y (Y.slen ks9 rfl) rfl rfl rfl ?_
    refine TO.y (Y.sub rfl rfl) rfl rfl rfl ?_
    refine TO.y (Y.assign rfl) rfl rfl rfl ?_
    refine TO.nil ?_
    refine TE.next ?_
    refine TW.seq ?_
    refine TW.seq ?_
    refine TW.region ?_
    refine TO.y (Y.move rfl) rfl rfl rfl ?_
    refine TO.y (Y.lss rfl rfl) rfl rfl rfl ?_
    refine TO.nil ?_
    refine TE.next ?_
    refine TW.cond rfl (fun H3 => ?_) (fun H3 => ?_)
    · refine TW.seq ?_
      refine TW.region ?_
      refine TO.y (Y.assign rfl) rfl rfl rfl ?_
      refine TO.nil ?_
      refine TE.next ?_
      refine TW.ret ?_
      refine TE.then_ret ?_
      exact TE.leaf fun _ _ hf_ hs_ => ret_any (rs := [.tmp 4]) (vs := [.int .i64 (-1 : Int)]) (.inl rfl) rfl ⟨rfl, trivial⟩ hf_ hs_ ⟨(), rfl, hs_.pulls [] rfl⟩
    · refine TW.skip ?_
      refine TE.next ?_
      refine TW.seq ?_
      refine TW.region ?_
      refine TO.y (Y.move rfl) rfl rfl rfl ?_
      refine TO.y (Y.assign rfl) rfl rfl rfl ?_
      refine TO.nil ?_
      refine TE.next ?_
      refine TW.ret ?_
      exact TE.leaf fun _ _ hf_ hs_ => ret_any (rs := [.tmp 4]) (vs := [.int .i64 (IntKind.i64.wrap (IntKind.i64.wrap (left - ((a.Lo.length : Nat) : Int)) - ((a.Hi.length : Nat) : Int)))]) (.inl rfl) rfl ⟨rfl, trivial⟩ hf_ hs_ ⟨(), rfl, hs_.pulls [] rfl⟩

/-- loop.example/g00950/laws.szFileS -/
noncomputable def laws_szFileS (a : List File) (left : Int) : Option Int :=
  if (decide (IntKind.i64.wrap (left - ((a.length : Nat) : Int)) < (0 : Int))) = true then (some (-1 : Int))
  else (bindC (loopO (fun (S2 : Int × Int) => if (decide (S2.2 < ((a.length : Nat) : Int))) = true then ((idx a S2.2).bind fun E7 =>
  (laws_szFile E7 S2.1).bind fun R9 =>
  if (decide (R9 < (0 : Int))) = true then (some (.done (.done (-1 : Int))))
  else (some (.go (R9, IntKind.i64.wrap (S2.2 + (1 : Int))))))
  else (some (.done (.go S2.1))))
  (IntKind.i64.wrap (left - ((a.length : Nat) : Int)), (0 : Int)))
  (fun (T4 : Int) => some T4))

theorem laws_szFileS_con (a : List File) (left : Int) (V_a0 : Value) (r : Int) (hm : laws_szFileS a left = some r) :
    Con Try.prog 16 [V_a0, .int .i64 left] [] [(V_a0, lc a)] (fun _ : Unit => .int .i64 r) (fun _ => []) := by
  refine Con.intro (args := [V_a0, .int .i64 left]) (n := 27) (val := fun r (_ : Unit) => .int .i64 r) (post := fun _ _ => []) (m := laws_szFileS a left) Try.func16 rfl rfl rfl hm ?_
  intro w S hrd
  have HB_V_a0 := hrd _ (.head _)
  clear hrd
  unfold laws_szFileS
  refine TW.seq ?_
  refine TW.region ?_
  refine TO.y (Y.assign rfl) rfl rfl rfl ?_
  refine TO.nil ?_
  refine TE.next ?_
  refine TW.seq ?_
  refine TW.region ?_
  refine TO.y (Y.move rfl) rfl rfl rfl ?_
  refine TO.y (Y.move rfl) rfl rfl rfl ?_
  refine TO.y (Y.len (l := a) ke44 (Base.can HB_V_a0) rfl) rfl rfl rfl ?_
  refine TO.y (Y.sub rfl rfl) rfl rfl rfl ?_
  refine TO.y (Y.assign rfl) rfl rfl rfl ?_
  refine TO.nil ?_
  refine TE.next ?_
  refine TW.seq ?_
  refine TW.seq ?_
  refine TW.region ?_
  refine TO.y (Y.move rfl) rfl rfl rfl ?_
  refine TO.y (Y.lss rfl rfl) rfl rfl rfl ?_
  refine TO.nil ?_
  refine TE.next ?_
  refine TW.cond rfl (fun H1 => ?_) (fun H1 => ?_)
  · refine TW.seq ?_
    refine TW.region ?_
    refine TO.y (Y.assign rfl) rfl rfl rfl ?_
    refine TO.nil ?_
    refine TE.next ?_
    refine TW.ret ?_
    refine TE.then_ret ?_
    exact TE.leaf fun _ _ hf_ hs_ => ret_any (rs := [.tmp 4]) (vs := [.int .i64 (-1 : Int)]) (.inl rfl) rfl ⟨rfl, trivial⟩ hf_ hs_ ⟨(), rfl, hs_.pulls [] rfl⟩
  · refine TW.skip ?_
    refine TE.next ?_
    refine TW.seq ?_
    refine TW.seq ?_
    refine TW.region ?_
    refine TO.y (Y.assign rfl) rfl rfl rfl ?_
    refine TO.nil ?_
    refine TE.next ?_
    refine TW.joinX (τ := Int) (X := Unit) (fun T _ => [(1, .int .i64 T)]) (fun _ _ => []) ?_ (fun T4 X5 => ?_)
    · refine TW.block ?_
      refine TW.loopX (σ := Int × Int) (X := Unit) (fun T _ => [(0, V_a0), (1, .int .i64 T.1), (5, .int .i64 T.2)]) (fun _ _ => []) () [] ⟨rfl, rfl, rfl, trivial⟩ rfl (fun S2 X3 => ?_)
      refine TW.seq ?_
      refine TW.seq ?_
      refine TW.region ?_
      refine TO.y (Y.move rfl) rfl rfl rfl ?_
      refine TO.y (Y.move rfl) rfl rfl rfl ?_
      refine TO.y (Y.len (l := a) ke44 (Base.can HB_V_a0) rfl) rfl rfl rfl ?_
      refine TO.y (Y.lss rfl rfl) rfl rfl rfl ?_
      refine TO.nil ?_
      refine TE.next ?_
      refine TW.cond rfl (fun H6 => ?_) (fun H6 => ?_)
      · refine TW.skip ?_
        refine TE.next ?_
        refine TW.seq ?_
        refine TW.block ?_
        refine TW.seq ?_
        refine TW.region ?_
        refine TO.y (Y.move rfl) rfl rfl rfl ?_
        refine TO.y (Y.move rfl) rfl rfl rfl ?_
        refine TO.bind fun E7 H8 => ?_
        refine TO.y (Y.index ke44 (Base.can HB_V_a0) H8 rfl rfl) rfl rfl rfl ?_
        refine TO.y (Y.load_el (us := [.int .i64 E7.No, .int .i64 E7.Level, strV E7.Lo, strV E7.Hi]) (u := .agg #[.int .i64 E7.No, .int .i64 E7.Level, strV E7.Lo, strV E7.Hi]) kk87 rfl (Base.can HB_V_a0) (idx_get H8).2.2 rfl rfl rfl rfl rfl) rfl rfl rfl ?_
        refine TO.y (Y.move rfl) rfl rfl rfl ?_
        refine TO.bind fun R9 H10 => ?_
        refine TO.ef (Ef.call (rest := []) [] (laws_szFile_con E7 S2.1  R9 H10) kc54 rfl rfl trivial) rfl rfl rfl (fun _ => ?_)
        refine TO.y (Y.assign rfl) rfl rfl rfl ?_
        refine TO.nil ?_
        refine TE.next ?_
        refine TW.seq ?_
        refine TW.region ?_
        refine TO.y (Y.move rfl) rfl rfl rfl ?_
        refine TO.y (Y.lss rfl rfl) rfl rfl rfl ?_
        refine TO.nil ?_
        refine TE.next ?_
        refine TW.cond rfl (fun H12 => ?_) (fun H12 => ?_)
        · refine TW.seq ?_
          refine TW.region ?_
          refine TO.y (Y.assign rfl) rfl rfl rfl ?_
          refine TO.nil ?_
          refine TE.next ?_
          refine TW.ret ?_
          refine TE.block_ret ?_
          refine TE.then_ret ?_
          refine TE.lp_ret ?_
          refine TE.block_ret ?_
          refine TE.jn_done ?_
          refine TE.then_ret ?_
          exact TE.leaf fun _ _ hf_ hs_ => ret_any (rs := [.tmp 4]) (vs := [.int .i64 (-1 : Int)]) (.inl rfl) rfl ⟨rfl, trivial⟩ hf_ hs_ ⟨(), rfl, hs_.pulls [] rfl⟩
        · refine TW.skip ?_
          refine TE.block_normal ?_
          refine TE.next ?_
          refine TW.region ?_
          refine TO.y (Y.move rfl) rfl rfl rfl ?_
          refine TO.y (Y.add rfl rfl) rfl rfl rfl ?_
          refine TO.y (Y.assign rfl) rfl rfl rfl ?_
          refine TO.nil ?_
          exact TE.lp_go () [] ⟨rfl, rfl, rfl, trivial⟩ rfl
      · refine TW.exit ?_
        refine TE.then_exit ?_
        refine TE.lp_exit ?_
        refine TE.block_exit ?_
        exact TE.jn_go () [] ⟨rfl, trivial⟩ rfl
    · refine TE.next ?_
      refine TW.seq ?_
      refine TW.region ?_
      refine TO.y (Y.move rfl) rfl rfl rfl ?_
      refine TO.y (Y.assign rfl) rfl rfl rfl ?_
      refine TO.nil ?_
      refine TE.next ?_
      refine TW.ret ?_
      exact TE.leaf fun _ _ hf_ hs_ => ret_any (rs := [.tmp 4]) (vs := [.int .i64 T4]) (.inl rfl) rfl ⟨rfl, trivial⟩ hf_ hs_ ⟨(), rfl, hs_.pulls [] rfl⟩

/-- loop.example/g00950/laws.szIntS -/
noncomputable def laws_szIntS (a : List Int) (left : Int) : Option Int :=
  if (decide (IntKind.i64.wrap (left - ((a.length : Nat) : Int)) < (0 : Int))) = true then (some (-1 : Int))
  else (some (IntKind.i64.wrap (left - ((a.length : Nat) : Int))))

theorem laws_szIntS_con (a : List Int) (left : Int) (V_a0 : Value) (r : Int) (hm : laws_szIntS a left = some r) :
    Con Try.prog 29 [V_a0, .int .i64 left] [] [(V_a0, lc a)] (fun _ : Unit => .int .i64 r) (fun _ => []) := by
  refine Con.intro (args := [V_a0, .int .i64 left]) (n := 12) (val := fun r (_ : Unit) => .int .i64 r) (post := fun _ _ => []) (m := laws_szIntS a left) Try.func29 rfl rfl rfl hm ?_
  intro w S hrd
  have HB_V_a0 := hrd _ (.head _)
  clear hrd
  unfold laws_szIntS
  refine TW.seq ?_
  refine TW.region ?_
  refine TO.y (Y.assign rfl) rfl rfl rfl ?_
  refine TO.nil ?_
  refine TE.next ?_
  refine TW.seq ?_
  refine TW.region ?_
  refine TO.y (Y.move rfl) rfl rfl rfl ?_
  refine TO.y (Y.move rfl) rfl rfl rfl ?_
  refine TO.y (Y.len (l := a) ke24 (Base.can HB_V_a0) rfl) rfl rfl rfl ?_
  refine TO.y (Y.sub rfl rfl) rfl rfl rfl ?_
  refine TO.y (Y.assign rfl) rfl rfl rfl ?_
  refine TO.nil ?_
  refine TE.next ?_
  refine TW.seq ?_
  refine TW.seq ?_
  refine TW.region ?_
  refine TO.y (Y.move rfl) rfl rfl rfl ?_
  refine TO.y (Y.lss rfl rfl) rfl rfl rfl ?_
  refine TO.nil ?_
  refine TE.next ?_
  refine TW.cond rfl (fun H1 => ?_) (fun H1 => ?_)
  · refine TW.seq ?_
    refine TW.region ?_
    refine TO.y (Y.assign rfl) rfl rfl rfl ?_
    refine TO.nil ?_
    refine TE.next ?_
    refine TW.ret ?_
    refine TE.then_ret ?_
    exact TE.leaf fun _ _ hf_ hs_ => ret_any (rs := [.tmp 4]) (vs := [.int .i64 (-1 : Int)]) (.inl rfl) rfl ⟨rfl, trivial⟩ hf_ hs_ ⟨(), rfl, hs_.pulls [] rfl⟩
  · refine TW.skip ?_
    refine TE.next ?_
    refine TW.seq ?_
    refine TW.region ?_
    refine TO.y (Y.move rfl) rfl rfl rfl ?_
    refine TO.y (Y.assign rfl) rfl rfl rfl ?_
    refine TO.nil ?_
    refine TE.next ?_
    refine TW.ret ?_
    exact TE.leaf fun _ _ hf_ hs_ => ret_any (rs := [.tmp 4]) (vs := [.int .i64 (IntKind.i64.wrap (left - ((a.length : Nat) : Int)))]) (.inl rfl) rfl ⟨rfl, trivial⟩ hf_ hs_ ⟨(), rfl, hs_.pulls [] rfl⟩

/-- loop.example/g00950/laws.szEdit -/
noncomputable def laws_szEdit (a : Edit) (left : Int) : Option Int :=
  (laws_szFileS a.Add left).bind fun R2 =>
  if (decide (R2 < (0 : Int))) = true then (some (-1 : Int))
  else ((laws_szIntS a.Drop R2).bind fun R6 =>
  if (decide (R6 < (0 : Int))) = true then (some (-1 : Int))
  else (some R6))

theorem laws_szEdit_con (a : Edit) (left : Int) (V_a0 : Value) (V_a1 : Value) (r : Int) (hm : laws_szEdit a left = some r) :
    Con Try.prog 17 [.agg #[V_a0, V_a1], .int .i64 left] [] [(V_a0, lc a.Add), (V_a1, lc a.Drop)] (fun _ : Unit => .int .i64 r) (fun _ => []) := by
  refine Con.intro (args := [.agg #[V_a0, V_a1], .int .i64 left]) (n := 18) (val := fun r (_ : Unit) => .int .i64 r) (post := fun _ _ => []) (m := laws_szEdit a left) Try.func17 rfl rfl rfl hm ?_
  intro w S hrd
  have HB_V_a0 := hrd _ (.head _)
  have HB_V_a1 := hrd _ (.tail _ (.head _))
  clear hrd
  unfold laws_szEdit
  refine TW.seq ?_
  refine TW.region ?_
  refine TO.ef (Ef.box rfl (Cel.agg ⟨(One.can (Base.can HB_V_a0)), (One.can (Base.can HB_V_a1)), trivial⟩)) rfl rfl rfl (fun B1 => ?_)
  refine TO.y (Y.assign rfl) rfl rfl rfl ?_
  refine TO.nil ?_
  refine TE.next ?_
  refine TW.seq ?_
  refine TW.region ?_
  refine TO.y (Y.field_box kf46_0 rfl rfl) rfl rfl rfl ?_
  refine TO.y (Y.load_box (v := V_a0) 0 kk44 rfl rfl rfl) rfl rfl rfl ?_
  refine TO.y (Y.move rfl) rfl rfl rfl ?_
  refine TO.bind fun R2 H3 => ?_
  refine TO.ef (Ef.call (rest := [.box B1 46 [V_a0, V_a1]]) [0] (laws_szFileS_con a.Add left V_a0 R2 H3) kc16 rfl rfl ⟨(Base.can HB_V_a0), trivial⟩) rfl rfl rfl (fun _ => ?_)
  refine TO.y (Y.assign rfl) rfl rfl rfl ?_
  refine TO.nil ?_
  refine TE.next ?_
  refine TW.seq ?_
  refine TW.seq ?_
  refine TW.region ?_
  refine TO.y (Y.move rfl) rfl rfl rfl ?_
  refine TO.y (Y.lss rfl rfl) rfl rfl rfl ?_
  refine TO.nil ?_
  refine TE.next ?_
  refine TW.cond rfl (fun H5 => ?_) (fun H5 => ?_)
  · refine TW.seq ?_
    refine TW.region ?_
    refine TO.y (Y.assign rfl) rfl rfl rfl ?_
    refine TO.nil ?_
    refine TE.next ?_
    refine TW.ret ?_
    refine TE.then_ret ?_
    exact TE.leaf fun _ _ hf_ hs_ => ret_any (rs := [.tmp 4]) (vs := [.int .i64 (-1 : Int)]) (.inl rfl) rfl ⟨rfl, trivial⟩ hf_ hs_ ⟨(), rfl, hs_.pulls [] rfl⟩
  · refine TW.skip ?_
    refine TE.next ?_
    refine TW.seq ?_
    refine TW.region ?_
    refine TO.y (Y.field_box kf46_1 rfl rfl) rfl rfl rfl ?_
    refine TO.y (Y.load_box (v := V_a1) 0 kk24 rfl rfl rfl) rfl rfl rfl ?_
    refine TO.y (Y.move rfl) rfl rfl rfl ?_
    refine TO.bind fun R6 H7 => ?_
    refine TO.ef (Ef.call (rest := [.box B1 46 [V_a0, V_a1]]) [0] (laws_szIntS_con a.Drop R2 V_a1 R6 H7) kc29 rfl rfl ⟨(Base.can HB_V_a1), trivial⟩) rfl rfl rfl (fun _ => ?_)
    refine TO.y (Y.assign rfl) rfl rfl rfl ?_
    refine TO.nil ?_
    refine TE.next ?_
    refine TW.seq ?_
    refine TW.seq ?_
    refine TW.region ?_
    refine TO.y (Y.move rfl) rfl rfl rfl ?_
    refine TO.y (Y.lss rfl rfl) rfl rfl rfl ?_
    refine TO.nil ?_
    refine TE.next ?_
    refine TW.cond rfl (fun H9 => ?_) (fun H9 => ?_)
    · refine TW.seq ?_
      refine TW.region ?_
      refine TO.y (Y.assign rfl) rfl rfl rfl ?_
      refine TO.nil ?_
      refine TE.next ?_
      refine TW.ret ?_
      refine TE.then_ret ?_
      exact TE.leaf fun _ _ hf_ hs_ => ret_any (rs := [.tmp 4]) (vs := [.int .i64 (-1 : Int)]) (.inl rfl) rfl ⟨rfl, trivial⟩ hf_ hs_ ⟨(), rfl, hs_.pulls [] rfl⟩
    · refine TW.skip ?_
      refine TE.next ?_
      refine TW.seq ?_
      refine TW.region ?_
      refine TO.y (Y.move rfl) rfl rfl rfl ?_
      refine TO.y (Y.assign rfl) rfl rfl rfl ?_
      refine TO.nil ?_
      refine TE.next ?_
      refine TW.ret ?_
      exact TE.leaf fun _ _ hf_ hs_ => ret_any (rs := [.tmp 4]) (vs := [.int .i64 R6]) (.inl rfl) rfl ⟨rfl, trivial⟩ hf_ hs_ ⟨(), rfl, hs_.pulls [] rfl⟩

/-- loop.example/g00950/laws.toFile -/
noncomputable def laws_toFile (a : File) : Option File :=
  some a

theorem laws_toFile_con (a : File)  (r : File) (hm : laws_toFile a = some r) :
    Con Try.prog 58 [.agg #[.int .i64 a.No, .int .i64 a.Level, strV a.Lo, strV a.Hi]] [] [] (fun _ : Unit => .agg #[.int .i64 r.No, .int .i64 r.Level, strV r.Lo, strV r.Hi]) (fun _ => []) := by
  refine Con.intro (args := [.agg #[.int .i64 a.No, .int .i64 a.Level, strV a.Lo, strV a.Hi]]) (n := 17) (val := fun r (_ : Unit) => .agg #[.int .i64 r.No, .int .i64 r.Level, strV r.Lo, strV r.Hi]) (post := fun _ _ => []) (m := laws_toFile a) Try.func58 rfl rfl rfl hm ?_
  intro w S _
  unfold laws_toFile
  refine TW.seq ?_
  refine TW.region ?_
  refine TO.ef (Ef.box rfl (Cel.plain rfl rfl)) rfl rfl rfl (fun B1 => ?_)
  refine TO.ef (Ef.alloc kz91 rfl) rfl rfl rfl (fun B2 => ?_)
  refine TO.nil ?_
  refine TE.next ?_
  refine TW.seq ?_
  refine TW.region ?_
  refine TO.ef (Ef.alloc kz91 rfl) rfl rfl rfl (fun B3 => ?_)
  refine TO.nil ?_
  refine TE.next ?_
  refine TW.seq ?_
  refine TW.region ?_
  refine TO.y (Y.field_box kf87_0 rfl rfl) rfl rfl rfl ?_
  refine TO.y (Y.load_box (v := .int .i64 a.No) 2 kk3 rfl rfl rfl) rfl rfl rfl ?_
  refine TO.y (Y.field_box kf91_0 rfl rfl) rfl rfl rfl ?_
  refine TO.ef0 (Ef.store_box (us := [.int .i64 a.No]) (vs' := [.int .i64 a.No, .int .i64 (0 : Int), strV ([]), strV ([])]) (is' := [.box B3 91 [.int .i64 a.No, .int .i64 (0 : Int), strV ([]), strV ([])], .box B2 91 [.int .i64 (0 : Int), .int .i64 (0 : Int), strV ([]), strV ([])], .box B1 87 [.int .i64 a.No, .int .i64 a.Level, strV a.Lo, strV a.Hi]]) 0 kk3 rfl rfl rfl (Cel.plain rfl rfl) rfl rfl rfl rfl) rfl rfl (fun _ => ?_)
  refine TO.nil ?_
  refine TE.next ?_
  refine TW.seq ?_
  refine TW.region ?_
  refine TO.y (Y.field_box kf87_1 rfl rfl) rfl rfl rfl ?_
  refine TO.y (Y.load_box (v := .int .i64 a.Level) 2 kk3 rfl rfl rfl) rfl rfl rfl ?_
  refine TO.y (Y.field_box kf91_1 rfl rfl) rfl rfl rfl ?_
  refine TO.ef0 (Ef.store_box (us := [.int .i64 a.Level]) (vs' := [.int .i64 a.No, .int .i64 a.Level, strV ([]), strV ([])]) (is' := [.box B3 91 [.int .i64 a.No, .int .i64 a.Level, strV ([]), strV ([])], .box B2 91 [.int .i64 (0 : Int), .int .i64 (0 : Int), strV ([]), strV ([])], .box B1 87 [.int .i64 a.No, .int .i64 a.Level, strV a.Lo, strV a.Hi]]) 0 kk3 rfl rfl rfl (Cel.plain rfl rfl) rfl rfl rfl rfl) rfl rfl (fun _ => ?_)
  refine TO.nil ?_
  refine TE.next ?_
  refine TW.seq ?_
  refine TW.region ?_
  refine TO.y (Y.field_box kf87_2 rfl rfl) rfl rfl rfl ?_
  refine TO.y (Y.load_box (v := strV a.Lo) 2 kk9 rfl rfl rfl) rfl rfl rfl ?_
  refine TO.y (Y.field_box kf91_2 rfl rfl) rfl rfl rfl ?_
  refine TO.ef0 (Ef.store_box (us := [strV a.Lo]) (vs' := [.int .i64 a.No, .int .i64 a.Level, strV a.Lo, strV ([])]) (is' := [.box B3 91 [.int .i64 a.No, .int .i64 a.Level, strV a.Lo, strV ([])], .box B2 91 [.int .i64 (0 : Int), .int .i64 (0 : Int), strV ([]), strV ([])], .box B1 87 [.int .i64 a.No, .int .i64 a.Level, strV a.Lo, strV a.Hi]]) 0 kk9 rfl rfl rfl (Cel.plain rfl rfl) rfl rfl rfl rfl) rfl rfl (fun _ => ?_)
  refine TO.nil ?_
  refine TE.next ?_
  refine TW.seq ?_
  refine TW.region ?_
  refine TO.y (Y.field_box kf87_3 rfl rfl) rfl rfl rfl ?_
  refine TO.y (Y.load_box (v := strV a.Hi) 2 kk9 rfl rfl rfl) rfl rfl rfl ?_
  refine TO.y (Y.field_box kf91_3 rfl rfl) rfl rfl rfl ?_
  refine TO.ef0 (Ef.store_box (us := [strV a.Hi]) (vs' := [.int .i64 a.No, .int .i64 a.Level, strV a.Lo, strV a.Hi]) (is' := [.box B3 91 [.int .i64 a.No, .int .i64 a.Level, strV a.Lo, strV a.Hi], .box B2 91 [.int .i64 (0 : Int), .int .i64 (0 : Int), strV ([]), strV ([])], .box B1 87 [.int .i64 a.No, .int .i64 a.Level, strV a.Lo, strV a.Hi]]) 0 kk9 rfl rfl rfl (Cel.plain rfl rfl) rfl rfl rfl rfl) rfl rfl (fun _ => ?_)
  refine TO.nil ?_
  refine TE.next ?_
  refine TW.seq ?_
  refine TW.region ?_
  refine TO.y (Y.load_box (v := .agg #[.int .i64 a.No, .int .i64 a.Level, strV a.Lo, strV a.Hi]) 0 kk91 rfl rfl rfl) rfl rfl rfl ?_
  refine TO.ef0 (Ef.store_box (us := [.int .i64 a.No, .int .i64 a.Level, strV a.Lo, strV a.Hi]) (vs' := [.int .i64 a.No, .int .i64 a.Level, strV a.Lo, strV a.Hi]) (is' := [.box B3 91 [.int .i64 a.No, .int .i64 a.Level, strV a.Lo, strV a.Hi], .box B2 91 [.int .i64 a.No, .int .i64 a.Level, strV a.Lo, strV a.Hi], .box B1 87 [.int .i64 a.No, .int .i64 a.Level, strV a.Lo, strV a.Hi]]) 1 kk91 rfl rfl rfl (Cel.plain rfl rfl) rfl rfl rfl rfl) rfl rfl (fun _ => ?_)
  refine TO.nil ?_
  refine TE.next ?_
  refine TW.ret ?_
  exact TE.leaf fun _ _ hf_ hs_ => ret_any (rs := [.cell 2 91]) (vs := [.agg #[.int .i64 a.No, .int .i64 a.Level, strV a.Lo, strV a.Hi]]) (.inl rfl) rfl (RV.cell 1 rfl rfl kk91 rfl trivial) hf_ hs_ ⟨(), rfl, hs_.pulls [] rfl⟩

/-- loop.example/g00950/laws.toFileS -/
noncomputable def laws_toFileS (a : List File) : Option (List File) :=
  (mkLen 48 ((a.length : Nat) : Int)).bind fun E2 =>
  bindC (loopO (fun (S4 : Int × List File) => if (decide (S4.1 < ((a.length : Nat) : Int))) = true then ((idx a S4.1).bind fun E9 =>
  (laws_toFile E9).bind fun R11 =>
  (idx S4.2 S4.1).bind fun E14 =>
  some (.go (IntKind.i64.wrap (S4.1 + (1 : Int)), (S4.2.set S4.1.toNat R11))))
  else (some (.done (.go S4.2))))
  ((0 : Int), (List.replicate E2 ({ No := (0 : Int), Level := (0 : Int), Lo := [], Hi := [] : File } : File))))
  (fun (T6 : List File) => some T6)

theorem laws_toFileS_con (a : List File) (V_a0 : Value) (r : List File) (hm : laws_toFileS a = some r) :
    Con Try.prog 19 [V_a0] [] [(V_a0, lc a)] (fun X : Value => X) (fun X => [.own X (lc r)]) := by
  refine Con.intro (args := [V_a0]) (n := 23) (val := fun _ (X : Value) => X) (post := fun r X => [.own X (lc r)]) (m := laws_toFileS a) Try.func19 rfl rfl rfl hm ?_
  intro w S hrd
  have HB_V_a0 := hrd _ (.head _)
  clear hrd
  unfold laws_toFileS
  refine TW.seq ?_
  refine TW.region ?_
  refine TO.y (Y.assign rfl) rfl rfl rfl ?_
  refine TO.nil ?_
  refine TE.next ?_
  refine TW.seq ?_
  refine TW.region ?_
  refine TO.y (Y.move rfl) rfl rfl rfl ?_
  refine TO.y (Y.len (l := a) ke44 (Base.can HB_V_a0) rfl) rfl rfl rfl ?_
  refine TO.bind fun E2 H3 => ?_
  refine TO.ef (Ef.make (α := File) (z := ({ No := (0 : Int), Level := (0 : Int), Lo := [], Hi := [] : File } : File)) H3 ke49 kz91 rfl rfl rfl rfl) rfl rfl rfl (fun V1 => ?_)
  refine TO.y (Y.assign rfl) rfl rfl rfl ?_
  refine TO.nil ?_
  refine TE.next ?_
  refine TW.seq ?_
  refine TW.seq ?_
  refine TW.region ?_
  refine TO.y (Y.assign rfl) rfl rfl rfl ?_
  refine TO.nil ?_
  refine TE.next ?_
  refine TW.joinX (τ := List File) (X := Unit) (fun _ _ => [(3, V1)]) (fun T _ => [.own V1 (lc T)]) ?_ (fun T6 X7 => ?_)
  · refine TW.block ?_
    refine TW.loopX (σ := Int × List File) (X := Unit) (fun T _ => [(0, V_a0), (3, V1), (4, .int .i64 T.1)]) (fun T _ => [.own V1 (lc T.2)]) () [0] ⟨rfl, rfl, rfl, trivial⟩ rfl (fun S4 X5 => ?_)
    refine TW.seq ?_
    refine TW.seq ?_
    refine TW.region ?_
    refine TO.y (Y.move rfl) rfl rfl rfl ?_
    refine TO.y (Y.move rfl) rfl rfl rfl ?_
    refine TO.y (Y.len (l := a) ke44 (Base.can HB_V_a0) rfl) rfl rfl rfl ?_
    refine TO.y (Y.lss rfl rfl) rfl rfl rfl ?_
    refine TO.nil ?_
    refine TE.next ?_
    refine TW.cond rfl (fun H8 => ?_) (fun H8 => ?_)
    · refine TW.skip ?_
      refine TE.next ?_
      refine TW.seq ?_
      refine TW.block ?_
      refine TW.region ?_
      refine TO.y (Y.move rfl) rfl rfl rfl ?_
      refine TO.y (Y.move rfl) rfl rfl rfl ?_
      refine TO.y (Y.move rfl) rfl rfl rfl ?_
      refine TO.y (Y.move rfl) rfl rfl rfl ?_
      refine TO.bind fun E9 H10 => ?_
      refine TO.y (Y.index ke44 (Base.can HB_V_a0) H10 rfl rfl) rfl rfl rfl ?_
      refine TO.y (Y.load_el (us := [.int .i64 E9.No, .int .i64 E9.Level, strV E9.Lo, strV E9.Hi]) (u := .agg #[.int .i64 E9.No, .int .i64 E9.Level, strV E9.Lo, strV E9.Hi]) kk87 rfl (Base.can HB_V_a0) (idx_get H10).2.2 rfl rfl rfl rfl rfl) rfl rfl rfl ?_
      refine TO.bind fun R11 H12 => ?_
      refine TO.ef (Ef.call (rest := [.own V1 (lc S4.2)]) [0] (laws_toFile_con E9  R11 H12) kc58 rfl rfl trivial) rfl rfl rfl (fun _ => ?_)
      refine TO.bind fun E14 H15 => ?_
      refine TO.y (Y.index ke49 (Can.own 0 rfl) H15 rfl rfl) rfl rfl rfl ?_
      refine TO.ef0 (Ef.store_el (us := [.int .i64 R11.No, .int .i64 R11.Level, strV R11.Lo, strV R11.Hi]) (is' := [.own V1 (lc (S4.2.set S4.1.toNat R11))]) R11 0 kk91 rfl rfl (idx_get H15).2.2 rfl rfl (Cel.plain rfl rfl) rfl rfl rfl rfl) rfl rfl (fun _ => ?_)
      refine TO.nil ?_
      refine TE.block_normal ?_
      refine TE.next ?_
      refine TW.region ?_
      refine TO.y (Y.move rfl) rfl rfl rfl ?_
      refine TO.y (Y.add rfl rfl) rfl rfl rfl ?_
      refine TO.y (Y.assign rfl) rfl rfl rfl ?_
      refine TO.nil ?_
      exact TE.lp_go () [0] ⟨rfl, rfl, rfl, trivial⟩ rfl
    · refine TW.exit ?_
      refine TE.then_exit ?_
      refine TE.lp_exit ?_
      refine TE.block_exit ?_
      exact TE.jn_go () [0] ⟨rfl, trivial⟩ rfl
  · refine TE.next ?_
    refine TW.seq ?_
    refine TW.region ?_
    refine TO.y (Y.move rfl) rfl rfl rfl ?_
    refine TO.y (Y.assign rfl) rfl rfl rfl ?_
    refine TO.nil ?_
    refine TE.next ?_
    refine TW.ret ?_
    exact TE.leaf fun _ _ hf_ hs_ => ret_any (rs := [.tmp 2]) (vs := [V1]) (.inl rfl) rfl ⟨rfl, trivial⟩ hf_ hs_ ⟨V1, rfl, hs_.pulls [0] rfl⟩

/-- loop.example/g00950/laws.toIntS -/
noncomputable def laws_toIntS (a : List Int) : Option (List Int) :=
  (mkLen 8 ((a.length : Nat) : Int)).bind fun E2 =>
  bindC (loopO (fun (S4 : Int × List Int) => if (decide (S4.1 < ((a.length : Nat) : Int))) = true then ((idx a S4.1).bind fun E9 =>
  (idx S4.2 S4.1).bind fun E11 =>
  some (.go (IntKind.i64.wrap (S4.1 + (1 : Int)), (S4.2.set S4.1.toNat E9))))
  else (some (.done (.go S4.2))))
  ((0 : Int), (List.replicate E2 (0 : Int))))
  (fun (T6 : List Int) => some T6)

theorem laws_toIntS_con (a : List Int) (V_a0 : Value) (r : List Int) (hm : laws_toIntS a = some r) :
    Con Try.prog 37 [V_a0] [] [(V_a0, lc a)] (fun X : Value => X) (fun X => [.own X (lc r)]) := by
  refine Con.intro (args := [V_a0]) (n := 22) (val := fun _ (X : Value) => X) (post := fun r X => [.own X (lc r)]) (m := laws_toIntS a) Try.func37 rfl rfl rfl hm ?_
  intro w S hrd
  have HB_V_a0 := hrd _ (.head _)
  clear hrd
  unfold laws_toIntS
  refine TW.seq ?_
  refine TW.region ?_
  refine TO.y (Y.assign rfl) rfl rfl rfl ?_
  refine TO.nil ?_
  refine TE.next ?_
  refine TW.seq ?_
  refine TW.region ?_
  refine TO.y (Y.move rfl) rfl rfl rfl ?_
  refine TO.y (Y.len (l := a) ke24 (Base.can HB_V_a0) rfl) rfl rfl rfl ?_
  refine TO.bind fun E2 H3 => ?_
  refine TO.ef (Ef.make (α := Int) (z := (0 : Int)) H3 ke24 kz3 rfl rfl rfl rfl) rfl rfl rfl (fun V1 => ?_)
  refine TO.y (Y.assign rfl) rfl rfl rfl ?_
  refine TO.nil ?_
  refine TE.next ?_
  refine TW.seq ?_
  refine TW.seq ?_
  refine TW.region ?_
  refine TO.y (Y.assign rfl) rfl rfl rfl ?_
  refine TO.nil ?_
  refine TE.next ?_
  refine TW.joinX (τ := List Int) (X := Unit) (fun _ _ => [(3, V1)]) (fun T _ => [.own V1 (lc T)]) ?_ (fun T6 X7 => ?_)
  · refine TW.block ?_
    refine TW.loopX (σ := Int × List Int) (X := Unit) (fun T _ => [(0, V_a0), (3, V1), (4, .int .i64 T.1)]) (fun T _ => [.own V1 (lc T.2)]) () [0] ⟨rfl, rfl, rfl, trivial⟩ rfl (fun S4 X5 => ?_)
    refine TW.seq ?_
    refine TW.seq ?_
    refine TW.region ?_
    refine TO.y (Y.move rfl) rfl rfl rfl ?_
    refine TO.y (Y.move rfl) rfl rfl rfl ?_
    refine TO.y (Y.len (l := a) ke24 (Base.can HB_V_a0) rfl) rfl rfl rfl ?_
    refine TO.y (Y.lss rfl rfl) rfl rfl rfl ?_
    refine TO.nil ?_
    refine TE.next ?_
    refine TW.cond rfl (fun H8 => ?_) (fun H8 => ?_)
    · refine TW.skip ?_
      refine TE.next ?_
      refine TW.seq ?_
      refine TW.block ?_
      refine TW.region ?_
      refine TO.y (Y.move rfl) rfl rfl rfl ?_
      refine TO.y (Y.move rfl) rfl rfl rfl ?_
      refine TO.y (Y.move rfl) rfl rfl rfl ?_
      refine TO.y (Y.move rfl) rfl rfl rfl ?_
      refine TO.bind fun E9 H10 => ?_
      refine TO.y (Y.index ke24 (Base.can HB_V_a0) H10 rfl rfl) rfl rfl rfl ?_
      refine TO.y (Y.load_el (us := [.int .i64 E9]) (u := .int .i64 E9) kk3 rfl (Base.can HB_V_a0) (idx_get H10).2.2 rfl rfl rfl rfl rfl) rfl rfl rfl ?_
      refine TO.bind fun E11 H12 => ?_
      refine TO.y (Y.index ke24 (Can.own 0 rfl) H12 rfl rfl) rfl rfl rfl ?_
      refine TO.ef0 (Ef.store_el (us := [.int .i64 E9]) (is' := [.own V1 (lc (S4.2.set S4.1.toNat E9))]) E9 0 kk3 rfl rfl (idx_get H12).2.2 rfl rfl (Cel.plain rfl rfl) rfl rfl rfl rfl) rfl rfl (fun _ => ?_)
      refine TO.nil ?_
      refine TE.block_normal ?_
      refine TE.next ?_
      refine TW.region ?_
      refine TO.y (Y.move rfl) rfl rfl rfl ?_
      refine TO.y (Y.add rfl rfl) rfl rfl rfl ?_
      refine TO.y (Y.assign rfl) rfl rfl rfl ?_
      refine TO.nil ?_
      exact TE.lp_go () [0] ⟨rfl, rfl, rfl, trivial⟩ rfl
    · refine TW.exit ?_
      refine TE.then_exit ?_
      refine TE.lp_exit ?_
      refine TE.block_exit ?_
      exact TE.jn_go () [0] ⟨rfl, trivial⟩ rfl
  · refine TE.next ?_
    refine TW.seq ?_
    refine TW.region ?_
    refine TO.y (Y.move rfl) rfl rfl rfl ?_
    refine TO.y (Y.assign rfl) rfl rfl rfl ?_
    refine TO.nil ?_
    refine TE.next ?_
    refine TW.ret ?_
    exact TE.leaf fun _ _ hf_ hs_ => ret_any (rs := [.tmp 2]) (vs := [V1]) (.inl rfl) rfl ⟨rfl, trivial⟩ hf_ hs_ ⟨V1, rfl, hs_.pulls [0] rfl⟩

/-- loop.example/g00950/laws.toEdit -/
noncomputable def laws_toEdit (a : Edit) : Option Edit :=
  (laws_toFileS a.Add).bind fun R4 =>
  (laws_toIntS a.Drop).bind fun R7 =>
  some ({ Add := R4, Drop := R7 : Edit })

theorem laws_toEdit_con (a : Edit) (V_a0 : Value) (V_a1 : Value) (r : Edit) (hm : laws_toEdit a = some r) :
    Con Try.prog 20 [.agg #[V_a0, V_a1]] [] [(V_a0, lc a.Add), (V_a1, lc a.Drop)] (fun X : Value × Value => .agg #[X.1, X.2]) (fun X => [.own X.1 (lc r.Add), .own X.2 (lc r.Drop)]) := by
  refine Con.intro (args := [.agg #[V_a0, V_a1]]) (n := 13) (val := fun _ (X : Value × Value) => .agg #[X.1, X.2]) (post := fun r X => [.own X.1 (lc r.Add), .own X.2 (lc r.Drop)]) (m := laws_toEdit a) Try.func20 rfl rfl rfl hm ?_
  intro w S hrd
  have HB_V_a0 := hrd _ (.head _)
  have HB_V_a1 := hrd _ (.tail _ (.head _))
  clear hrd
  unfold laws_toEdit
  refine TW.seq ?_
  refine TW.region ?_
  refine TO.ef (Ef.box rfl (Cel.agg ⟨(One.can (Base.can HB_V_a0)), (One.can (Base.can HB_V_a1)), trivial⟩)) rfl rfl rfl (fun B1 => ?_)
  refine TO.ef (Ef.alloc kz54 rfl) rfl rfl rfl (fun B2 => ?_)
  refine TO.nil ?_
  refine TE.next ?_
  refine TW.seq ?_
  refine TW.region ?_
  refine TO.ef (Ef.alloc kz54 rfl) rfl rfl rfl (fun B3 => ?_)
  refine TO.nil ?_
  refine TE.next ?_
  refine TW.seq ?_
  refine TW.region ?_
  refine TO.y (Y.field_box kf46_0 rfl rfl) rfl rfl rfl ?_
  refine TO.y (Y.load_box (v := V_a0) 2 kk44 rfl rfl rfl) rfl rfl rfl ?_
  refine TO.bind fun R4 H5 => ?_
  refine TO.ef (Ef.call (rest := [.box B3 54 [.slice none 0 0, .slice none 0 0], .box B2 54 [.slice none 0 0, .slice none 0 0], .box B1 46 [V_a0, V_a1]]) [0, 0, 0] (laws_toFileS_con a.Add V_a0 R4 H5) kc19 rfl rfl ⟨(Base.can HB_V_a0), trivial⟩) rfl rfl rfl (fun Y6 => ?_)
  refine TO.y (Y.field_box kf54_0 rfl rfl) rfl rfl rfl ?_
  refine TO.ef0 (Ef.store_box (us := [Y6]) (vs' := [Y6, .slice none 0 0]) (is' := [.own Y6 (lc R4), .box B3 54 [Y6, .slice none 0 0], .box B2 54 [.slice none 0 0, .slice none 0 0], .box B1 46 [V_a0, V_a1]]) 1 kk49 rfl rfl rfl (Cel.one (One.can (Can.own 0 rfl))) rfl rfl rfl rfl) rfl rfl (fun _ => ?_)
  refine TO.nil ?_
  refine TE.next ?_
  refine TW.seq ?_
  refine TW.region ?_
  refine TO.y (Y.field_box kf46_1 rfl rfl) rfl rfl rfl ?_
  refine TO.y (Y.load_box (v := V_a1) 3 kk24 rfl rfl rfl) rfl rfl rfl ?_
  refine TO.bind fun R7 H8 => ?_
  refine TO.ef (Ef.call (rest := [.own Y6 (lc R4), .box B3 54 [Y6, .slice none 0 0], .box B2 54 [.slice none 0 0, .slice none 0 0], .box B1 46 [V_a0, V_a1]]) [0, 0, 0, 0] (laws_toIntS_con a.Drop V_a1 R7 H8) kc37 rfl rfl ⟨(Base.can HB_V_a1), trivial⟩) rfl rfl rfl (fun Y9 => ?_)
  refine TO.y (Y.field_box kf54_1 rfl rfl) rfl rfl rfl ?_
  refine TO.ef0 (Ef.store_box (us := [Y9]) (vs' := [Y6, Y9]) (is' := [.own Y9 (lc R7), .own Y6 (lc R4), .box B3 54 [Y6, Y9], .box B2 54 [.slice none 0 0, .slice none 0 0], .box B1 46 [V_a0, V_a1]]) 2 kk24 rfl rfl rfl (Cel.one (One.can (Can.own 0 rfl))) rfl rfl rfl rfl) rfl rfl (fun _ => ?_)
  refine TO.nil ?_
  refine TE.next ?_
  refine TW.seq ?_
  refine TW.region ?_
  refine TO.y (Y.load_box (v := .agg #[Y6, Y9]) 2 kk54 rfl rfl rfl) rfl rfl rfl ?_
  refine TO.ef0 (Ef.store_box (us := [Y6, Y9]) (vs' := [Y6, Y9]) (is' := [.own Y9 (lc R7), .own Y6 (lc R4), .box B3 54 [Y6, Y9], .box B2 54 [Y6, Y9], .box B1 46 [V_a0, V_a1]]) 3 kk54 rfl rfl rfl (Cel.agg ⟨(One.can (Can.own 1 rfl)), (One.can (Can.own 0 rfl)), trivial⟩) rfl rfl rfl rfl) rfl rfl (fun _ => ?_)
  refine TO.nil ?_
  refine TE.next ?_
  refine TW.ret ?_
  exact TE.leaf fun _ _ hf_ hs_ => ret_any (rs := [.cell 2 54]) (vs := [.agg #[Y6, Y9]]) (.inl rfl) rfl (RV.cell 3 rfl rfl kk54 rfl trivial) hf_ hs_ ⟨(Y6, Y9), rfl, hs_.pulls [1, 0] rfl⟩

/-- loop.example/g00950/spec.l1In -/
noncomputable def spec_l1In (x : Int) (low : Int) (high : Int) : Option Bool :=
  (if (decide (x ≥ low)) = true then (some (decide (x ≤ high)))
  else (some false)).bind (fun (T1 : Bool) =>
  some T1)

theorem spec_l1In_con (x : Int) (low : Int) (high : Int)  (r : Bool) (hm : spec_l1In x low high = some r) :
    Con Try.prog 66 [.int .i64 x, .int .i64 low, .int .i64 high] [] [] (fun _ : Unit => .bool r) (fun _ => []) := by
  refine Con.intro (args := [.int .i64 x, .int .i64 low, .int .i64 high]) (n := 15) (val := fun r (_ : Unit) => .bool r) (post := fun _ _ => []) (m := spec_l1In x low high) Try.func66 rfl rfl rfl hm ?_
  intro w S _
  unfold spec_l1In
  refine TW.seq ?_
  refine TW.region ?_
  refine TO.y (Y.assign rfl) rfl rfl rfl ?_
  refine TO.nil ?_
  refine TE.next ?_
  refine TW.seq ?_
  refine TW.joinBX (τ := Bool) (X := Unit) (fun T _ => [(6, .bool T)]) (fun _ _ => []) ?_ (fun T1 X2 => ?_)
  · refine TW.region ?_
    refine TO.y (Y.move rfl) rfl rfl rfl ?_
    refine TO.y (Y.move rfl) rfl rfl rfl ?_
    refine TO.y (Y.geq rfl rfl) rfl rfl rfl ?_
    refine TO.y (Y.move rfl) rfl rfl rfl ?_
    refine TO.ite (b := decide (x ≥ low)) (fun H3 => ?_) (fun H3 => ?_)
    · refine TO.y (Y.move rfl) (Gd.at 3 true 10 (decide (x ≥ low)) rfl rfl rfl (beq_tt H3)) rfl rfl ?_
      refine TO.y (Y.move rfl) (Gd.at 3 true 10 (decide (x ≥ low)) rfl rfl rfl (beq_tt H3)) rfl rfl ?_
      refine TO.y (Y.leq rfl rfl) (Gd.at 3 true 10 (decide (x ≥ low)) rfl rfl rfl (beq_tt H3)) rfl rfl ?_
      refine TO.y (Y.pick_t H3 rfl rfl) rfl rfl rfl ?_
      refine TO.y (Y.assign rfl) rfl rfl rfl ?_
      refine TO.nil ?_
      exact TE.jb_go () [] ⟨rfl, trivial⟩ rfl
    · refine TO.off (Gd.at 3 true 10 (decide (x ≥ low)) rfl rfl rfl (beq_ft H3)) rfl rfl ?_
      refine TO.off (Gd.at 3 true 10 (decide (x ≥ low)) rfl rfl rfl (beq_ft H3)) rfl rfl ?_
      refine TO.off (Gd.at 3 true 10 (decide (x ≥ low)) rfl rfl rfl (beq_ft H3)) rfl rfl ?_
      refine TO.y (Y.pick_f H3 rfl rfl) rfl rfl rfl ?_
      refine TO.y (Y.assign rfl) rfl rfl rfl ?_
      refine TO.nil ?_
      exact TE.jb_go () [] ⟨rfl, trivial⟩ rfl
  · refine TE.next ?_
    refine TW.ret ?_
    exact TE.leaf fun _ _ hf_ hs_ => ret_any (rs := [.tmp 6]) (vs := [.bool T1]) (.inl rfl) rfl ⟨rfl, trivial⟩ hf_ hs_ ⟨(), rfl, hs_.pulls [] rfl⟩

/-- loop.example/g00950/spec.l16Text -/
noncomputable def spec_l16Text (s : List UInt8) : Option Bool :=
  (spec_l1In ((s.length : Nat) : Int) (1 : Int) (10 : Int)).bind fun R1 =>
  some R1

theorem spec_l16Text_con (s : List UInt8)  (r : Bool) (hm : spec_l16Text s = some r) :
    Con Try.prog 84 [strV s] [] [] (fun _ : Unit => .bool r) (fun _ => []) := by
  refine Con.intro (args := [strV s]) (n := 6) (val := fun r (_ : Unit) => .bool r) (post := fun _ _ => []) (m := spec_l16Text s) Try.func84 rfl rfl rfl hm ?_
  intro w S _
  unfold spec_l16Text
  refine TW.seq ?_
  refine TW.region ?_
  refine TO.y (Y.assign rfl) rfl rfl rfl ?_
  refine TO.nil ?_
  refine TE.next ?_
  refine TW.seq ?_
  refine TW.region ?_
  refine TO.y (Y.move rfl) rfl rfl rfl ?_
  refine TO.y (Y.slen ks9 rfl) rfl rfl rfl ?_
  refine TO.bind fun R1 H2 => ?_
  refine TO.ef (Ef.call (rest := []) [] (spec_l1In_con ((s.length : Nat) : Int) (1 : Int) (10 : Int)  R1 H2) kc66 rfl rfl trivial) rfl rfl rfl (fun _ => ?_)
  refine TO.y (Y.assign rfl) rfl rfl rfl ?_
  refine TO.nil ?_
  refine TE.next ?_
  refine TW.ret ?_
  exact TE.leaf fun _ _ hf_ hs_ => ret_any (rs := [.tmp 2]) (vs := [.bool R1]) (.inl rfl) rfl ⟨rfl, trivial⟩ hf_ hs_ ⟨(), rfl, hs_.pulls [] rfl⟩

/-- loop.example/g00950/spec.l16Ahead -/
noncomputable def spec_l16Ahead (a : File) (b : File) : Option Bool :=
  if (!(decide (a.Level = b.Level))) = true then (some (decide (a.Level < b.Level)))
  else (if (decide (a.Level = (0 : Int))) = true then (some (decide (a.No > b.No)))
  else (some (sLt a.Lo b.Lo)))

theorem spec_l16Ahead_con (a : File) (b : File)  (r : Bool) (hm : spec_l16Ahead a b = some r) :
    Con Try.prog 85 [.agg #[.int .i64 a.No, .int .i64 a.Level, strV a.Lo, strV a.Hi], .agg #[.int .i64 b.No, .int .i64 b.Level, strV b.Lo, strV b.Hi]] [] [] (fun _ : Unit => .bool r) (fun _ => []) := by
  refine Con.intro (args := [.agg #[.int .i64 a.No, .int .i64 a.Level, strV a.Lo, strV a.Hi], .agg #[.int .i64 b.No, .int .i64 b.Level, strV b.Lo, strV b.Hi]]) (n := 28) (val := fun r (_ : Unit) => .bool r) (post := fun _ _ => []) (m := spec_l16Ahead a b) Try.func85 rfl rfl rfl hm ?_
  intro w S _
  unfold spec_l16Ahead
  refine TW.seq ?_
  refine TW.region ?_
  refine TO.ef (Ef.box rfl (Cel.plain rfl rfl)) rfl rfl rfl (fun B1 => ?_)
  refine TO.ef (Ef.box rfl (Cel.plain rfl rfl)) rfl rfl rfl (fun B2 => ?_)
  refine TO.y (Y.assign rfl) rfl rfl rfl ?_
  refine TO.nil ?_
  refine TE.next ?_
  refine TW.seq ?_
  refine TW.seq ?_
  refine TW.region ?_
  refine TO.y (Y.field_box kf91_1 rfl rfl) rfl rfl rfl ?_
  refine TO.y (Y.load_box (v := .int .i64 a.Level) 1 kk3 rfl rfl rfl) rfl rfl rfl ?_
  refine TO.y (Y.field_box kf91_1 rfl rfl) rfl rfl rfl ?_
  refine TO.y (Y.load_box (v := .int .i64 b.Level) 0 kk3 rfl rfl rfl) rfl rfl rfl ?_
  refine TO.y (Y.neq rfl rfl) rfl rfl rfl ?_
  refine TO.nil ?_
  refine TE.next ?_
  refine TW.cond rfl (fun H3 => ?_) (fun H3 => ?_)
  · refine TW.seq ?_
    refine TW.region ?_
    refine TO.y (Y.field_box kf91_1 rfl rfl) rfl rfl rfl ?_
    refine TO.y (Y.load_box (v := .int .i64 a.Level) 1 kk3 rfl rfl rfl) rfl rfl rfl ?_
    refine TO.y (Y.field_box kf91_1 rfl rfl) rfl rfl rfl ?_
    refine TO.y (Y.load_box (v := .int .i64 b.Level) 0 kk3 rfl rfl rfl) rfl rfl rfl ?_
    refine TO.y (Y.lss rfl rfl) rfl rfl rfl ?_
    refine TO.y (Y.assign rfl) rfl rfl rfl ?_
    refine TO.nil ?_
    refine TE.next ?_
    refine TW.ret ?_
    refine TE.then_ret ?_
    exact TE.leaf fun _ _ hf_ hs_ => ret_any (rs := [.tmp 4]) (vs := [.bool (decide (a.Level < b.Level))]) (.inl rfl) rfl ⟨rfl, trivial⟩ hf_ hs_ ⟨(), rfl, hs_.pulls [] rfl⟩
  · refine TW.skip ?_
    refine TE.next ?_
    refine TW.seq ?_
    refine TW.seq ?_
    refine TW.region ?_
    refine TO.y (Y.field_box kf91_1 rfl rfl) rfl rfl rfl ?_
    refine TO.y (Y.load_box (v := .int .i64 a.Level) 1 kk3 rfl rfl rfl) rfl rfl rfl ?_
    refine TO.y (Y.eql rfl rfl) rfl rfl rfl ?_
    refine TO.nil ?_
    refine TE.next ?_
    refine TW.cond rfl (fun H4 => ?_) (fun H4 => ?_)
    · refine TW.seq ?_
      refine TW.region ?_
      refine TO.y (Y.field_box kf91_0 rfl rfl) rfl rfl rfl ?_
      refine TO.y (Y.load_box (v := .int .i64 a.No) 1 kk3 rfl rfl rfl) rfl rfl rfl ?_
      refine TO.y (Y.field_box kf91_0 rfl rfl) rfl rfl rfl ?_
      refine TO.y (Y.load_box (v := .int .i64 b.No) 0 kk3 rfl rfl rfl) rfl rfl rfl ?_
      refine TO.y (Y.gtr rfl rfl) rfl rfl rfl ?_
      refine TO.y (Y.assign rfl) rfl rfl rfl ?_
      refine TO.nil ?_
      refine TE.next ?_
      refine TW.ret ?_
      refine TE.then_ret ?_
      exact TE.leaf fun _ _ hf_ hs_ => ret_any (rs := [.tmp 4]) (vs := [.bool (decide (a.No > b.No))]) (.inl rfl) rfl ⟨rfl, trivial⟩ hf_ hs_ ⟨(), rfl, hs_.pulls [] rfl⟩
    · refine TW.skip ?_
      refine TE.next ?_
      refine TW.seq ?_
      refine TW.region ?_
      refine TO.y (Y.field_box kf91_2 rfl rfl) rfl rfl rfl ?_
      refine TO.y (Y.load_box (v := strV a.Lo) 1 kk9 rfl rfl rfl) rfl rfl rfl ?_
      refine TO.y (Y.field_box kf91_2 rfl rfl) rfl rfl rfl ?_
      refine TO.y (Y.load_box (v := strV b.Lo) 0 kk9 rfl rfl rfl) rfl rfl rfl ?_
      refine TO.y (Y.slss rfl rfl) rfl rfl rfl ?_
      refine TO.y (Y.assign rfl) rfl rfl rfl ?_
      refine TO.nil ?_
      refine TE.next ?_
      refine TW.ret ?_
      exact TE.leaf fun _ _ hf_ hs_ => ret_any (rs := [.tmp 4]) (vs := [.bool (sLt a.Lo b.Lo)]) (.inl rfl) rfl ⟨rfl, trivial⟩ hf_ hs_ ⟨(), rfl, hs_.pulls [] rfl⟩

/-- loop.example/g00950/spec.FilesOk -/
noncomputable def spec_FilesOk (l : List File) : Option Bool :=
  if (decide (((l.length : Nat) : Int) > (12 : Int))) = true then (some false)
  else (bindC (loopO (fun (S2 : Int) => if (decide (S2 < ((l.length : Nat) : Int))) = true then ((idx l S2).bind fun E7 =>
  ((spec_l1In E7.No (1 : Int) (1000000 : Int)).bind fun R12 =>
  if (!R12) = true then (some true)
  else ((spec_l1In E7.Level (0 : Int) (2 : Int)).bind fun R16 =>
  if (!R16) = true then (some true)
  else ((spec_l16Text E7.Lo).bind fun R20 =>
  if (!R20) = true then (some true)
  else ((spec_l16Text E7.Hi).bind fun R24 =>
  if (!R24) = true then (some true)
  else (some (!(sLt E7.Lo E7.Hi || decide (E7.Lo = E7.Hi)))))))).bind (fun (T10 : Bool) =>
  if T10 = true then (some (.done (.done false)))
  else ((if (decide (S2 > (0 : Int))) = true then ((idx l (IntKind.i64.wrap (S2 - (1 : Int)))).bind fun E32 =>
  (spec_l16Ahead E32 E7).bind fun R34 =>
  if (!R34) = true then (some true)
  else (if (decide (E7.Level > (0 : Int))) = true then (if (decide (E32.Level = E7.Level)) = true then (some (sLt E7.Lo E32.Hi || decide (E7.Lo = E32.Hi)))
  else (some false))
  else (some false)))
  else (some false)).bind (fun (T29 : Bool) =>
  if T29 = true then (some (.done (.done false)))
  else (bindC (loopO (fun (S41 : Int) => if (decide (S41 < S2)) = true then ((idx l S41).bind fun E46 =>
  if (decide (E46.No = E7.No)) = true then (some (.done (.done (.done (.done false)))))
  else (some (.go (IntKind.i64.wrap (S41 + (1 : Int))))))
  else (some (.done (.go ()))))
  (0 : Int))
  (fun (T43 : Unit) => some (.go (IntKind.i64.wrap (S2 + (1 : Int))))))))))
  else (some (.done (.go ()))))
  (0 : Int))
  (fun (T4 : Unit) => some true))

theorem spec_FilesOk_con (l : List File) (V_l0 : Value) (r : Bool) (hm : spec_FilesOk l = some r) :
    Con Try.prog 55 [V_l0] [] [(V_l0, lc l)] (fun _ : Unit => .bool r) (fun _ => []) := by
  refine Con.intro (args := [V_l0]) (n := 100) (val := fun r (_ : Unit) => .bool r) (post := fun _ _ => []) (m := spec_FilesOk l) Try.func55 rfl rfl rfl hm ?_
  intro w S hrd
  have HB_V_l0 := hrd _ (.head _)
  clear hrd
  unfold spec_FilesOk
  refine TW.seq ?_
  refine TW.region ?_
  refine TO.y (Y.assign rfl) rfl rfl rfl ?_
  refine TO.nil ?_
  refine TE.next ?_
  refine TW.seq ?_
  refine TW.seq ?_
  refine TW.region ?_
  refine TO.y (Y.move rfl) rfl rfl rfl ?_
  refine TO.y (Y.len (l := l) ke49 (Base.can HB_V_l0) rfl) rfl rfl rfl ?_
  refine TO.y (Y.gtr rfl rfl) rfl rfl rfl ?_
  refine TO.nil ?_
  refine TE.next ?_
  refine TW.cond rfl (fun H1 => ?_) (fun H1 => ?_)
  · refine TW.seq ?_
    refine TW.region ?_
    refine TO.y (Y.assign rfl) rfl rfl rfl ?_
    refine TO.nil ?_
    refine TE.next ?_
    refine TW.ret ?_
    refine TE.then_ret ?_
    exact TE.leaf fun _ _ hf_ hs_ => ret_any (rs := [.tmp 2]) (vs := [.bool false]) (.inl rfl) rfl ⟨rfl, trivial⟩ hf_ hs_ ⟨(), rfl, hs_.pulls [] rfl⟩
  · refine TW.skip ?_
    refine TE.next ?_
    refine TW.seq ?_
    refine TW.seq ?_
    refine TW.region ?_
    refine TO.y (Y.assign rfl) rfl rfl rfl ?_
    refine TO.nil ?_
    refine TE.next ?_
    refine TW.joinX (τ := Unit) (X := Unit) (fun _ _ => []) (fun _ _ => []) ?_ (fun T4 X5 => ?_)
    · refine TW.block ?_
      refine TW.loopX (σ := Int) (X := Unit) (fun T _ => [(0, V_l0), (3, .int .i64 T)]) (fun _ _ => []) () [] ⟨rfl, rfl, trivial⟩ rfl (fun S2 X3 => ?_)
      refine TW.seq ?_
      refine TW.seq ?_
      refine TW.region ?_
      refine TO.y (Y.move rfl) rfl rfl rfl ?_
      refine TO.y (Y.move rfl) rfl rfl rfl ?_
      refine TO.y (Y.len (l := l) ke49 (Base.can HB_V_l0) rfl) rfl rfl rfl ?_
      refine TO.y (Y.lss rfl rfl) rfl rfl rfl ?_
      refine TO.nil ?_
      refine TE.next ?_
      refine TW.cond rfl (fun H6 => ?_) (fun H6 => ?_)
      · refine TW.skip ?_
        refine TE.next ?_
        refine TW.seq ?_
        refine TW.block ?_
        refine TW.seq ?_
        refine TW.region ?_
        refine TO.y (Y.move rfl) rfl rfl rfl ?_
        refine TO.y (Y.move rfl) rfl rfl rfl ?_
        refine TO.bind fun E7 H8 => ?_
        refine TO.y (Y.index ke49 (Base.can HB_V_l0) H8 rfl rfl) rfl rfl rfl ?_
        refine TO.y (Y.load_el (us := [.int .i64 E7.No, .int .i64 E7.Level, strV E7.Lo, strV E7.Hi]) (u := .agg #[.int .i64 E7.No, .int .i64 E7.Level, strV E7.Lo, strV E7.Hi]) kk91 rfl (Base.can HB_V_l0) (idx_get H8).2.2 rfl rfl rfl rfl rfl) rfl rfl rfl ?_
        refine TO.ef (Ef.alloc kz91 rfl) rfl rfl rfl (fun B9 => ?_)
        refine TO.ef0 (Ef.store_box (us := [.int .i64 E7.No, .int .i64 E7.Level, strV E7.Lo, strV E7.Hi]) (vs' := [.int .i64 E7.No, .int .i64 E7.Level, strV E7.Lo, strV E7.Hi]) (is' := [.box B9 91 [.int .i64 E7.No, .int .i64 E7.Level, strV E7.Lo, strV E7.Hi]]) 0 kk91 rfl rfl rfl (Cel.plain rfl rfl) rfl rfl rfl rfl) rfl rfl (fun _ => ?_)
        refine TO.nil ?_
        refine TE.next ?_
        refine TW.seq ?_
        refine TW.seq ?_
        refine TW.joinBX (τ := Bool) (X := Unit) (fun T _ => [(0, V_l0), (3, .int .i64 S2), (4, .pointer (some ⟨B9, 0, none⟩)), (47, .bool T)]) (fun _ _ => [.box B9 91 [.int .i64 E7.No, .int .i64 E7.Level, strV E7.Lo, strV E7.Hi]]) ?_ (fun T10 X11 => ?_)
        · refine TW.region ?_
          refine TO.y (Y.field_box kf91_0 rfl rfl) rfl rfl rfl ?_
          refine TO.y (Y.load_box (v := .int .i64 E7.No) 0 kk3 rfl rfl rfl) rfl rfl rfl ?_
          refine TO.bind fun R12 H13 => ?_
          refine TO.ef (Ef.call (rest := [.box B9 91 [.int .i64 E7.No, .int .i64 E7.Level, strV E7.Lo, strV E7.Hi]]) [0] (spec_l1In_con E7.No (1 : Int) (1000000 : Int)  R12 H13) kc66 rfl rfl trivial) rfl rfl rfl (fun _ => ?_)
          refine TO.y (Y.not rfl) rfl rfl rfl ?_
          refine TO.y (Y.move rfl) rfl rfl rfl ?_
          refine TO.ite (b := !R12) (fun H15 => ?_) (fun H15 => ?_)
          · refine TO.off (Gd.at 4 false 23 (!R12) rfl rfl rfl (beq_tf H15)) rfl rfl ?_
            refine TO.off (Gd.at 4 false 23 (!R12) rfl rfl rfl (beq_tf H15)) rfl rfl ?_
            refine TO.off (Gd.at 4 false 23 (!R12) rfl rfl rfl (beq_tf H15)) rfl rfl ?_
            refine TO.off (Gd.at 4 false 23 (!R12) rfl rfl rfl (beq_tf H15)) rfl rfl ?_
            refine TO.y (Y.pick_t H15 rfl rfl) rfl rfl rfl ?_
            refine TO.y (Y.move rfl) rfl rfl rfl ?_
            refine TO.off (Gd.at 10 false 29 true rfl rfl rfl rfl) rfl rfl ?_
            refine TO.off (Gd.at 10 false 29 true rfl rfl rfl rfl) rfl rfl ?_
            refine TO.off (Gd.at 10 false 29 true rfl rfl rfl rfl) rfl rfl ?_
            refine TO.off (Gd.at 10 false 29 true rfl rfl rfl rfl) rfl rfl ?_
            refine TO.y (Y.pick_t rfl rfl rfl) rfl rfl rfl ?_
            refine TO.y (Y.move rfl) rfl rfl rfl ?_
            refine TO.off (Gd.at 16 false 35 true rfl rfl rfl rfl) rfl rfl ?_
            refine TO.off (Gd.at 16 false 35 true rfl rfl rfl rfl) rfl rfl ?_
            refine TO.off (Gd.at 16 false 35 true rfl rfl rfl rfl) rfl rfl ?_
            refine TO.off (Gd.at 16 false 35 true rfl rfl rfl rfl) rfl rfl ?_
            refine TO.y (Y.pick_t rfl rfl rfl) rfl rfl rfl ?_
            refine TO.y (Y.move rfl) rfl rfl rfl ?_
            refine TO.off (Gd.at 22 false 41 true rfl rfl rfl rfl) rfl rfl ?_
            refine TO.off (Gd.at 22 false 41 true rfl rfl rfl rfl) rfl rfl ?_
            refine TO.off (Gd.at 22 false 41 true rfl rfl rfl rfl) rfl rfl ?_
            refine TO.off (Gd.at 22 false 41 true rfl rfl rfl rfl) rfl rfl ?_
            refine TO.off (Gd.at 22 false 41 true rfl rfl rfl rfl) rfl rfl ?_
            refine TO.y (Y.pick_t rfl rfl rfl) rfl rfl rfl ?_
            refine TO.nil ?_
            exact TE.jb_go () [0] ⟨rfl, rfl, rfl, rfl, trivial⟩ rfl
          · refine TO.y (Y.field_box kf91_1 rfl rfl) (Gd.at 4 false 23 (!R12) rfl rfl rfl (beq_ff H15)) rfl rfl ?_
            refine TO.y (Y.load_box (v := .int .i64 E7.Level) 0 kk3 rfl rfl rfl) (Gd.at 4 false 23 (!R12) rfl rfl rfl (beq_ff H15)) rfl rfl ?_
            refine TO.bind fun R16 H17 => ?_
            refine TO.ef (Ef.call (rest := [.box B9 91 [.int .i64 E7.No, .int .i64 E7.Level, strV E7.Lo, strV E7.Hi]]) [0] (spec_l1In_con E7.Level (0 : Int) (2 : Int)  R16 H17) kc66 rfl rfl trivial) (Gd.at 4 false 23 (!R12) rfl rfl rfl (beq_ff H15)) rfl rfl (fun _ => ?_)
            refine TO.y (Y.not rfl) (Gd.at 4 false 23 (!R12) rfl rfl rfl (beq_ff H15)) rfl rfl ?_
            refine TO.y (Y.pick_f H15 rfl rfl) rfl rfl rfl ?_
            refine TO.y (Y.move rfl) rfl rfl rfl ?_
            refine TO.ite (b := !R16) (fun H19 => ?_) (fun H19 => ?_)
            · refine TO.off (Gd.at 10 false 29 (!R16) rfl rfl rfl (beq_tf H19)) rfl rfl ?_
              refine TO.off (Gd.at 10 false 29 (!R16) rfl rfl rfl (beq_tf H19)) rfl rfl ?_
              refine TO.off (Gd.at 10 false 29 (!R16) rfl rfl rfl (beq_tf H19)) rfl rfl ?_
              refine TO.off (Gd.at 10 false 29 (!R16) rfl rfl rfl (beq_tf H19)) rfl rfl ?_
              refine TO.y (Y.pick_t H19 rfl rfl) rfl rfl rfl ?_
              refine TO.y (Y.move rfl) rfl rfl rfl ?_
              refine TO.off (Gd.at 16 false 35 true rfl rfl rfl rfl) rfl rfl ?_
              refine TO.off (Gd.at 16 false 35 true rfl rfl rfl rfl) rfl rfl ?_
              refine TO.off (Gd.at 16 false 35 true rfl rfl rfl rfl) rfl rfl ?_
              refine TO.off (Gd.at 16 false 35 true rfl rfl rfl rfl) rfl rfl ?_
              refine TO.y (Y.pick_t rfl rfl rfl) rfl rfl rfl ?_
              refine TO.y (Y.move rfl) rfl rfl rfl ?_
              refine TO.off (Gd.at 22 false 41 true rfl rfl rfl rfl) rfl rfl ?_
              refine TO.off (Gd.at 22 false 41 true rfl rfl rfl rfl) rfl rfl ?_
              refine TO.off (Gd.at 22 false 41 true rfl rfl rfl rfl) rfl rfl ?_
              refine TO.off (Gd.at 22 false 41 true rfl rfl rfl rfl) rfl rfl ?_
              refine TO.off (Gd.at 22 false 41 true rfl rfl rfl rfl) rfl rfl ?_
              refine TO.y (Y.pick_t rfl rfl rfl) rfl rfl rfl ?_
              refine TO.nil ?_
              exact TE.jb_go () [0] ⟨rfl, rfl, rfl, rfl, trivial⟩ rfl
            · refine TO.y (Y.field_box kf91_2 rfl rfl) (Gd.at 10 false 29 (!R16) rfl rfl rfl (beq_ff H19)) rfl rfl ?_
              refine TO.y (Y.load_box (v := strV E7.Lo) 0 kk9 rfl rfl rfl) (Gd.at 10 false 29 (!R16) rfl rfl rfl (beq_ff H19)) rfl rfl ?_
              refine TO.bind fun R20 H21 => ?_
              refine TO.ef (Ef.call (rest := [.box B9 91 [.int .i64 E7.No, .int .i64 E7.Level, strV E7.Lo, strV E7.Hi]]) [0] (spec_l16Text_con E7.Lo  R20 H21) kc84 rfl rfl trivial) (Gd.at 10 false 29 (!R16) rfl rfl rfl (beq_ff H19)) rfl rfl (fun _ => ?_)
              refine TO.y (Y.not rfl) (Gd.at 10 false 29 (!R16) rfl rfl rfl (beq_ff H19)) rfl rfl ?_
              refine TO.y (Y.pick_f H19 rfl rfl) rfl rfl rfl ?_
              refine TO.y (Y.move rfl) rfl rfl rfl ?_
              refine TO.ite (b := !R20) (fun H23 => ?_) (fun H23 => ?_)
              · refine TO.off (Gd.at 16 false 35 (!R20) rfl rfl rfl (beq_tf H23)) rfl rfl ?_
                refine TO.off (Gd.at 16 false 35 (!R20) rfl rfl rfl (beq_tf H23)) rfl rfl ?_
                refine TO.off (Gd.at 16 false 35 (!R20) rfl rfl rfl (beq_tf H23)) rfl rfl ?_
                refine TO.off (Gd.at 16 false 35 (!R20) rfl rfl rfl (beq_tf H23)) rfl rfl ?_
                refine TO.y (Y.pick_t H23 rfl rfl) rfl rfl rfl ?_
                refine TO.y (Y.move rfl) rfl rfl rfl ?_
                refine TO.off (Gd.at 22 false 41 true rfl rfl rfl rfl) rfl rfl ?_
                refine TO.off (Gd.at 22 false 41 true rfl rfl rfl rfl) rfl rfl ?_
                refine TO.off (Gd.at 22 false 41 true rfl rfl rfl rfl) rfl rfl ?_
                refine TO.off (Gd.at 22 false 41 true rfl rfl rfl rfl) rfl rfl ?_
                refine TO.off (Gd.at 22 false 41 true rfl rfl rfl rfl) rfl rfl ?_
                refine TO.y (Y.pick_t rfl rfl rfl) rfl rfl rfl ?_
                refine TO.nil ?_
                exact TE.jb_go () [0] ⟨rfl, rfl, rfl, rfl, trivial⟩ rfl
              · refine TO.y (Y.field_box kf91_3 rfl rfl) (Gd.at 16 false 35 (!R20) rfl rfl rfl (beq_ff H23)) rfl rfl ?_
                refine TO.y (Y.load_box (v := strV E7.Hi) 0 kk9 rfl rfl rfl) (Gd.at 16 false 35 (!R20) rfl rfl rfl (beq_ff H23)) rfl rfl ?_
                refine TO.bind fun R24 H25 => ?_
                refine TO.ef (Ef.call (rest := [.box B9 91 [.int .i64 E7.No, .int .i64 E7.Level, strV E7.Lo, strV E7.Hi]]) [0] (spec_l16Text_con E7.Hi  R24 H25) kc84 rfl rfl trivial) (Gd.at 16 false 35 (!R20) rfl rfl rfl (beq_ff H23)) rfl rfl (fun _ => ?_)
                refine TO.y (Y.not rfl) (Gd.at 16 false 35 (!R20) rfl rfl rfl (beq_ff H23)) rfl rfl ?_
                refine TO.y (Y.pick_f H23 rfl rfl) rfl rfl rfl ?_
                refine TO.y (Y.move rfl) rfl rfl rfl ?_
                refine TO.ite (b := !R24) (fun H27 => ?_) (fun H27 => ?_)
                · refine TO.off (Gd.at 22 false 41 (!R24) rfl rfl rfl (beq_tf H27)) rfl rfl ?_
                  refine TO.off (Gd.at 22 false 41 (!R24) rfl rfl rfl (beq_tf H27)) rfl rfl ?_
                  refine TO.off (Gd.at 22 false 41 (!R24) rfl rfl rfl (beq_tf H27)) rfl rfl ?_
                  refine TO.off (Gd.at 22 false 41 (!R24) rfl rfl rfl (beq_tf H27)) rfl rfl ?_
                  refine TO.off (Gd.at 22 false 41 (!R24) rfl rfl rfl (beq_tf H27)) rfl rfl ?_
                  refine TO.y (Y.pick_t H27 rfl rfl) rfl rfl rfl ?_
                  refine TO.nil ?_
                  exact TE.jb_go () [0] ⟨rfl, rfl, rfl, rfl, trivial⟩ rfl
                · refine TO.y (Y.field_box kf91_2 rfl rfl) (Gd.at 22 false 41 (!R24) rfl rfl rfl (beq_ff H27)) rfl rfl ?_
                  refine TO.y (Y.load_box (v := strV E7.Lo) 0 kk9 rfl rfl rfl) (Gd.at 22 false 41 (!R24) rfl rfl rfl (beq_ff H27)) rfl rfl ?_
                  refine TO.y (Y.field_box kf91_3 rfl rfl) (Gd.at 22 false 41 (!R24) rfl rfl rfl (beq_ff H27)) rfl rfl ?_
                  refine TO.y (Y.load_box (v := strV E7.Hi) 0 kk9 rfl rfl rfl) (Gd.at 22 false 41 (!R24) rfl rfl rfl (beq_ff H27)) rfl rfl ?_
                  refine TO.y (Y.sgtr rfl rfl) (Gd.at 22 false 41 (!R24) rfl rfl rfl (beq_ff H27)) rfl rfl ?_
                  refine TO.y (Y.pick_f H27 rfl rfl) rfl rfl rfl ?_
                  refine TO.nil ?_
                  exact TE.jb_go () [0] ⟨rfl, rfl, rfl, rfl, trivial⟩ rfl
        · refine TE.next ?_
          refine TW.cond rfl (fun H28 => ?_) (fun H28 => ?_)
          · refine TW.seq ?_
            refine TW.region ?_
            refine TO.y (Y.assign rfl) rfl rfl rfl ?_
            refine TO.nil ?_
            refine TE.next ?_
            refine TW.ret ?_
            refine TE.then_ret ?_
            refine TE.block_ret ?_
            refine TE.then_ret ?_
            refine TE.lp_ret ?_
            refine TE.block_ret ?_
            refine TE.jn_done ?_
            refine TE.then_ret ?_
            exact TE.leaf fun _ _ hf_ hs_ => ret_any (rs := [.tmp 2]) (vs := [.bool false]) (.inl rfl) rfl ⟨rfl, trivial⟩ hf_ hs_ ⟨(), rfl, hs_.pulls [] rfl⟩
          · refine TW.skip ?_
            refine TE.next ?_
            refine TW.seq ?_
            refine TW.seq ?_
            refine TW.joinBX (τ := Bool) (X := Unit) (fun T _ => [(0, V_l0), (3, .int .i64 S2), (4, .pointer (some ⟨B9, 0, none⟩)), (86, .bool T)]) (fun _ _ => [.box B9 91 [.int .i64 E7.No, .int .i64 E7.Level, strV E7.Lo, strV E7.Hi]]) ?_ (fun T29 X30 => ?_)
            · refine TW.draw (isH := [.box B9 91 [.int .i64 E7.No, .int .i64 E7.Level, strV E7.Lo, strV E7.Hi]]) hMix ?_
              refine TA.y (listed' := #[true, false, false, false, false, false, false, false, false, false, false, false, false, false, false, false, false, false, false, false, false, false, false, false, false, false, false, false, false, false, false, false, false, false, false, false, false, false, false]) 0 [0] rfl (Y.move rfl) rfl rfl rfl (by kernel_rfl) (by kernel_rfl) (by kernel_rfl) rfl rfl ?_
              refine TA.y (listed' := #[true, true, false, false, false, false, false, false, false, false, false, false, false, false, false, false, false, false, false, false, false, false, false, false, false, false, false, false, false, false, false, false, false, false, false, false, false, false, false]) 1 [0] rfl (Y.gtr rfl rfl) rfl rfl rfl (by kernel_rfl) (by kernel_rfl) (by kernel_rfl) rfl rfl ?_
              refine TA.y (listed' := #[true, true, true, false, false, false, false, false, false, false, false, false, false, false, false, false, false, false, false, false, false, false, false, false, false, false, false, false, false, false, false, false, false, false, false, false, false, false, false]) 2 [0] rfl (Y.move rfl) rfl rfl rfl (by kernel_rfl) (by kernel_rfl) (by kernel_rfl) rfl rfl ?_
              refine TA.ite (b := decide (S2 > (0 : Int))) (fun H31 => ?_) (fun H31 => ?_)
              · refine TA.y (listed' := #[true, true, true, true, false, false, false, false, false, false, false, false, false, false, false, false, false, false, false, false, false, false, false, false, false, false, false, false, false, false, false, false, false, false, false, false, false, false, false]) 3 [0] rfl (Y.move rfl) (Gd.at 2 true 50 (decide (S2 > (0 : Int))) rfl rfl rfl (beq_tt H31)) rfl rfl (by kernel_rfl) (by kernel_rfl) (by kernel_rfl) rfl rfl ?_
                refine TA.y (listed' := #[true, true, true, true, true, false, false, false, false, false, false, false, false, false, false, false, false, false, false, false, false, false, false, false, false, false, false, false, false, false, false, false, false, false, false, false, false, false, false]) 4 [0] rfl (Y.move rfl) (Gd.at 2 true 50 (decide (S2 > (0 : Int))) rfl rfl rfl (beq_tt H31)) rfl rfl (by kernel_rfl) (by kernel_rfl) (by kernel_rfl) rfl rfl ?_
                refine TA.y (listed' := #[true, true, true, true, true, true, false, false, false, false, false, false, false, false, false, false, false, false, false, false, false, false, false, false, false, false, false, false, false, false, false, false, false, false, false, false, false, false, false]) 5 [0] rfl (Y.sub rfl rfl) (Gd.at 2 true 50 (decide (S2 > (0 : Int))) rfl rfl rfl (beq_tt H31)) rfl rfl (by kernel_rfl) (by kernel_rfl) (by kernel_rfl) rfl rfl ?_
                refine TA.bind fun E32 H33 => ?_
                refine TA.y (listed' := #[true, true, true, true, true, true, true, false, false, false, false, false, false, false, false, false, false, false, false, false, false, false, false, false, false, false, false, false, false, false, false, false, false, false, false, false, false, false, false]) 6 [0] rfl (Y.index ke49 (Base.can HB_V_l0) H33 rfl rfl) (Gd.at 2 true 50 (decide (S2 > (0 : Int))) rfl rfl rfl (beq_tt H31)) rfl rfl (by kernel_rfl) (by kernel_rfl) (by kernel_rfl) rfl rfl ?_
                refine TA.y (listed' := #[true, true, true, true, true, true, true, true, false, false, false, false, false, false, false, false, false, false, false, false, false, false, false, false, false, false, false, false, false, false, false, false, false, false, false, false, false, false, false]) 7 [0] rfl (Y.load_el (us := [.int .i64 E32.No, .int .i64 E32.Level, strV E32.Lo, strV E32.Hi]) (u := .agg #[.int .i64 E32.No, .int .i64 E32.Level, strV E32.Lo, strV E32.Hi]) kk91 rfl (Base.can HB_V_l0) (idx_get H33).2.2 rfl rfl rfl rfl rfl) (Gd.at 2 true 50 (decide (S2 > (0 : Int))) rfl rfl rfl (beq_tt H31)) rfl rfl (by kernel_rfl) (by kernel_rfl) (by kernel_rfl) rfl rfl ?_
                refine TA.y (listed' := #[true, true, true, true, true, true, true, true, true, false, false, false, false, false, false, false, false, false, false, false, false, false, false, false, false, false, false, false, false, false, false, false, false, false, false, false, false, false, false]) 8 [0] rfl (Y.load_box (v := .agg #[.int .i64 E7.No, .int .i64 E7.Level, strV E7.Lo, strV E7.Hi]) 0 kk91 rfl rfl rfl) (Gd.at 2 true 50 (decide (S2 > (0 : Int))) rfl rfl rfl (beq_tt H31)) rfl rfl (by kernel_rfl) (by kernel_rfl) (by kernel_rfl) rfl rfl ?_
                refine TA.bind fun R34 H35 => ?_
                refine TA.one 9 (by kernel_rfl) ?_
                refine TX.ef (listed' := #[true, true, true, true, true, true, true, true, true, true, false, false, false, false, false, false, false, false, false, false, false, false, false, false, false, false, false, false, false, false, false, false, false, false, false, false, false, false, false]) [0] rfl (Ef.call (rest := [.box B9 91 [.int .i64 E7.No, .int .i64 E7.Level, strV E7.Lo, strV E7.Hi]]) [0] (spec_l16Ahead_con E32 E7  R34 H35) kc85 rfl rfl trivial) (Gd.at 2 true 50 (decide (S2 > (0 : Int))) rfl rfl rfl (beq_tt H31)) rfl rfl rfl (fun _ => rfl) (fun _ => ?_)
                refine TA.y (listed' := #[true, true, true, true, true, true, true, true, true, true, true, false, false, false, false, false, false, false, false, false, false, false, false, false, false, false, false, false, false, false, false, false, false, false, false, false, false, false, false]) 10 [0] rfl (Y.not rfl) (Gd.at 2 true 50 (decide (S2 > (0 : Int))) rfl rfl rfl (beq_tt H31)) rfl rfl (by kernel_rfl) (by kernel_rfl) (by kernel_rfl) rfl rfl ?_
                refine TA.y (listed' := #[true, true, true, true, true, true, true, true, true, true, true, true, false, false, false, false, false, false, false, false, false, false, false, false, false, false, false, false, false, false, false, false, false, false, false, false, false, false, false]) 11 [0] rfl (Y.move rfl) (Gd.at 2 true 50 (decide (S2 > (0 : Int))) rfl rfl rfl (beq_tt H31)) rfl rfl (by kernel_rfl) (by kernel_rfl) (by kernel_rfl) rfl rfl ?_
                refine TA.ite (b := !R34) (fun H37 => ?_) (fun H37 => ?_)
                · refine TA.off (listed' := #[true, true, true, true, true, true, true, true, true, true, true, true, true, false, false, false, false, false, false, false, false, false, false, false, false, false, false, false, false, false, false, false, false, false, false, false, false, false, false]) 12 [0] rfl (Gd.at 11 false 59 (!R34) rfl rfl rfl (beq_tf H37)) rfl rfl (by kernel_rfl) (by kernel_rfl) (by kernel_rfl) rfl rfl ?_
                  refine TA.off (listed' := #[true, true, true, true, true, true, true, true, true, true, true, true, true, true, false, false, false, false, false, false, false, false, false, false, false, false, false, false, false, false, false, false, false, false, false, false, false, false, false]) 13 [0] rfl (Gd.at 11 false 59 (!R34) rfl rfl rfl (beq_tf H37)) rfl rfl (by kernel_rfl) (by kernel_rfl) (by kernel_rfl) rfl rfl ?_
                  refine TA.off (listed' := #[true, true, true, true, true, true, true, true, true, true, true, true, true, true, true, false, false, false, false, false, false, false, false, false, false, false, false, false, false, false, false, false, false, false, false, false, false, false, false]) 14 [0] rfl (Gd.at 11 false 59 (!R34) rfl rfl rfl (beq_tf H37)) rfl rfl (by kernel_rfl) (by kernel_rfl) (by kernel_rfl) rfl rfl ?_
                  refine TA.off (listed' := #[true, true, true, true, true, true, true, true, true, true, true, true, true, true, true, true, false, false, false, false, false, false, false, false, false, false, false, false, false, false, false, false, false, false, false, false, false, false, false]) 15 [0] rfl (Gd.at 11 false 59 (!R34) rfl rfl rfl (beq_tf H37)) rfl rfl (by kernel_rfl) (by kernel_rfl) (by kernel_rfl) rfl rfl ?_
                  refine TA.off (listed' := #[true, true, true, true, true, true, true, true, true, true, true, true, true, true, true, true, true, false, false, false, false, false, false, false, false, false, false, false, false, false, false, false, false, false, false, false, false, false, false]) 16 [0] rfl (Gd.un 15 true 63 rfl rfl rfl) rfl rfl (by kernel_rfl) (by kernel_rfl) (by kernel_rfl) rfl rfl ?_
                  refine TA.off (listed' := #[true, true, true, true, true, true, true, true, true, true, true, true, true, true, true, true, true, true, false, false, false, false, false, false, false, false, false, false, false, false, false, false, false, false, false, false, false, false, false]) 17 [0] rfl (Gd.un 15 true 63 rfl rfl rfl) rfl rfl (by kernel_rfl) (by kernel_rfl) (by kernel_rfl) rfl rfl ?_
                  refine TA.off (listed' := #[true, true, true, true, true, true, true, true, true, true, true, true, true, true, true, true, true, true, true, false, false, false, false, false, false, false, false, false, false, false, false, false, false, false, false, false, false, false, false]) 18 [0] rfl (Gd.un 15 true 63 rfl rfl rfl) rfl rfl (by kernel_rfl) (by kernel_rfl) (by kernel_rfl) rfl rfl ?_
                  refine TA.off (listed' := #[true, true, true, true, true, true, true, true, true, true, true, true, true, true, true, true, true, true, true, true, false, false, false, false, false, false, false, false, false, false, false, false, false, false, false, false, false, false, false]) 19 [0] rfl (Gd.un 15 true 63 rfl rfl rfl) rfl rfl (by kernel_rfl) (by kernel_rfl) (by kernel_rfl) rfl rfl ?_
                  refine TA.off (listed' := #[true, true, true, true, true, true, true, true, true, true, true, true, true, true, true, true, true, true, true, true, true, false, false, false, false, false, false, false, false, false, false, false, false, false, false, false, false, false, false]) 20 [0] rfl (Gd.un 15 true 63 rfl rfl rfl) rfl rfl (by kernel_rfl) (by kernel_rfl) (by kernel_rfl) rfl rfl ?_
                  refine TA.off (listed' := #[true, true, true, true, true, true, true, true, true, true, true, true, true, true, true, true, true, true, true, true, true, true, false, false, false, false, false, false, false, false, false, false, false, false, false, false, false, false, false]) 21 [0] rfl (Gd.un 15 true 63 rfl rfl rfl) rfl rfl (by kernel_rfl) (by kernel_rfl) (by kernel_rfl) rfl rfl ?_
                  refine TA.off (listed' := #[true, true, true, true, true, true, true, true, true, true, true, true, true, true, true, true, true, true, true, true, true, true, true, false, false, false, false, false, false, false, false, false, false, false, false, false, false, false, false]) 22 [0] rfl (Gd.un 15 true 63 rfl rfl rfl) rfl rfl (by kernel_rfl) (by kernel_rfl) (by kernel_rfl) rfl rfl ?_
                  refine TA.off (listed' := #[true, true, true, true, true, true, true, true, true, true, true, true, true, true, true, true, true, true, true, true, true, true, true, true, false, false, false, false, false, false, false, false, false, false, false, false, false, false, false]) 23 [0] rfl (Gd.un 15 true 63 rfl rfl rfl) rfl rfl (by kernel_rfl) (by kernel_rfl) (by kernel_rfl) rfl rfl ?_
                  refine TA.off (listed' := #[true, true, true, true, true, true, true, true, true, true, true, true, true, true, true, true, true, true, true, true, true, true, true, true, true, false, false, false, false, false, false, false, false, false, false, false, false, false, false]) 24 [0] rfl (Gd.un 15 true 63 rfl rfl rfl) rfl rfl (by kernel_rfl) (by kernel_rfl) (by kernel_rfl) rfl rfl ?_
                  refine TA.off (listed' := #[true, true, true, true, true, true, true, true, true, true, true, true, true, true, true, true, true, true, true, true, true, true, true, true, true, true, false, false, false, false, false, false, false, false, false, false, false, false, false]) 25 [0] rfl (Gd.at 11 false 59 (!R34) rfl rfl rfl (beq_tf H37)) rfl rfl (by kernel_rfl) (by kernel_rfl) (by kernel_rfl) rfl rfl ?_
                  refine TA.off (listed' := #[true, true, true, true, true, true, true, true, true, true, true, true, true, true, true, true, true, true, true, true, true, true, true, true, true, true, true, false, false, false, false, false, false, false, false, false, false, false, false]) 26 [0] rfl (Gd.at 11 false 59 (!R34) rfl rfl rfl (beq_tf H37)) rfl rfl (by kernel_rfl) (by kernel_rfl) (by kernel_rfl) rfl rfl ?_
                  refine TA.off (listed' := #[true, true, true, true, true, true, true, true, true, true, true, true, true, true, true, true, true, true, true, true, true, true, true, true, true, true, true, true, false, false, false, false, false, false, false, false, false, false, false]) 27 [0] rfl (Gd.un 26 true 74 rfl rfl rfl) rfl rfl (by kernel_rfl) (by kernel_rfl) (by kernel_rfl) rfl rfl ?_
                  refine TA.off (listed' := #[true, true, true, true, true, true, true, true, true, true, true, true, true, true, true, true, true, true, true, true, true, true, true, true, true, true, true, true, true, false, false, false, false, false, false, false, false, false, false]) 28 [0] rfl (Gd.un 26 true 74 rfl rfl rfl) rfl rfl (by kernel_rfl) (by kernel_rfl) (by kernel_rfl) rfl rfl ?_
                  refine TA.off (listed' := #[true, true, true, true, true, true, true, true, true, true, true, true, true, true, true, true, true, true, true, true, true, true, true, true, true, true, true, true, true, true, false, false, false, false, false, false, false, false, false]) 29 [0] rfl (Gd.un 26 true 74 rfl rfl rfl) rfl rfl (by kernel_rfl) (by kernel_rfl) (by kernel_rfl) rfl rfl ?_
                  refine TA.off (listed' := #[true, true, true, true, true, true, true, true, true, true, true, true, true, true, true, true, true, true, true, true, true, true, true, true, true, true, true, true, true, true, true, false, false, false, false, false, false, false, false]) 30 [0] rfl (Gd.un 26 true 74 rfl rfl rfl) rfl rfl (by kernel_rfl) (by kernel_rfl) (by kernel_rfl) rfl rfl ?_
                  refine TA.off (listed' := #[true, true, true, true, true, true, true, true, true, true, true, true, true, true, true, true, true, true, true, true, true, true, true, true, true, true, true, true, true, true, true, true, false, false, false, false, false, false, false]) 31 [0] rfl (Gd.un 26 true 74 rfl rfl rfl) rfl rfl (by kernel_rfl) (by kernel_rfl) (by kernel_rfl) rfl rfl ?_
                  refine TA.off (listed' := #[true, true, true, true, true, true, true, true, true, true, true, true, true, true, true, true, true, true, true, true, true, true, true, true, true, true, true, true, true, true, true, true, true, false, false, false, false, false, false]) 32 [0] rfl (Gd.un 26 true 74 rfl rfl rfl) rfl rfl (by kernel_rfl) (by kernel_rfl) (by kernel_rfl) rfl rfl ?_
                  refine TA.off (listed' := #[true, true, true, true, true, true, true, true, true, true, true, true, true, true, true, true, true, true, true, true, true, true, true, true, true, true, true, true, true, true, true, true, true, true, false, false, false, false, false]) 33 [0] rfl (Gd.un 26 true 74 rfl rfl rfl) rfl rfl (by kernel_rfl) (by kernel_rfl) (by kernel_rfl) rfl rfl ?_
                  refine TA.off (listed' := #[true, true, true, true, true, true, true, true, true, true, true, true, true, true, true, true, true, true, true, true, true, true, true, true, true, true, true, true, true, true, true, true, true, true, true, false, false, false, false]) 34 [0] rfl (Gd.un 26 true 74 rfl rfl rfl) rfl rfl (by kernel_rfl) (by kernel_rfl) (by kernel_rfl) rfl rfl ?_
                  refine TA.off (listed' := #[true, true, true, true, true, true, true, true, true, true, true, true, true, true, true, true, true, true, true, true, true, true, true, true, true, true, true, true, true, true, true, true, true, true, true, true, false, false, false]) 35 [0] rfl (Gd.un 26 true 74 rfl rfl rfl) rfl rfl (by kernel_rfl) (by kernel_rfl) (by kernel_rfl) rfl rfl ?_
                  refine TA.off (listed' := #[true, true, true, true, true, true, true, true, true, true, true, true, true, true, true, true, true, true, true, true, true, true, true, true, true, true, true, true, true, true, true, true, true, true, true, true, true, false, false]) 36 [0] rfl (Gd.at 11 false 59 (!R34) rfl rfl rfl (beq_tf H37)) rfl rfl (by kernel_rfl) (by kernel_rfl) (by kernel_rfl) rfl rfl ?_
                  refine TA.y (listed' := #[true, true, true, true, true, true, true, true, true, true, true, true, true, true, true, true, true, true, true, true, true, true, true, true, true, true, true, true, true, true, true, true, true, true, true, true, true, true, false]) 37 [0] rfl (Y.pick_t H37 rfl rfl) (Gd.at 2 true 50 (decide (S2 > (0 : Int))) rfl rfl rfl (beq_tt H31)) rfl rfl (by kernel_rfl) (by kernel_rfl) (by kernel_rfl) rfl rfl ?_
                  refine TA.y (listed' := #[true, true, true, true, true, true, true, true, true, true, true, true, true, true, true, true, true, true, true, true, true, true, true, true, true, true, true, true, true, true, true, true, true, true, true, true, true, true, true]) 38 [0] rfl (Y.pick_t H31 rfl rfl) rfl rfl rfl (by kernel_rfl) (by kernel_rfl) (by kernel_rfl) rfl rfl ?_
                  refine TA.nil (by kernel_rfl) ?_
                  exact TE.jb_go () [0] ⟨rfl, rfl, rfl, rfl, trivial⟩ rfl
                · refine TA.y (listed' := #[true, true, true, true, true, true, true, true, true, true, true, true, true, false, false, false, false, false, false, false, false, false, false, false, false, false, false, false, false, false, false, false, false, false, false, false, false, false, false]) 12 [0] rfl (Y.field_box kf91_1 rfl rfl) (Gd.at 11 false 59 (!R34) rfl rfl rfl (beq_ff H37)) rfl rfl (by kernel_rfl) (by kernel_rfl) (by kernel_rfl) rfl rfl ?_
                  refine TA.y (listed' := #[true, true, true, true, true, true, true, true, true, true, true, true, true, true, false, false, false, false, false, false, false, false, false, false, false, false, false, false, false, false, false, false, false, false, false, false, false, false, false]) 13 [0] rfl (Y.load_box (v := .int .i64 E7.Level) 0 kk3 rfl rfl rfl) (Gd.at 11 false 59 (!R34) rfl rfl rfl (beq_ff H37)) rfl rfl (by kernel_rfl) (by kernel_rfl) (by kernel_rfl) rfl rfl ?_
                  refine TA.y (listed' := #[true, true, true, true, true, true, true, true, true, true, true, true, true, true, true, false, false, false, false, false, false, false, false, false, false, false, false, false, false, false, false, false, false, false, false, false, false, false, false]) 14 [0] rfl (Y.gtr rfl rfl) (Gd.at 11 false 59 (!R34) rfl rfl rfl (beq_ff H37)) rfl rfl (by kernel_rfl) (by kernel_rfl) (by kernel_rfl) rfl rfl ?_
                  refine TA.y (listed' := #[true, true, true, true, true, true, true, true, true, true, true, true, true, true, true, true, false, false, false, false, false, false, false, false, false, false, false, false, false, false, false, false, false, false, false, false, false, false, false]) 15 [0] rfl (Y.move rfl) (Gd.at 11 false 59 (!R34) rfl rfl rfl (beq_ff H37)) rfl rfl (by kernel_rfl) (by kernel_rfl) (by kernel_rfl) rfl rfl ?_
                  refine TA.ite (b := decide (E7.Level > (0 : Int))) (fun H38 => ?_) (fun H38 => ?_)
                  · refine TA.y (listed' := #[true, true, true, true, true, true, true, true, true, true, true, true, true, true, true, true, true, false, false, false, false, false, false, false, false, false, false, false, false, false, false, false, false, false, false, false, false, false, false]) 16 [0] rfl (Y.move rfl) (Gd.at 15 true 63 (decide (E7.Level > (0 : Int))) rfl rfl rfl (beq_tt H38)) rfl rfl (by kernel_rfl) (by kernel_rfl) (by kernel_rfl) rfl rfl ?_
                    refine TA.y (listed' := #[true, true, true, true, true, true, true, true, true, true, true, true, true, true, true, true, true, true, false, false, false, false, false, false, false, false, false, false, false, false, false, false, false, false, false, false, false, false, false]) 17 [0] rfl (Y.move rfl) (Gd.at 15 true 63 (decide (E7.Level > (0 : Int))) rfl rfl rfl (beq_tt H38)) rfl rfl (by kernel_rfl) (by kernel_rfl) (by kernel_rfl) rfl rfl ?_
                    refine TA.y (listed' := #[true, true, true, true, true, true, true, true, true, true, true, true, true, true, true, true, true, true, true, false, false, false, false, false, false, false, false, false, false, false, false, false, false, false, false, false, false, false, false]) 18 [0] rfl (Y.sub rfl rfl) (Gd.at 15 true 63 (decide (E7.Level > (0 : Int))) rfl rfl rfl (beq_tt H38)) rfl rfl (by kernel_rfl) (by kernel_rfl) (by kernel_rfl) rfl rfl ?_
                    refine TA.y (listed' := #[true, true, true, true, true, true, true, true, true, true, true, true, true, true, true, true, true, true, true, true, false, false, false, false, false, false, false, false, false, false, false, false, false, false, false, false, false, false, false]) 19 [0] rfl (Y.index ke49 (Base.can HB_V_l0) H33 rfl rfl) (Gd.at 15 true 63 (decide (E7.Level > (0 : Int))) rfl rfl rfl (beq_tt H38)) rfl rfl (by kernel_rfl) (by kernel_rfl) (by kernel_rfl) rfl rfl ?_
                    refine TA.y (listed' := #[true, true, true, true, true, true, true, true, true, true, true, true, true, true, true, true, true, true, true, true, true, false, false, false, false, false, false, false, false, false, false, false, false, false, false, false, false, false, false]) 20 [0] rfl (Y.field_el kf91_1 (Base.can HB_V_l0) (idx_get H33).2.2 rfl rfl) (Gd.at 15 true 63 (decide (E7.Level > (0 : Int))) rfl rfl rfl (beq_tt H38)) rfl rfl (by kernel_rfl) (by kernel_rfl) (by kernel_rfl) rfl rfl ?_
                    refine TA.y (listed' := #[true, true, true, true, true, true, true, true, true, true, true, true, true, true, true, true, true, true, true, true, true, true, false, false, false, false, false, false, false, false, false, false, false, false, false, false, false, false, false]) 21 [0] rfl (Y.load_el (us := [.int .i64 E32.Level]) (u := .int .i64 E32.Level) kk3 rfl (Base.can HB_V_l0) (idx_get H33).2.2 rfl rfl rfl rfl rfl) (Gd.at 15 true 63 (decide (E7.Level > (0 : Int))) rfl rfl rfl (beq_tt H38)) rfl rfl (by kernel_rfl) (by kernel_rfl) (by kernel_rfl) rfl rfl ?_
                    refine TA.y (listed' := #[true, true, true, true, true, true, true, true, true, true, true, true, true, true, true, true, true, true, true, true, true, true, true, false, false, false, false, false, false, false, false, false, false, false, false, false, false, false, false]) 22 [0] rfl (Y.field_box kf91_1 rfl rfl) (Gd.at 15 true 63 (decide (E7.Level > (0 : Int))) rfl rfl rfl (beq_tt H38)) rfl rfl (by kernel_rfl) (by kernel_rfl) (by kernel_rfl) rfl rfl ?_
                    refine TA.y (listed' := #[true, true, true, true, true, true, true, true, true, true, true, true, true, true, true, true, true, true, true, true, true, true, true, true, false, false, false, false, false, false, false, false, false, false, false, false, false, false, false]) 23 [0] rfl (Y.load_box (v := .int .i64 E7.Level) 0 kk3 rfl rfl rfl) (Gd.at 15 true 63 (decide (E7.Level > (0 : Int))) rfl rfl rfl (beq_tt H38)) rfl rfl (by kernel_rfl) (by kernel_rfl) (by kernel_rfl) rfl rfl ?_
                    refine TA.y (listed' := #[true, true, true, true, true, true, true, true, true, true, true, true, true, true, true, true, true, true, true, true, true, true, true, true, true, false, false, false, false, false, false, false, false, false, false, false, false, false, false]) 24 [0] rfl (Y.eql rfl rfl) (Gd.at 15 true 63 (decide (E7.Level > (0 : Int))) rfl rfl rfl (beq_tt H38)) rfl rfl (by kernel_rfl) (by kernel_rfl) (by kernel_rfl) rfl rfl ?_
                    refine TA.y (listed' := #[true, true, true, true, true, true, true, true, true, true, true, true, true, true, true, true, true, true, true, true, true, true, true, true, true, true, false, false, false, false, false, false, false, false, false, false, false, false, false]) 25 [0] rfl (Y.pick_t H38 rfl rfl) (Gd.at 11 false 59 (!R34) rfl rfl rfl (beq_ff H37)) rfl rfl (by kernel_rfl) (by kernel_rfl) (by kernel_rfl) rfl rfl ?_
                    refine TA.y (listed' := #[true, true, true, true, true, true, true, true, true, true, true, true, true, true, true, true, true, true, true, true, true, true, true, true, true, true, true, false, false, false, false, false, false, false, false, false, false, false, false]) 26 [0] rfl (Y.move rfl) (Gd.at 11 false 59 (!R34) rfl rfl rfl (beq_ff H37)) rfl rfl (by kernel_rfl) (by kernel_rfl) (by kernel_rfl) rfl rfl ?_
                    refine TA.ite (b := decide (E32.Level = E7.Level)) (fun H39 => ?_) (fun H39 => ?_)
                    · refine TA.y (listed' := #[true, true, true, true, true, true, true, true, true, true, true, true, true, true, true, true, true, true, true, true, true, true, true, true, true, true, true, true, false, false, false, false, false, false, false, false, false, false, false]) 27 [0] rfl (Y.field_box kf91_2 rfl rfl) (Gd.at 26 true 74 (decide (E32.Level = E7.Level)) rfl rfl rfl (beq_tt H39)) rfl rfl (by kernel_rfl) (by kernel_rfl) (by kernel_rfl) rfl rfl ?_
                      refine TA.y (listed' := #[true, true, true, true, true, true, true, true, true, true, true, true, true, true, true, true, true, true, true, true, true, true, true, true, true, true, true, true, true, false, false, false, false, false, false, false, false, false, false]) 28 [0] rfl (Y.load_box (v := strV E7.Lo) 0 kk9 rfl rfl rfl) (Gd.at 26 true 74 (decide (E32.Level = E7.Level)) rfl rfl rfl (beq_tt H39)) rfl rfl (by kernel_rfl) (by kernel_rfl) (by kernel_rfl) rfl rfl ?_
                      refine TA.y (listed' := #[true, true, true, true, true, true, true, true, true, true, true, true, true, true, true, true, true, true, true, true, true, true, true, true, true, true, true, true, true, true, false, false, false, false, false, false, false, false, false]) 29 [0] rfl (Y.move rfl) (Gd.at 26 true 74 (decide (E32.Level = E7.Level)) rfl rfl rfl (beq_tt H39)) rfl rfl (by kernel_rfl) (by kernel_rfl) (by kernel_rfl) rfl rfl ?_
                      refine TA.y (listed' := #[true, true, true, true, true, true, true, true, true, true, true, true, true, true, true, true, true, true, true, true, true, true, true, true, true, true, true, true, true, true, true, false, false, false, false, false, false, false, false]) 30 [0] rfl (Y.move rfl) (Gd.at 26 true 74 (decide (E32.Level = E7.Level)) rfl rfl rfl (beq_tt H39)) rfl rfl (by kernel_rfl) (by kernel_rfl) (by kernel_rfl) rfl rfl ?_
                      refine TA.y (listed' := #[true, true, true, true, true, true, true, true, true, true, true, true, true, true, true, true, true, true, true, true, true, true, true, true, true, true, true, true, true, true, true, true, false, false, false, false, false, false, false]) 31 [0] rfl (Y.sub rfl rfl) (Gd.at 26 true 74 (decide (E32.Level = E7.Level)) rfl rfl rfl (beq_tt H39)) rfl rfl (by kernel_rfl) (by kernel_rfl) (by kernel_rfl) rfl rfl ?_
                      refine TA.y (listed' := #[true, true, true, true, true, true, true, true, true, true, true, true, true, true, true, true, true, true, true, true, true, true, true, true, true, true, true, true, true, true, true, true, true, false, false, false, false, false, false]) 32 [0] rfl (Y.index ke49 (Base.can HB_V_l0) H33 rfl rfl) (Gd.at 26 true 74 (decide (E32.Level = E7.Level)) rfl rfl rfl (beq_tt H39)) rfl rfl (by kernel_rfl) (by kernel_rfl) (by kernel_rfl) rfl rfl ?_
                      refine TA.y (listed' := #[true, true, true, true, true, true, true, true, true, true, true, true, true, true, true, true, true, true, true, true, true, true, true, true, true, true, true, true, true, true, true, true, true, true, false, false, false, false, false]) 33 [0] rfl (Y.field_el kf91_3 (Base.can HB_V_l0) (idx_get H33).2.2 rfl rfl) (Gd.at 26 true 74 (decide (E32.Level = E7.Level)) rfl rfl rfl (beq_tt H39)) rfl rfl (by kernel_rfl) (by kernel_rfl) (by kernel_rfl) rfl rfl ?_
                      refine TA.y (listed' := #[true, true, true, true, true, true, true, true, true, true, true, true, true, true, true, true, true, true, true, true, true, true, true, true, true, true, true, true, true, true, true, true, true, true, true, false, false, false, false]) 34 [0] rfl (Y.load_el (us := [strV E32.Hi]) (u := strV E32.Hi) kk9 rfl (Base.can HB_V_l0) (idx_get H33).2.2 rfl rfl rfl rfl rfl) (Gd.at 26 true 74 (decide (E32.Level = E7.Level)) rfl rfl rfl (beq_tt H39)) rfl rfl (by kernel_rfl) (by kernel_rfl) (by kernel_rfl) rfl rfl ?_
                      refine TA.y (listed' := #[true, true, true, true, true, true, true, true, true, true, true, true, true, true, true, true, true, true, true, true, true, true, true, true, true, true, true, true, true, true, true, true, true, true, true, true, false, false, false]) 35 [0] rfl (Y.sleq rfl rfl) (Gd.at 26 true 74 (decide (E32.Level = E7.Level)) rfl rfl rfl (beq_tt H39)) rfl rfl (by kernel_rfl) (by kernel_rfl) (by kernel_rfl) rfl rfl ?_
                      refine TA.y (listed' := #[true, true, true, true, true, true, true, true, true, true, true, true, true, true, true, true, true, true, true, true, true, true, true, true, true, true, true, true, true, true, true, true, true, true, true, true, true, false, false]) 36 [0] rfl (Y.pick_t H39 rfl rfl) (Gd.at 11 false 59 (!R34) rfl rfl rfl (beq_ff H37)) rfl rfl (by kernel_rfl) (by kernel_rfl) (by kernel_rfl) rfl rfl ?_
                      refine TA.y (listed' := #[true, true, true, true, true, true, true, true, true, true, true, true, true, true, true, true, true, true, true, true, true, true, true, true, true, true, true, true, true, true, true, true, true, true, true, true, true, true, false]) 37 [0] rfl (Y.pick_f H37 rfl rfl) (Gd.at 2 true 50 (decide (S2 > (0 : Int))) rfl rfl rfl (beq_tt H31)) rfl rfl (by kernel_rfl) (by kernel_rfl) (by kernel_rfl) rfl rfl ?_
                      refine TA.y (listed' := #[true, true, true, true, true, true, true, true, true, true, true, true, true, true, true, true, true, true, true, true, true, true, true, true, true, true, true, true, true, true, true, true, true, true, true, true, true, true, true]) 38 [0] rfl (Y.pick_t H31 rfl rfl) rfl rfl rfl (by kernel_rfl) (by kernel_rfl) (by kernel_rfl) rfl rfl ?_
                      refine TA.nil (by kernel_rfl) ?_
                      exact TE.jb_go () [0] ⟨rfl, rfl, rfl, rfl, trivial⟩ rfl
                    · refine TA.off (listed' := #[true, true, true, true, true, true, true, true, true, true, true, true, true, true, true, true, true, true, true, true, true, true, true, true, true, true, true, true, false, false, false, false, false, false, false, false, false, false, false]) 27 [0] rfl (Gd.at 26 true 74 (decide (E32.Level = E7.Level)) rfl rfl rfl (beq_ft H39)) rfl rfl (by kernel_rfl) (by kernel_rfl) (by kernel_rfl) rfl rfl ?_
                      refine TA.off (listed' := #[true, true, true, true, true, true, true, true, true, true, true, true, true, true, true, true, true, true, true, true, true, true, true, true, true, true, true, true, true, false, false, false, false, false, false, false, false, false, false]) 28 [0] rfl (Gd.at 26 true 74 (decide (E32.Level = E7.Level)) rfl rfl rfl (beq_ft H39)) rfl rfl (by kernel_rfl) (by kernel_rfl) (by kernel_rfl) rfl rfl ?_
                      refine TA.off (listed' := #[true, true, true, true, true, true, true, true, true, true, true, true, true, true, true, true, true, true, true, true, true, true, true, true, true, true, true, true, true, true, false, false, false, false, false, false, false, false, false]) 29 [0] rfl (Gd.at 26 true 74 (decide (E32.Level = E7.Level)) rfl rfl rfl (beq_ft H39)) rfl rfl (by kernel_rfl) (by kernel_rfl) (by kernel_rfl) rfl rfl ?_
                      refine TA.off (listed' := #[true, true, true, true, true, true, true, true, true, true, true, true, true, true, true, true, true, true, true, true, true, true, true, true, true, true, true, true, true, true, true, false, false, false, false, false, false, false, false]) 30 [0] rfl (Gd.at 26 true 74 (decide (E32.Level = E7.Level)) rfl rfl rfl (beq_ft H39)) rfl rfl (by kernel_rfl) (by kernel_rfl) (by kernel_rfl) rfl rfl ?_
                      refine TA.off (listed' := #[true, true, true, true, true, true, true, true, true, true, true, true, true, true, true, true, true, true, true, true, true, true, true, true, true, true, true, true, true, true, true, true, false, false, false, false, false, false, false]) 31 [0] rfl (Gd.at 26 true 74 (decide (E32.Level = E7.Level)) rfl rfl rfl (beq_ft H39)) rfl rfl (by kernel_rfl) (by kernel_rfl) (by kernel_rfl) rfl rfl ?_
                      refine TA.off (listed' := #[true, true, true, true, true, true, true, true, true, true, true, true, true, true, true, true, true, true, true, true, true, true, true, true, true, true, true, true, true, true, true, true, true, false, false, false, false, false, false]) 32 [0] rfl (Gd.at 26 true 74 (decide (E32.Level = E7.Level)) rfl rfl rfl (beq_ft H39)) rfl rfl (by kernel_rfl) (by kernel_rfl) (by kernel_rfl) rfl rfl ?_
                      refine TA.off (listed' := #[true, true, true, true, true, true, true, true, true, true, true, true, true, true, true, true, true, true, true, true, true, true, true, true, true, true, true, true, true, true, true, true, true, true, false, false, false, false, false]) 33 [0] rfl (Gd.at 26 true 74 (decide (E32.Level = E7.Level)) rfl rfl rfl (beq_ft H39)) rfl rfl (by kernel_rfl) (by kernel_rfl) (by kernel_rfl) rfl rfl ?_
                      refine TA.off (listed' := #[true, true, true, true, true, true, true, true, true, true, true, true, true, true, true, true, true, true, true, true, true, true, true, true, true, true, true, true, true, true, true, true, true, true, true, false, false, false, false]) 34 [0] rfl (Gd.at 26 true 74 (decide (E32.Level = E7.Level)) rfl rfl rfl (beq_ft H39)) rfl rfl (by kernel_rfl) (by kernel_rfl) (by kernel_rfl) rfl rfl ?_
                      refine TA.off (listed' := #[true, true, true, true, true, true, true, true, true, true, true, true, true, true, true, true, true, true, true, true, true, true, true, true, true, true, true, true, true, true, true, true, true, true, true, true, false, false, false]) 35 [0] rfl (Gd.at 26 true 74 (decide (E32.Level = E7.Level)) rfl rfl rfl (beq_ft H39)) rfl rfl (by kernel_rfl) (by kernel_rfl) (by kernel_rfl) rfl rfl ?_
                      refine TA.y (listed' := #[true, true, true, true, true, true, true, true, true, true, true, true, true, true, true, true, true, true, true, true, true, true, true, true, true, true, true, true, true, true, true, true, true, true, true, true, true, false, false]) 36 [0] rfl (Y.pick_f H39 rfl rfl) (Gd.at 11 false 59 (!R34) rfl rfl rfl (beq_ff H37)) rfl rfl (by kernel_rfl) (by kernel_rfl) (by kernel_rfl) rfl rfl ?_
                      refine TA.y (listed' := #[true, true, true, true, true, true, true, true, true, true, true, true, true, true, true, true, true, true, true, true, true, true, true, true, true, true, true, true, true, true, true, true, true, true, true, true, true, true, false]) 37 [0] rfl (Y.pick_f H37 rfl rfl) (Gd.at 2 true 50 (decide (S2 > (0 : Int))) rfl rfl rfl (beq_tt H31)) rfl rfl (by kernel_rfl) (by kernel_rfl) (by kernel_rfl) rfl rfl ?_
                      refine TA.y (listed' := #[true, true, true, true, true, true, true, true, true, true, true, true, true, true, true, true, true, true, true, true, true, true, true, true, true, true, true, true, true, true, true, true, true, true, true, true, true, true, true]) 38 [0] rfl (Y.pick_t H31 rfl rfl) rfl rfl rfl (by kernel_rfl) (by kernel_rfl) (by kernel_rfl) rfl rfl ?_
                      refine TA.nil (by kernel_rfl) ?_
                      exact TE.jb_go () [0] ⟨rfl, rfl, rfl, rfl, trivial⟩ rfl
                  · refine TA.off (listed' := #[true, true, true, true, true, true, true, true, true, true, true, true, true, true, true, true, true, false, false, false, false, false, false, false, false, false, false, false, false, false, false, false, false, false, false, false, false, false, false]) 16 [0] rfl (Gd.at 15 true 63 (decide (E7.Level > (0 : Int))) rfl rfl rfl (beq_ft H38)) rfl rfl (by kernel_rfl) (by kernel_rfl) (by kernel_rfl) rfl rfl ?_
                    refine TA.off (listed' := #[true, true, true, true, true, true, true, true, true, true, true, true, true, true, true, true, true, true, false, false, false, false, false, false, false, false, false, false, false, false, false, false, false, false, false, false, false, false, false]) 17 [0] rfl (Gd.at 15 true 63 (decide (E7.Level > (0 : Int))) rfl rfl rfl (beq_ft H38)) rfl rfl (by kernel_rfl) (by kernel_rfl) (by kernel_rfl) rfl rfl ?_
                    refine TA.off (listed' := #[true, true, true, true, true, true, true, true, true, true, true, true, true, true, true, true, true, true, true, false, false, false, false, false, false, false, false, false, false, false, false, false, false, false, false, false, false, false, false]) 18 [0] rfl (Gd.at 15 true 63 (decide (E7.Level > (0 : Int))) rfl rfl rfl (beq_ft H38)) rfl rfl (by kernel_rfl) (by kernel_rfl) (by kernel_rfl) rfl rfl ?_
                    refine TA.off (listed' := #[true, true, true, true, true, true, true, true, true, true, true, true, true, true, true, true, true, true, true, true, false, false, false, false, false, false, false, false, false, false, false, false, false, false, false, false, false, false, false]) 19 [0] rfl (Gd.at 15 true 63 (decide (E7.Level > (0 : Int))) rfl rfl rfl (beq_ft H38)) rfl rfl (by kernel_rfl) (by kernel_rfl) (by kernel_rfl) rfl rfl ?_
                    refine TA.off (listed' := #[true, true, true, true, true, true, true, true, true, true, true, true, true, true, true, true, true, true, true, true, true, false, false, false, false, false, false, false, false, false, false, false, false, false, false, false, false, false, false]) 20 [0] rfl (Gd.at 15 true 63 (decide (E7.Level > (0 : Int))) rfl rfl rfl (beq_ft H38)) rfl rfl (by kernel_rfl) (by kernel_rfl) (by kernel_rfl) rfl rfl ?_
                    refine TA.off (listed' := #[true, true, true, true, true, true, true, true, true, true, true, true, true, true, true, true, true, true, true, true, true, true, false, false, false, false, false, false, false, false, false, false, false, false, false, false, false, false, false]) 21 [0] rfl (Gd.at 15 true 63 (decide (E7.Level > (0 : Int))) rfl rfl rfl (beq_ft H38)) rfl rfl (by kernel_rfl) (by kernel_rfl) (by kernel_rfl) rfl rfl ?_
                    refine TA.off (listed' := #[true, true, true, true, true, true, true, true, true, true, true, true, true, true, true, true, true, true, true, true, true, true, true, false, false, false, false, false, false, false, false, false, false, false, false, false, false, false, false]) 22 [0] rfl (Gd.at 15 true 63 (decide (E7.Level > (0 : Int))) rfl rfl rfl (beq_ft H38)) rfl rfl (by kernel_rfl) (by kernel_rfl) (by kernel_rfl) rfl rfl ?_
                    refine TA.off (listed' := #[true, true, true, true, true, true, true, true, true, true, true, true, true, true, true, true, true, true, true, true, true, true, true, true, false, false, false, false, false, false, false, false, false, false, false, false, false, false, false]) 23 [0] rfl (Gd.at 15 true 63 (decide (E7.Level > (0 : Int))) rfl rfl rfl (beq_ft H38)) rfl rfl (by kernel_rfl) (by kernel_rfl) (by kernel_rfl) rfl rfl ?_
                    refine TA.off (listed' := #[true, true, true, true, true, true, true, true, true, true, true, true, true, true, true, true, true, true, true, true, true, true, true, true, true, false, false, false, false, false, false, false, false, false, false, false, false, false, false]) 24 [0] rfl (Gd.at 15 true 63 (decide (E7.Level > (0 : Int))) rfl rfl rfl (beq_ft H38)) rfl rfl (by kernel_rfl) (by kernel_rfl) (by kernel_rfl) rfl rfl ?_
                    refine TA.y (listed' := #[true, true, true, true, true, true, true, true, true, true, true, true, true, true, true, true, true, true, true, true, true, true, true, true, true, true, false, false, false, false, false, false, false, false, false, false, false, false, false]) 25 [0] rfl (Y.pick_f H38 rfl rfl) (Gd.at 11 false 59 (!R34) rfl rfl rfl (beq_ff H37)) rfl rfl (by kernel_rfl) (by kernel_rfl) (by kernel_rfl) rfl rfl ?_
                    refine TA.y (listed' := #[true, true, true, true, true, true, true, true, true, true, true, true, true, true, true, true, true, true, true, true, true, true, true, true, true, true, true, false, false, false, false, false, false, false, false, false, false, false, false]) 26 [0] rfl (Y.move rfl) (Gd.at 11 false 59 (!R34) rfl rfl rfl (beq_ff H37)) rfl rfl (by kernel_rfl) (by kernel_rfl) (by kernel_rfl) rfl rfl ?_
                    refine TA.off (listed' := #[true, true, true, true, true, true, true, true, true, true, true, true, true, true, true, true, true, true, true, true, true, true, true, true, true, true, true, true, false, false, false, false, false, false, false, false, false, false, false]) 27 [0] rfl (Gd.at 26 true 74 false rfl rfl rfl rfl) rfl rfl (by kernel_rfl) (by kernel_rfl) (by kernel_rfl) rfl rfl ?_
                    refine TA.off (listed' := #[true, true, true, true, true, true, true, true, true, true, true, true, true, true, true, true, true, true, true, true, true, true, true, true, true, true, true, true, true, false, false, false, false, false, false, false, false, false, false]) 28 [0] rfl (Gd.at 26 true 74 false rfl rfl rfl rfl) rfl rfl (by kernel_rfl) (by kernel_rfl) (by kernel_rfl) rfl rfl ?_
                    refine TA.off (listed' := #[true, true, true, true, true, true, true, true, true, true, true, true, true, true, true, true, true, true, true, true, true, true, true, true, true, true, true, true, true, true, false, false, false, false, false, false, false, false, false]) 29 [0] rfl (Gd.at 26 true 74 false rfl rfl rfl rfl) rfl rfl (by kernel_rfl) (by kernel_rfl) (by kernel_rfl) rfl rfl ?_
                    refine TA.off (listed' := #[true, true, true, true, true, true, true, true, true, true, true, true, true, true, true, true, true, true, true, true, true, true, true, true, true, true, true, true, true, true, true, false, false, false, false, false, false, false, false]) 30 [0] rfl (Gd.at 26 true 74 false rfl rfl rfl rfl) rfl rfl (by kernel_rfl) (by kernel_rfl) (by kernel_rfl) rfl rfl ?_
                    refine TA.off (listed' := #[true, true, true, true, true, true, true, true, true, true, true, true, true, true, true, true, true, true, true, true, true, true, true, true, true, true, true, true, true, true, true, true, false, false, false, false, false, false, false]) 31 [0] rfl (Gd.at 26 true 74 false rfl rfl rfl rfl) rfl rfl (by kernel_rfl) (by kernel_rfl) (by kernel_rfl) rfl rfl ?_
                    refine TA.off (listed' := #[true, true, true, true, true, true, true, true, true, true, true, true, true, true, true, true, true, true, true, true, true, true, true, true, true, true, true, true, true, true, true, true, true, false, false, false, false, false, false]) 32 [0] rfl (Gd.at 26 true 74 false rfl rfl rfl rfl) rfl rfl (by kernel_rfl) (by kernel_rfl) (by kernel_rfl) rfl rfl ?_
                    refine TA.off (listed' := #[true, true, true, true, true, true, true, true, true, true, true, true, true, true, true, true, true, true, true, true, true, true, true, true, true, true, true, true, true, true, true, true, true, true, false, false, false, false, false]) 33 [0] rfl (Gd.at 26 true 74 false rfl rfl rfl rfl) rfl rfl (by kernel_rfl) (by kernel_rfl) (by kernel_rfl) rfl rfl ?_
                    refine TA.off (listed' := #[true, true, true, true, true, true, true, true, true, true, true, true, true, true, true, true, true, true, true, true, true, true, true, true, true, true, true, true, true, true, true, true, true, true, true, false, false, false, false]) 34 [0] rfl (Gd.at 26 true 74 false rfl rfl rfl rfl) rfl rfl (by kernel_rfl) (by kernel_rfl) (by kernel_rfl) rfl rfl ?_
                    refine TA.off (listed' := #[true, true, true, true, true, true, true, true, true, true, true, true, true, true, true, true, true, true, true, true, true, true, true, true, true, true, true, true, true, true, true, true, true, true, true, true, false, false, false]) 35 [0] rfl (Gd.at 26 true 74 false rfl rfl rfl rfl) rfl rfl (by kernel_rfl) (by kernel_rfl) (by kernel_rfl) rfl rfl ?_
                    refine TA.y (listed' := #[true, true, true, true, true, true, true, true, true, true, true, true, true, true, true, true, true, true, true, true, true, true, true, true, true, true, true, true, true, true, true, true, true, true, true, true, true, false, false]) 36 [0] rfl (Y.pick_f rfl rfl rfl) (Gd.at 11 false 59 (!R34) rfl rfl rfl (beq_ff H37)) rfl rfl (by kernel_rfl) (by kernel_rfl) (by kernel_rfl) rfl rfl ?_
                    refine TA.y (listed' := #[true, true, true, true, true, true, true, true, true, true, true, true, true, true, true, true, true, true, true, true, true, true, true, true, true, true, true, true, true, true, true, true, true, true, true, true, true, true, false]) 37 [0] rfl (Y.pick_f H37 rfl rfl) (Gd.at 2 true 50 (decide (S2 > (0 : Int))) rfl rfl rfl (beq_tt H31)) rfl rfl (by kernel_rfl) (by kernel_rfl) (by kernel_rfl) rfl rfl ?_
                    refine TA.y (listed' := #[true, true, true, true, true, true, true, true, true, true, true, true, true, true, true, true, true, true, true, true, true, true, true, true, true, true, true, true, true, true, true, true, true, true, true, true, true, true, true]) 38 [0] rfl (Y.pick_t H31 rfl rfl) rfl rfl rfl (by kernel_rfl) (by kernel_rfl) (by kernel_rfl) rfl rfl ?_
                    refine TA.nil (by kernel_rfl) ?_
                    exact TE.jb_go () [0] ⟨rfl, rfl, rfl, rfl, trivial⟩ rfl
              · refine TA.off (listed' := #[true, true, true, true, false, false, false, false, false, false, false, false, false, false, false, false, false, false, false, false, false, false, false, false, false, false, false, false, false, false, false, false, false, false, false, false, false, false, false]) 3 [0] rfl (Gd.at 2 true 50 (decide (S2 > (0 : Int))) rfl rfl rfl (beq_ft H31)) rfl rfl (by kernel_rfl) (by kernel_rfl) (by kernel_rfl) rfl rfl ?_
                refine TA.off (listed' := #[true, true, true, true, true, false, false, false, false, false, false, false, false, false, false, false, false, false, false, false, false, false, false, false, false, false, false, false, false, false, false, false, false, false, false, false, false, false, false]) 4 [0] rfl (Gd.at 2 true 50 (decide (S2 > (0 : Int))) rfl rfl rfl (beq_ft H31)) rfl rfl (by kernel_rfl) (by kernel_rfl) (by kernel_rfl) rfl rfl ?_
                refine TA.off (listed' := #[true, true, true, true, true, true, false, false, false, false, false, false, false, false, false, false, false, false, false, false, false, false, false, false, false, false, false, false, false, false, false, false, false, false, false, false, false, false, false]) 5 [0] rfl (Gd.at 2 true 50 (decide (S2 > (0 : Int))) rfl rfl rfl (beq_ft H31)) rfl rfl (by kernel_rfl) (by kernel_rfl) (by kernel_rfl) rfl rfl ?_
                refine TA.off (listed' := #[true, true, true, true, true, true, true, false, false, false, false, false, false, false, false, false, false, false, false, false, false, false, false, false, false, false, false, false, false, false, false, false, false, false, false, false, false, false, false]) 6 [0] rfl (Gd.at 2 true 50 (decide (S2 > (0 : Int))) rfl rfl rfl (beq_ft H31)) rfl rfl (by kernel_rfl) (by kernel_rfl) (by kernel_rfl) rfl rfl ?_
                refine TA.off (listed' := #[true, true, true, true, true, true, true, true, false, false, false, false, false, false, false, false, false, false, false, false, false, false, false, false, false, false, false, false, false, false, false, false, false, false, false, false, false, false, false]) 7 [0] rfl (Gd.at 2 true 50 (decide (S2 > (0 : Int))) rfl rfl rfl (beq_ft H31)) rfl rfl (by kernel_rfl) (by kernel_rfl) (by kernel_rfl) rfl rfl ?_
                refine TA.off (listed' := #[true, true, true, true, true, true, true, true, true, false, false, false, false, false, false, false, false, false, false, false, false, false, false, false, false, false, false, false, false, false, false, false, false, false, false, false, false, false, false]) 8 [0] rfl (Gd.at 2 true 50 (decide (S2 > (0 : Int))) rfl rfl rfl (beq_ft H31)) rfl rfl (by kernel_rfl) (by kernel_rfl) (by kernel_rfl) rfl rfl ?_
                refine TA.off (listed' := #[true, true, true, true, true, true, true, true, true, true, false, false, false, false, false, false, false, false, false, false, false, false, false, false, false, false, false, false, false, false, false, false, false, false, false, false, false, false, false]) 9 [0] rfl (Gd.at 2 true 50 (decide (S2 > (0 : Int))) rfl rfl rfl (beq_ft H31)) rfl rfl (by kernel_rfl) (by kernel_rfl) (by kernel_rfl) rfl rfl ?_
                refine TA.off (listed' := #[true, true, true, true, true, true, true, true, true, true, true, false, false, false, false, false, false, false, false, false, false, false, false, false, false, false, false, false, false, false, false, false, false, false, false, false, false, false, false]) 10 [0] rfl (Gd.at 2 true 50 (decide (S2 > (0 : Int))) rfl rfl rfl (beq_ft H31)) rfl rfl (by kernel_rfl) (by kernel_rfl) (by kernel_rfl) rfl rfl ?_
                refine TA.off (listed' := #[true, true, true, true, true, true, true, true, true, true, true, true, false, false, false, false, false, false, false, false, false, false, false, false, false, false, false, false, false, false, false, false, false, false, false, false, false, false, false]) 11 [0] rfl (Gd.at 2 true 50 (decide (S2 > (0 : Int))) rfl rfl rfl (beq_ft H31)) rfl rfl (by kernel_rfl) (by kernel_rfl) (by kernel_rfl) rfl rfl ?_
                refine TA.off (listed' := #[true, true, true, true, true, true, true, true, true, true, true, true, true, false, false, false, false, false, false, false, false, false, false, false, false, false, false, false, false, false, false, false, false, false, false, false, false, false, false]) 12 [0] rfl (Gd.un 11 false 59 rfl rfl rfl) rfl rfl (by kernel_rfl) (by kernel_rfl) (by kernel_rfl) rfl rfl ?_
                refine TA.off (listed' := #[true, true, true, true, true, true, true, true, true, true, true, true, true, true, false, false, false, false, false, false, false, false, false, false, false, false, false, false, false, false, false, false, false, false, false, false, false, false, false]) 13 [0] rfl (Gd.un 11 false 59 rfl rfl rfl) rfl rfl (by kernel_rfl) (by kernel_rfl) (by kernel_rfl) rfl rfl ?_
                refine TA.off (listed' := #[true, true, true, true, true, true, true, true, true, true, true, true, true, true, true, false, false, false, false, false, false, false, false, false, false, false, false, false, false, false, false, false, false, false, false, false, false, false, false]) 14 [0] rfl (Gd.un 11 false 59 rfl rfl rfl) rfl rfl (by kernel_rfl) (by kernel_rfl) (by kernel_rfl) rfl rfl ?_
                refine TA.off (listed' := #[true, true, true, true, true, true, true, true, true, true, true, true, true, true, true, true, false, false, false, false, false, false, false, false, false, false, false, false, false, false, false, false, false, false, false, false, false, false, false]) 15 [0] rfl (Gd.un 11 false 59 rfl rfl rfl) rfl rfl (by kernel_rfl) (by kernel_rfl) (by kernel_rfl) rfl rfl ?_
                refine TA.off (listed' := #[true, true, true, true, true, true, true, true, true, true, true, true, true, true, true, true, true, false, false, false, false, false, false, false, false, false, false, false, false, false, false, false, false, false, false, false, false, false, false]) 16 [0] rfl (Gd.un 15 true 63 rfl rfl rfl) rfl rfl (by kernel_rfl) (by kernel_rfl) (by kernel_rfl) rfl rfl ?_
                refine TA.off (listed' := #[true, true, true, true, true, true, true, true, true, true, true, true, true, true, true, true, true, true, false, false, false, false, false, false, false, false, false, false, false, false, false, false, false, false, false, false, false, false, false]) 17 [0] rfl (Gd.un 15 true 63 rfl rfl rfl) rfl rfl (by kernel_rfl) (by kernel_rfl) (by kernel_rfl) rfl rfl ?_
                refine TA.off (listed' := #[true, true, true, true, true, true, true, true, true, true, true, true, true, true, true, true, true, true, true, false, false, false, false, false, false, false, false, false, false, false, false, false, false, false, false, false, false, false, false]) 18 [0] rfl (Gd.un 15 true 63 rfl rfl rfl) rfl rfl (by kernel_rfl) (by kernel_rfl) (by kernel_rfl) rfl rfl ?_
                refine TA.off (listed' := #[true, true, true, true, true, true, true, true, true, true, true, true, true, true, true, true, true, true, true, true, false, false, false, false, false, false, false, false, false, false, false, false, false, false, false, false, false, false, false]) 19 [0] rfl (Gd.un 15 true 63 rfl rfl rfl) rfl rfl (by kernel_rfl) (by kernel_rfl) (by kernel_rfl) rfl rfl ?_
                refine TA.off (listed' := #[true, true, true, true, true, true, true, true, true, true, true, true, true, true, true, true, true, true, true, true, true, false, false, false, false, false, false, false, false, false, false, false, false, false, false, false, false, false, false]) 20 [0] rfl (Gd.un 15 true 63 rfl rfl rfl) rfl rfl (by kernel_rfl) (by kernel_rfl) (by kernel_rfl) rfl rfl ?_
                refine TA.off (listed' := #[true, true, true, true, true, true, true, true, true, true, true, true, true, true, true, true, true, true, true, true, true, true, false, false, false, false, false, false, false, false, false, false, false, false, false, false, false, false, false]) 21 [0] rfl (Gd.un 15 true 63 rfl rfl rfl) rfl rfl (by kernel_rfl) (by kernel_rfl) (by kernel_rfl) rfl rfl ?_
                refine TA.off (listed' := #[true, true, true, true, true, true, true, true, true, true, true, true, true, true, true, true, true, true, true, true, true, true, true, false, false, false, false, false, false, false, false, false, false, false, false, false, false, false, false]) 22 [0] rfl (Gd.un 15 true 63 rfl rfl rfl) rfl rfl (by kernel_rfl) (by kernel_rfl) (by kernel_rfl) rfl rfl ?_
                refine TA.off (listed' := #[true, true, true, true, true, true, true, true, true, true, true, true, true, true, true, true, true, true, true, true, true, true, true, true, false, false, false, false, false, false, false, false, false, false, false, false, false, false, false]) 23 [0] rfl (Gd.un 15 true 63 rfl rfl rfl) rfl rfl (by kernel_rfl) (by kernel_rfl) (by kernel_rfl) rfl rfl ?_
                refine TA.off (listed' := #[true, true, true, true, true, true, true, true, true, true, true, true, true, true, true, true, true, true, true, true, true, true, true, true, true, false, false, false, false, false, false, false, false, false, false, false, false, false, false]) 24 [0] rfl (Gd.un 15 true 63 rfl rfl rfl) rfl rfl (by kernel_rfl) (by kernel_rfl) (by kernel_rfl) rfl rfl ?_
                refine TA.off (listed' := #[true, true, true, true, true, true, true, true, true, true, true, true, true, true, true, true, true, true, true, true, true, true, true, true, true, true, false, false, false, false, false, false, false, false, false, false, false, false, false]) 25 [0] rfl (Gd.un 11 false 59 rfl rfl rfl) rfl rfl (by kernel_rfl) (by kernel_rfl) (by kernel_rfl) rfl rfl ?_
                refine TA.off (listed' := #[true, true, true, true, true, true, true, true, true, true, true, true, true, true, true, true, true, true, true, true, true, true, true, true, true, true, true, false, false, false, false, false, false, false, false, false, false, false, false]) 26 [0] rfl (Gd.un 11 false 59 rfl rfl rfl) rfl rfl (by kernel_rfl) (by kernel_rfl) (by kernel_rfl) rfl rfl ?_
                refine TA.off (listed' := #[true, true, true, true, true, true, true, true, true, true, true, true, true, true, true, true, true, true, true, true, true, true, true, true, true, true, true, true, false, false, false, false, false, false, false, false, false, false, false]) 27 [0] rfl (Gd.un 26 true 74 rfl rfl rfl) rfl rfl (by kernel_rfl) (by kernel_rfl) (by kernel_rfl) rfl rfl ?_
                refine TA.off (listed' := #[true, true, true, true, true, true, true, true, true, true, true, true, true, true, true, true, true, true, true, true, true, true, true, true, true, true, true, true, true, false, false, false, false, false, false, false, false, false, false]) 28 [0] rfl (Gd.un 26 true 74 rfl rfl rfl) rfl rfl (by kernel_rfl) (by kernel_rfl) (by kernel_rfl) rfl rfl ?_
                refine TA.off (listed' := #[true, true, true, true, true, true, true, true, true, true, true, true, true, true, true, true, true, true, true, true, true, true, true, true, true, true, true, true, true, true, false, false, false, false, false, false, false, false, false]) 29 [0] rfl (Gd.un 26 true 74 rfl rfl rfl) rfl rfl (by kernel_rfl) (by kernel_rfl) (by kernel_rfl) rfl rfl ?_
                refine TA.off (listed' := #[true, true, true, true, true, true, true, true, true, true, true, true, true, true, true, true, true, true, true, true, true, true, true, true, true, true, true, true, true, true, true, false, false, false, false, false, false, false, false]) 30 [0] rfl (Gd.un 26 true 74 rfl rfl rfl) rfl rfl (by kernel_rfl) (by kernel_rfl) (by kernel_rfl) rfl rfl ?_
                refine TA.off (listed' := #[true, true, true, true, true, true, true, true, true, true, true, true, true, true, true, true, true, true, true, true, true, true, true, true, true, true, true, true, true, true, true, true, false, false, false, false, false, false, false]) 31 [0] rfl (Gd.un 26 true 74 rfl rfl rfl) rfl rfl (by kernel_rfl) (by kernel_rfl) (by kernel_rfl) rfl rfl ?_
                refine TA.off (listed' := #[true, true, true, true, true, true, true, true, true, true, true, true, true, true, true, true, true, true, true, true, true, true, true, true, true, true, true, true, true, true, true, true, true, false, false, false, false, false, false]) 32 [0] rfl (Gd.un 26 true 74 rfl rfl rfl) rfl rfl (by kernel_rfl) (by kernel_rfl) (by kernel_rfl) rfl rfl ?_
                refine TA.off (listed' := #[true, true, true, true, true, true, true, true, true, true, true, true, true, true, true, true, true, true, true, true, true, true, true, true, true, true, true, true, true, true, true, true, true, true, false, false, false, false, false]) 33 [0] rfl (Gd.un 26 true 74 rfl rfl rfl) rfl rfl (by kernel_rfl) (by kernel_rfl) (by kernel_rfl) rfl rfl ?_
                refine TA.off (listed' := #[true, true, true, true, true, true, true, true, true, true, true, true, true, true, true, true, true, true, true, true, true, true, true, true, true, true, true, true, true, true, true, true, true, true, true, false, false, false, false]) 34 [0] rfl (Gd.un 26 true 74 rfl rfl rfl) rfl rfl (by kernel_rfl) (by kernel_rfl) (by kernel_rfl) rfl rfl ?_
                refine TA.off (listed' := #[true, true, true, true, true, true, true, true, true, true, true, true, true, true, true, true, true, true, true, true, true, true, true, true, true, true, true, true, true, true, true, true, true, true, true, true, false, false, false]) 35 [0] rfl (Gd.un 26 true 74 rfl rfl rfl) rfl rfl (by kernel_rfl) (by kernel_rfl) (by kernel_rfl) rfl rfl ?_
                refine TA.off (listed' := #[true, true, true, true, true, true, true, true, true, true, true, true, true, true, true, true, true, true, true, true, true, true, true, true, true, true, true, true, true, true, true, true, true, true, true, true, true, false, false]) 36 [0] rfl (Gd.un 11 false 59 rfl rfl rfl) rfl rfl (by kernel_rfl) (by kernel_rfl) (by kernel_rfl) rfl rfl ?_
                refine TA.off (listed' := #[true, true, true, true, true, true, true, true, true, true, true, true, true, true, true, true, true, true, true, true, true, true, true, true, true, true, true, true, true, true, true, true, true, true, true, true, true, true, false]) 37 [0] rfl (Gd.at 2 true 50 (decide (S2 > (0 : Int))) rfl rfl rfl (beq_ft H31)) rfl rfl (by kernel_rfl) (by kernel_rfl) (by kernel_rfl) rfl rfl ?_
                refine TA.y (listed' := #[true, true, true, true, true, true, true, true, true, true, true, true, true, true, true, true, true, true, true, true, true, true, true, true, true, true, true, true, true, true, true, true, true, true, true, true, true, true, true]) 38 [0] rfl (Y.pick_f H31 rfl rfl) rfl rfl rfl (by kernel_rfl) (by kernel_rfl) (by kernel_rfl) rfl rfl ?_
                refine TA.nil (by kernel_rfl) ?_
                exact TE.jb_go () [0] ⟨rfl, rfl, rfl, rfl, trivial⟩ rfl
            · refine TE.next ?_
              refine TW.cond rfl (fun H40 => ?_) (fun H40 => ?_)
              · refine TW.seq ?_
                refine TW.region ?_
                refine TO.y (Y.assign rfl) rfl rfl rfl ?_
                refine TO.nil ?_
                refine TE.next ?_
                refine TW.ret ?_
                refine TE.then_ret ?_
                refine TE.block_ret ?_
                refine TE.then_ret ?_
                refine TE.lp_ret ?_
                refine TE.block_ret ?_
                refine TE.jn_done ?_
                refine TE.then_ret ?_
                exact TE.leaf fun _ _ hf_ hs_ => ret_any (rs := [.tmp 2]) (vs := [.bool false]) (.inl rfl) rfl ⟨rfl, trivial⟩ hf_ hs_ ⟨(), rfl, hs_.pulls [] rfl⟩
              · refine TW.skip ?_
                refine TE.next ?_
                refine TW.seq ?_
                refine TW.region ?_
                refine TO.y (Y.assign rfl) rfl rfl rfl ?_
                refine TO.nil ?_
                refine TE.next ?_
                refine TW.joinX (τ := Unit) (X := Unit) (fun _ _ => [(0, V_l0), (3, .int .i64 S2)]) (fun _ _ => []) ?_ (fun T43 X44 => ?_)
                · refine TW.block ?_
                  refine TW.loopX (σ := Int) (X := Unit) (fun T _ => [(0, V_l0), (3, .int .i64 S2), (4, .pointer (some ⟨B9, 0, none⟩)), (5, .int .i64 T)]) (fun _ _ => [.box B9 91 [.int .i64 E7.No, .int .i64 E7.Level, strV E7.Lo, strV E7.Hi]]) () [0] ⟨rfl, rfl, rfl, rfl, trivial⟩ rfl (fun S41 X42 => ?_)
                  refine TW.seq ?_
                  refine TW.seq ?_
                  refine TW.region ?_
                  refine TO.y (Y.move rfl) rfl rfl rfl ?_
                  refine TO.y (Y.move rfl) rfl rfl rfl ?_
                  refine TO.y (Y.lss rfl rfl) rfl rfl rfl ?_
                  refine TO.nil ?_
                  refine TE.next ?_
                  refine TW.cond rfl (fun H45 => ?_) (fun H45 => ?_)
                  · refine TW.skip ?_
                    refine TE.next ?_
                    refine TW.seq ?_
                    refine TW.block ?_
                    refine TW.seq ?_
                    refine TW.draw (isH := [.box B9 91 [.int .i64 E7.No, .int .i64 E7.Level, strV E7.Lo, strV E7.Hi]]) hMix ?_
                    refine TA.y (listed' := #[true, false, false, false, false, false, false, false]) 0 [0] rfl (Y.move rfl) rfl rfl rfl (by kernel_rfl) (by kernel_rfl) (by kernel_rfl) rfl rfl ?_
                    refine TA.y (listed' := #[true, true, false, false, false, false, false, false]) 1 [0] rfl (Y.move rfl) rfl rfl rfl (by kernel_rfl) (by kernel_rfl) (by kernel_rfl) rfl rfl ?_
                    refine TA.bind fun E46 H47 => ?_
                    refine TA.y (listed' := #[true, true, true, false, false, false, false, false]) 2 [0] rfl (Y.index ke49 (Base.can HB_V_l0) H47 rfl rfl) rfl rfl rfl (by kernel_rfl) (by kernel_rfl) (by kernel_rfl) rfl rfl ?_
                    refine TA.y (listed' := #[true, true, true, true, false, false, false, false]) 3 [0] rfl (Y.field_el kf91_0 (Base.can HB_V_l0) (idx_get H47).2.2 rfl rfl) rfl rfl rfl (by kernel_rfl) (by kernel_rfl) (by kernel_rfl) rfl rfl ?_
                    refine TA.y (listed' := #[true, true, true, true, true, false, false, false]) 4 [0] rfl (Y.load_el (us := [.int .i64 E46.No]) (u := .int .i64 E46.No) kk3 rfl (Base.can HB_V_l0) (idx_get H47).2.2 rfl rfl rfl rfl rfl) rfl rfl rfl (by kernel_rfl) (by kernel_rfl) (by kernel_rfl) rfl rfl ?_
                    refine TA.y (listed' := #[true, true, true, true, true, true, false, false]) 5 [0] rfl (Y.field_box kf91_0 rfl rfl) rfl rfl rfl (by kernel_rfl) (by kernel_rfl) (by kernel_rfl) rfl rfl ?_
                    refine TA.y (listed' := #[true, true, true, true, true, true, true, false]) 6 [0] rfl (Y.load_box (v := .int .i64 E7.No) 0 kk3 rfl rfl rfl) rfl rfl rfl (by kernel_rfl) (by kernel_rfl) (by kernel_rfl) rfl rfl ?_
                    refine TA.y (listed' := #[true, true, true, true, true, true, true, true]) 7 [0] rfl (Y.eql rfl rfl) rfl rfl rfl (by kernel_rfl) (by kernel_rfl) (by kernel_rfl) rfl rfl ?_
                    refine TA.nil (by kernel_rfl) ?_
                    refine TE.next ?_
                    refine TW.cond rfl (fun H48 => ?_) (fun H48 => ?_)
                    · refine TW.seq ?_
                      refine TW.region ?_
                      refine TO.y (Y.assign rfl) rfl rfl rfl ?_
                      refine TO.nil ?_
                      refine TE.next ?_
                      refine TW.ret ?_
                      refine TE.block_ret ?_
                      refine TE.then_ret ?_
                      refine TE.lp_ret ?_
                      refine TE.block_ret ?_
                      refine TE.jn_done ?_
                      refine TE.block_ret ?_
                      refine TE.then_ret ?_
                      refine TE.lp_ret ?_
                      refine TE.block_ret ?_
                      refine TE.jn_done ?_
                      refine TE.then_ret ?_
                      exact TE.leaf fun _ _ hf_ hs_ => ret_any (rs := [.tmp 2]) (vs := [.bool false]) (.inl rfl) rfl ⟨rfl, trivial⟩ hf_ hs_ ⟨(), rfl, hs_.pulls [] rfl⟩
                    · refine TW.skip ?_
                      refine TE.block_normal ?_
                      refine TE.next ?_
                      refine TW.region ?_
                      refine TO.y (Y.move rfl) rfl rfl rfl ?_
                      refine TO.y (Y.add rfl rfl) rfl rfl rfl ?_
                      refine TO.y (Y.assign rfl) rfl rfl rfl ?_
                      refine TO.nil ?_
                      exact TE.lp_go () [0] ⟨rfl, rfl, rfl, rfl, trivial⟩ rfl
                  · refine TW.exit ?_
                    refine TE.then_exit ?_
                    refine TE.lp_exit ?_
                    refine TE.block_exit ?_
                    exact TE.jn_go () [] ⟨rfl, rfl, trivial⟩ rfl
                · refine TE.block_normal ?_
                  refine TE.next ?_
                  refine TW.region ?_
                  refine TO.y (Y.move rfl) rfl rfl rfl ?_
                  refine TO.y (Y.add rfl rfl) rfl rfl rfl ?_
                  refine TO.y (Y.assign rfl) rfl rfl rfl ?_
                  refine TO.nil ?_
                  exact TE.lp_go () [] ⟨rfl, rfl, trivial⟩ rfl
      · refine TW.exit ?_
        refine TE.then_exit ?_
        refine TE.lp_exit ?_
        refine TE.block_exit ?_
        exact TE.jn_go () [] trivial rfl
    · refine TE.next ?_
      refine TW.seq ?_
      refine TW.region ?_
      refine TO.y (Y.assign rfl) rfl rfl rfl ?_
      refine TO.nil ?_
      refine TE.next ?_
      refine TW.ret ?_
      exact TE.leaf fun _ _ hf_ hs_ => ret_any (rs := [.tmp 2]) (vs := [.bool true]) (.inl rfl) rfl ⟨rfl, trivial⟩ hf_ hs_ ⟨(), rfl, hs_.pulls [] rfl⟩

/-- loop.example/g00950/spec.FilesDrop -/
noncomputable def spec_FilesDrop (l : List File) (no : Int) : Option (List File × Bool) :=
  (spec_FilesOk l).bind fun R2 =>
  if (!R2) = true then (some (([] : List File), false))
  else (bindC (loopO (fun (S6 : Int × List File) => if (decide (S6.1 < ((l.length : Nat) : Int))) = true then ((idx l S6.1).bind fun E11 =>
  bindC (if (!(decide (E11.No = no))) = true then ((app 48 S6.2 ([E11])).bind fun E18 =>
  some (.go E18))
  else (some (.go S6.2)))
  (fun (T13 : List File) => some (.go (IntKind.i64.wrap (S6.1 + (1 : Int)), T13))))
  else (some (.done (.go S6.2))))
  ((0 : Int), ([] : List File)))
  (fun (T8 : List File) => some (T8, decide (((T8.length : Nat) : Int) < ((l.length : Nat) : Int)))))

theorem spec_FilesDrop_con (l : List File) (no : Int) (V_l0 : Value) (r : List File × Bool) (hm : spec_FilesDrop l no = some r) :
    Con Try.prog 56 [V_l0, .int .i64 no] [] [(V_l0, lc l)] (fun X : Value => .tuple #[X, .bool r.2]) (fun X => [.own X (lc r.1)]) := by
  refine Con.intro (args := [V_l0, .int .i64 no]) (n := 39) (val := fun r (X : Value) => .tuple #[X, .bool r.2]) (post := fun r X => [.own X (lc r.1)]) (m := spec_FilesDrop l no) Try.func56 rfl rfl rfl hm ?_
  intro w S hrd
  have HB_V_l0 := hrd _ (.head _)
  clear hrd
  unfold spec_FilesDrop
  refine TW.seq ?_
  refine TW.region ?_
  refine TO.y (Y.assign rfl) rfl rfl rfl ?_
  refine TO.y (Y.assign rfl) rfl rfl rfl ?_
  refine TO.nil ?_
  refine TE.next ?_
  refine TW.seq ?_
  refine TW.region ?_
  refine TO.ef (Ef.buildSlice (α := File) (Vs := []) ([] : List File) ke49 kz91 rfl rfl rfl rfl rfl) rfl rfl rfl (fun B1 => ?_)
  refine TO.y (Y.assign rfl) rfl rfl rfl ?_
  refine TO.nil ?_
  refine TE.next ?_
  refine TW.seq ?_
  refine TW.seq ?_
  refine TW.region ?_
  refine TO.y (Y.move rfl) rfl rfl rfl ?_
  refine TO.bind fun R2 H3 => ?_
  refine TO.ef (Ef.call (rest := [.own (.slice (some ⟨B1, 0, none⟩) 0 0) (lc ([] : List File))]) [0] (spec_FilesOk_con l V_l0 R2 H3) kc55 rfl rfl ⟨(Base.can HB_V_l0), trivial⟩) rfl rfl rfl (fun _ => ?_)
  refine TO.y (Y.not rfl) rfl rfl rfl ?_
  refine TO.nil ?_
  refine TE.next ?_
  refine TW.cond rfl (fun H5 => ?_) (fun H5 => ?_)
  · refine TW.seq ?_
    refine TW.region ?_
    refine TO.y (Y.move rfl) rfl rfl rfl ?_
    refine TO.y (Y.assign rfl) rfl rfl rfl ?_
    refine TO.y (Y.assign rfl) rfl rfl rfl ?_
    refine TO.nil ?_
    refine TE.next ?_
    refine TW.ret ?_
    refine TE.then_ret ?_
    exact TE.leaf fun _ _ hf_ hs_ => ret_any (rs := [.tmp 4, .tmp 5]) (vs := [.slice (some ⟨B1, 0, none⟩) 0 0, .bool false]) (.inl rfl) rfl ⟨rfl, ⟨rfl, trivial⟩⟩ hf_ hs_ ⟨(.slice (some ⟨B1, 0, none⟩) 0 0), rfl, hs_.pulls [0] rfl⟩
  · refine TW.skip ?_
    refine TE.next ?_
    refine TW.seq ?_
    refine TW.seq ?_
    refine TW.region ?_
    refine TO.y (Y.assign rfl) rfl rfl rfl ?_
    refine TO.nil ?_
    refine TE.next ?_
    refine TW.joinX (τ := List File) (X := Value) (fun _ X => [(0, V_l0), (6, X)]) (fun T X => [.own X (lc T)]) ?_ (fun T8 X9 => ?_)
    · refine TW.block ?_
      refine TW.loopX (σ := Int × List File) (X := Value) (fun T X => [(0, V_l0), (1, .int .i64 no), (6, X), (7, .int .i64 T.1)]) (fun T X => [.own X (lc T.2)]) (.slice (some ⟨B1, 0, none⟩) 0 0) [0] ⟨rfl, rfl, rfl, rfl, trivial⟩ rfl (fun S6 X7 => ?_)
      refine TW.seq ?_
      refine TW.seq ?_
      refine TW.region ?_
      refine TO.y (Y.move rfl) rfl rfl rfl ?_
      refine TO.y (Y.move rfl) rfl rfl rfl ?_
      refine TO.y (Y.len (l := l) ke49 (Base.can HB_V_l0) rfl) rfl rfl rfl ?_
      refine TO.y (Y.lss rfl rfl) rfl rfl rfl ?_
      refine TO.nil ?_
      refine TE.next ?_
      refine TW.cond rfl (fun H10 => ?_) (fun H10 => ?_)
      · refine TW.skip ?_
        refine TE.next ?_
        refine TW.seq ?_
        refine TW.block ?_
        refine TW.seq ?_
        refine TW.region ?_
        refine TO.y (Y.move rfl) rfl rfl rfl ?_
        refine TO.y (Y.move rfl) rfl rfl rfl ?_
        refine TO.bind fun E11 H12 => ?_
        refine TO.y (Y.index ke49 (Base.can HB_V_l0) H12 rfl rfl) rfl rfl rfl ?_
        refine TO.y (Y.field_el kf91_0 (Base.can HB_V_l0) (idx_get H12).2.2 rfl rfl) rfl rfl rfl ?_
        refine TO.y (Y.load_el (us := [.int .i64 E11.No]) (u := .int .i64 E11.No) kk3 rfl (Base.can HB_V_l0) (idx_get H12).2.2 rfl rfl rfl rfl rfl) rfl rfl rfl ?_
        refine TO.y (Y.move rfl) rfl rfl rfl ?_
        refine TO.y (Y.neq rfl rfl) rfl rfl rfl ?_
        refine TO.nil ?_
        refine TE.next ?_
        refine TW.joinX (τ := List File) (X := Value) (fun _ X => [(0, V_l0), (1, .int .i64 no), (6, X), (7, .int .i64 S6.1)]) (fun T X => [.own X (lc T)]) ?_ (fun T13 X14 => ?_)
        · refine TW.cond rfl (fun H15 => ?_) (fun H15 => ?_)
          · refine TW.region ?_
            refine TO.y (Y.move rfl) rfl rfl rfl ?_
            refine TO.y (Y.move rfl) rfl rfl rfl ?_
            refine TO.y (Y.move rfl) rfl rfl rfl ?_
            refine TO.y (Y.index ke49 (Base.can HB_V_l0) H12 rfl rfl) rfl rfl rfl ?_
            refine TO.y (Y.load_el (us := [.int .i64 E11.No, .int .i64 E11.Level, strV E11.Lo, strV E11.Hi]) (u := .agg #[.int .i64 E11.No, .int .i64 E11.Level, strV E11.Lo, strV E11.Hi]) kk91 rfl (Base.can HB_V_l0) (idx_get H12).2.2 rfl rfl rfl rfl rfl) rfl rfl rfl ?_
            refine TO.ef (Ef.buildSlice (α := File) (Vs := [.agg #[.int .i64 E11.No, .int .i64 E11.Level, strV E11.Lo, strV E11.Hi]]) [E11] ke49 kz91 rfl rfl rfl rfl rfl) rfl rfl rfl (fun B16 => ?_)
            refine TO.bind fun E18 H19 => ?_
            refine TO.ef (Ef.append (α := File) (is' := [.own (.slice (some ⟨B16, 0, none⟩) 1 1) (lc ([E11]))]) [1, 0] H19 ke49 kz91 rfl rfl rfl rfl rfl (Can.own 0 rfl)) rfl rfl rfl (fun V17 => ?_)
            refine TO.y (Y.assign rfl) rfl rfl rfl ?_
            refine TO.nil ?_
            exact TE.jn_go V17 [0] ⟨rfl, rfl, rfl, rfl, trivial⟩ rfl
          · refine TW.skip ?_
            exact TE.jn_go X7 [0] ⟨rfl, rfl, rfl, rfl, trivial⟩ rfl
        · refine TE.block_normal ?_
          refine TE.next ?_
          refine TW.region ?_
          refine TO.y (Y.move rfl) rfl rfl rfl ?_
          refine TO.y (Y.add rfl rfl) rfl rfl rfl ?_
          refine TO.y (Y.assign rfl) rfl rfl rfl ?_
          refine TO.nil ?_
          exact TE.lp_go X14 [0] ⟨rfl, rfl, rfl, rfl, trivial⟩ rfl
      · refine TW.exit ?_
        refine TE.then_exit ?_
        refine TE.lp_exit ?_
        refine TE.block_exit ?_
        exact TE.jn_go X7 [0] ⟨rfl, rfl, trivial⟩ rfl
    · refine TE.next ?_
      refine TW.seq ?_
      refine TW.region ?_
      refine TO.y (Y.move rfl) rfl rfl rfl ?_
      refine TO.y (Y.move rfl) rfl rfl rfl ?_
      refine TO.y (Y.len (l := T8) ke49 (Can.own 0 rfl) rfl) rfl rfl rfl ?_
      refine TO.y (Y.move rfl) rfl rfl rfl ?_
      refine TO.y (Y.len (l := l) ke49 (Base.can HB_V_l0) rfl) rfl rfl rfl ?_
      refine TO.y (Y.lss rfl rfl) rfl rfl rfl ?_
      refine TO.y (Y.assign rfl) rfl rfl rfl ?_
      refine TO.y (Y.assign rfl) rfl rfl rfl ?_
      refine TO.nil ?_
      refine TE.next ?_
      refine TW.ret ?_
      exact TE.leaf fun _ _ hf_ hs_ => ret_any (rs := [.tmp 4, .tmp 5]) (vs := [X9, .bool (decide (((T8.length : Nat) : Int) < ((l.length : Nat) : Int)))]) (.inl rfl) rfl ⟨rfl, ⟨rfl, trivial⟩⟩ hf_ hs_ ⟨X9, rfl, hs_.pulls [0] rfl⟩

/-- loop.example/g00950/spec.FilesAdd -/
noncomputable def spec_FilesAdd (l : List File) (f : File) : Option (List File × Bool) :=
  (spec_FilesOk l).bind fun R2 =>
  if (!R2) = true then (some (([] : List File), false))
  else (bindC (loopO (fun (S8 : Bool × Int × List File) => if (decide (S8.2.1 < ((l.length : Nat) : Int))) = true then ((if (!S8.1) = true then ((idx l S8.2.1).bind fun E16 =>
  (spec_l16Ahead f E16).bind fun R18 =>
  some R18)
  else (some false)).bind (fun (T13 : Bool) =>
  bindC (if T13 = true then ((app 48 S8.2.2 ([f])).bind fun E26 =>
  some (.go (true, E26)))
  else (some (.go (S8.1, S8.2.2))))
  (fun (T21 : Bool × List File) => (idx l S8.2.1).bind fun E28 =>
  (app 48 T21.2 ([E28])).bind fun E32 =>
  some (.go (T21.1, IntKind.i64.wrap (S8.2.1 + (1 : Int)), E32)))))
  else (some (.done (.go (S8.1, S8.2.2)))))
  (false, (0 : Int), ([] : List File)))
  (fun (T10 : Bool × List File) => bindC (if (!T10.1) = true then ((app 48 T10.2 ([f])).bind fun E39 =>
  some (.go E39))
  else (some (.go T10.2)))
  (fun (T34 : List File) => (spec_FilesOk T34).bind fun R41 =>
  if (!R41) = true then ((app 48 ([] : List File) l).bind fun E47 =>
  some (E47, false))
  else (some (T34, true)))))

theorem spec_FilesAdd_con (l : List File) (f : File) (V_l0 : Value) (r : List File × Bool) (hm : spec_FilesAdd l f = some r) :
    Con Try.prog 57 [V_l0, .agg #[.int .i64 f.No, .int .i64 f.Level, strV f.Lo, strV f.Hi]] [] [(V_l0, lc l)] (fun X : Value => .tuple #[X, .bool r.2]) (fun X => [.own X (lc r.1)]) := by
  refine Con.intro (args := [V_l0, .agg #[.int .i64 f.No, .int .i64 f.Level, strV f.Lo, strV f.Hi]]) (n := 54) (val := fun r (X : Value) => .tuple #[X, .bool r.2]) (post := fun r X => [.own X (lc r.1)]) (m := spec_FilesAdd l f) Try.func57 rfl rfl rfl hm ?_
  intro w S hrd
  have HB_V_l0 := hrd _ (.head _)
  clear hrd
  unfold spec_FilesAdd
  refine TW.seq ?_
  refine TW.region ?_
  refine TO.ef (Ef.box rfl (Cel.plain rfl rfl)) rfl rfl rfl (fun B1 => ?_)
  refine TO.y (Y.assign rfl) rfl rfl rfl ?_
  refine TO.y (Y.assign rfl) rfl rfl rfl ?_
  refine TO.nil ?_
  refine TE.next ?_
  refine TW.seq ?_
  refine TW.seq ?_
  refine TW.region ?_
  refine TO.y (Y.move rfl) rfl rfl rfl ?_
  refine TO.bind fun R2 H3 => ?_
  refine TO.ef (Ef.call (rest := [.box B1 91 [.int .i64 f.No, .int .i64 f.Level, strV f.Lo, strV f.Hi]]) [0] (spec_FilesOk_con l V_l0 R2 H3) kc55 rfl rfl ⟨(Base.can HB_V_l0), trivial⟩) rfl rfl rfl (fun _ => ?_)
  refine TO.y (Y.not rfl) rfl rfl rfl ?_
  refine TO.nil ?_
  refine TE.next ?_
  refine TW.cond rfl (fun H5 => ?_) (fun H5 => ?_)
  · refine TW.seq ?_
    refine TW.region ?_
    refine TO.ef (Ef.buildSlice (α := File) (Vs := []) ([] : List File) ke49 kz91 rfl rfl rfl rfl rfl) rfl rfl rfl (fun B6 => ?_)
    refine TO.y (Y.assign rfl) rfl rfl rfl ?_
    refine TO.y (Y.assign rfl) rfl rfl rfl ?_
    refine TO.nil ?_
    refine TE.next ?_
    refine TW.ret ?_
    refine TE.then_ret ?_
    exact TE.leaf fun _ _ hf_ hs_ => ret_any (rs := [.tmp 4, .tmp 5]) (vs := [.slice (some ⟨B6, 0, none⟩) 0 0, .bool false]) (.inl rfl) rfl ⟨rfl, ⟨rfl, trivial⟩⟩ hf_ hs_ ⟨(.slice (some ⟨B6, 0, none⟩) 0 0), rfl, hs_.pulls [0] rfl⟩
  · refine TW.skip ?_
    refine TE.next ?_
    refine TW.seq ?_
    refine TW.region ?_
    refine TO.ef (Ef.buildSlice (α := File) (Vs := []) ([] : List File) ke49 kz91 rfl rfl rfl rfl rfl) rfl rfl rfl (fun B7 => ?_)
    refine TO.y (Y.assign rfl) rfl rfl rfl ?_
    refine TO.nil ?_
    refine TE.next ?_
    refine TW.seq ?_
    refine TW.region ?_
    refine TO.y (Y.assign rfl) rfl rfl rfl ?_
    refine TO.nil ?_
    refine TE.next ?_
    refine TW.seq ?_
    refine TW.seq ?_
    refine TW.region ?_
    refine TO.y (Y.assign rfl) rfl rfl rfl ?_
    refine TO.nil ?_
    refine TE.next ?_
    refine TW.joinX (τ := Bool × List File) (X := Value) (fun T X => [(0, V_l0), (3, .pointer (some ⟨B1, 0, none⟩)), (6, X), (7, .bool T.1)]) (fun T X => [.box B1 91 [.int .i64 f.No, .int .i64 f.Level, strV f.Lo, strV f.Hi], .own X (lc T.2)]) ?_ (fun T10 X11 => ?_)
    · refine TW.block ?_
      refine TW.loopX (σ := Bool × Int × List File) (X := Value) (fun T X => [(0, V_l0), (3, .pointer (some ⟨B1, 0, none⟩)), (6, X), (7, .bool T.1), (8, .int .i64 T.2.1)]) (fun T X => [.box B1 91 [.int .i64 f.No, .int .i64 f.Level, strV f.Lo, strV f.Hi], .own X (lc T.2.2)]) (.slice (some ⟨B7, 0, none⟩) 0 0) [1, 0] ⟨rfl, rfl, rfl, rfl, rfl, trivial⟩ rfl (fun S8 X9 => ?_)
      refine TW.seq ?_
      refine TW.seq ?_
      refine TW.region ?_
      refine TO.y (Y.move rfl) rfl rfl rfl ?_
      refine TO.y (Y.move rfl) rfl rfl rfl ?_
      refine TO.y (Y.len (l := l) ke49 (Base.can HB_V_l0) rfl) rfl rfl rfl ?_
      refine TO.y (Y.lss rfl rfl) rfl rfl rfl ?_
      refine TO.nil ?_
      refine TE.next ?_
      refine TW.cond rfl (fun H12 => ?_) (fun H12 => ?_)
      · refine TW.skip ?_
        refine TE.next ?_
        refine TW.seq ?_
        refine TW.block ?_
        refine TW.seq ?_
        refine TW.seq ?_
        refine TW.joinBX (τ := Bool) (X := Unit) (fun T _ => [(0, V_l0), (3, .pointer (some ⟨B1, 0, none⟩)), (6, X9), (7, .bool S8.1), (8, .int .i64 S8.2.1), (29, .bool T)]) (fun _ _ => [.box B1 91 [.int .i64 f.No, .int .i64 f.Level, strV f.Lo, strV f.Hi], .own X9 (lc S8.2.2)]) ?_ (fun T13 X14 => ?_)
        · refine TW.draw (isH := [.box B1 91 [.int .i64 f.No, .int .i64 f.Level, strV f.Lo, strV f.Hi], .own X9 (lc S8.2.2)]) hMix ?_
          refine TA.y (listed' := #[true, false, false, false, false, false, false, false, false, false]) 0 [0, 0] rfl (Y.move rfl) rfl rfl rfl (by kernel_rfl) (by kernel_rfl) (by kernel_rfl) rfl rfl ?_
          refine TA.y (listed' := #[true, true, false, false, false, false, false, false, false, false]) 1 [0, 0] rfl (Y.not rfl) rfl rfl rfl (by kernel_rfl) (by kernel_rfl) (by kernel_rfl) rfl rfl ?_
          refine TA.y (listed' := #[true, true, true, false, false, false, false, false, false, false]) 2 [0, 0] rfl (Y.move rfl) rfl rfl rfl (by kernel_rfl) (by kernel_rfl) (by kernel_rfl) rfl rfl ?_
          refine TA.ite (b := !S8.1) (fun H15 => ?_) (fun H15 => ?_)
          · refine TA.y (listed' := #[true, true, true, true, false, false, false, false, false, false]) 3 [0, 0] rfl (Y.load_box (v := .agg #[.int .i64 f.No, .int .i64 f.Level, strV f.Lo, strV f.Hi]) 0 kk91 rfl rfl rfl) (Gd.at 2 true 22 (!S8.1) rfl rfl rfl (beq_tt H15)) rfl rfl (by kernel_rfl) (by kernel_rfl) (by kernel_rfl) rfl rfl ?_
            refine TA.y (listed' := #[true, true, true, true, true, false, false, false, false, false]) 4 [0, 0] rfl (Y.move rfl) (Gd.at 2 true 22 (!S8.1) rfl rfl rfl (beq_tt H15)) rfl rfl (by kernel_rfl) (by kernel_rfl) (by kernel_rfl) rfl rfl ?_
            refine TA.y (listed' := #[true, true, true, true, true, true, false, false, false, false]) 5 [0, 0] rfl (Y.move rfl) (Gd.at 2 true 22 (!S8.1) rfl rfl rfl (beq_tt H15)) rfl rfl (by kernel_rfl) (by kernel_rfl) (by kernel_rfl) rfl rfl ?_
            refine TA.bind fun E16 H17 => ?_
            refine TA.y (listed' := #[true, true, true, true, true, true, true, false, false, false]) 6 [0, 0] rfl (Y.index ke49 (Base.can HB_V_l0) H17 rfl rfl) (Gd.at 2 true 22 (!S8.1) rfl rfl rfl (beq_tt H15)) rfl rfl (by kernel_rfl) (by kernel_rfl) (by kernel_rfl) rfl rfl ?_
            refine TA.y (listed' := #[true, true, true, true, true, true, true, true, false, false]) 7 [0, 0] rfl (Y.load_el (us := [.int .i64 E16.No, .int .i64 E16.Level, strV E16.Lo, strV E16.Hi]) (u := .agg #[.int .i64 E16.No, .int .i64 E16.Level, strV E16.Lo, strV E16.Hi]) kk91 rfl (Base.can HB_V_l0) (idx_get H17).2.2 rfl rfl rfl rfl rfl) (Gd.at 2 true 22 (!S8.1) rfl rfl rfl (beq_tt H15)) rfl rfl (by kernel_rfl) (by kernel_rfl) (by kernel_rfl) rfl rfl ?_
            refine TA.bind fun R18 H19 => ?_
            refine TA.one 8 (by kernel_rfl) ?_
            refine TX.ef (listed' := #[true, true, true, true, true, true, true, true, true, false]) [0, 0] rfl (Ef.call (rest := [.box B1 91 [.int .i64 f.No, .int .i64 f.Level, strV f.Lo, strV f.Hi], .own X9 (lc S8.2.2)]) [0, 0] (spec_l16Ahead_con f E16  R18 H19) kc85 rfl rfl trivial) (Gd.at 2 true 22 (!S8.1) rfl rfl rfl (beq_tt H15)) rfl rfl rfl (fun _ => rfl) (fun _ => ?_)
            refine TA.y (listed' := #[true, true, true, true, true, true, true, true, true, true]) 9 [0, 0] rfl (Y.pick_t H15 rfl rfl) rfl rfl rfl (by kernel_rfl) (by kernel_rfl) (by kernel_rfl) rfl rfl ?_
            refine TA.nil (by kernel_rfl) ?_
            exact TE.jb_go () [0, 0] ⟨rfl, rfl, rfl, rfl, rfl, rfl, trivial⟩ rfl
          · refine TA.off (listed' := #[true, true, true, true, false, false, false, false, false, false]) 3 [0, 0] rfl (Gd.at 2 true 22 (!S8.1) rfl rfl rfl (beq_ft H15)) rfl rfl (by kernel_rfl) (by kernel_rfl) (by kernel_rfl) rfl rfl ?_
            refine TA.off (listed' := #[true, true, true, true, true, false, false, false, false, false]) 4 [0, 0] rfl (Gd.at 2 true 22 (!S8.1) rfl rfl rfl (beq_ft H15)) rfl rfl (by kernel_rfl) (by kernel_rfl) (by kernel_rfl) rfl rfl ?_
            refine TA.off (listed' := #[true, true, true, true, true, true, false, false, false, false]) 5 [0, 0] rfl (Gd.at 2 true 22 (!S8.1) rfl rfl rfl (beq_ft H15)) rfl rfl (by kernel_rfl) (by kernel_rfl) (by kernel_rfl) rfl rfl ?_
            refine TA.off (listed' := #[true, true, true, true, true, true, true, false, false, false]) 6 [0, 0] rfl (Gd.at 2 true 22 (!S8.1) rfl rfl rfl (beq_ft H15)) rfl rfl (by kernel_rfl) (by kernel_rfl) (by kernel_rfl) rfl rfl ?_
            refine TA.off (listed' := #[true, true, true, true, true, true, true, true, false, false]) 7 [0, 0] rfl (Gd.at 2 true 22 (!S8.1) rfl rfl rfl (beq_ft H15)) rfl rfl (by kernel_rfl) (by kernel_rfl) (by kernel_rfl) rfl rfl ?_
            refine TA.off (listed' := #[true, true, true, true, true, true, true, true, true, false]) 8 [0, 0] rfl (Gd.at 2 true 22 (!S8.1) rfl rfl rfl (beq_ft H15)) rfl rfl (by kernel_rfl) (by kernel_rfl) (by kernel_rfl) rfl rfl ?_
            refine TA.y (listed' := #[true, true, true, true, true, true, true, true, true, true]) 9 [0, 0] rfl (Y.pick_f H15 rfl rfl) rfl rfl rfl (by kernel_rfl) (by kernel_rfl) (by kernel_rfl) rfl rfl ?_
            refine TA.nil (by kernel_rfl) ?_
            exact TE.jb_go () [0, 0] ⟨rfl, rfl, rfl, rfl, rfl, rfl, trivial⟩ rfl
        · refine TE.next ?_
          refine TW.joinX (τ := Bool × List File) (X := Value) (fun T X => [(0, V_l0), (3, .pointer (some ⟨B1, 0, none⟩)), (6, X), (7, .bool T.1), (8, .int .i64 S8.2.1)]) (fun T X => [.box B1 91 [.int .i64 f.No, .int .i64 f.Level, strV f.Lo, strV f.Hi], .own X (lc T.2)]) ?_ (fun T21 X22 => ?_)
          · refine TW.cond rfl (fun H23 => ?_) (fun H23 => ?_)
            · refine TW.seq ?_
              refine TW.region ?_
              refine TO.y (Y.move rfl) rfl rfl rfl ?_
              refine TO.y (Y.load_box (v := .agg #[.int .i64 f.No, .int .i64 f.Level, strV f.Lo, strV f.Hi]) 0 kk91 rfl rfl rfl) rfl rfl rfl ?_
              refine TO.ef (Ef.buildSlice (α := File) (Vs := [.agg #[.int .i64 f.No, .int .i64 f.Level, strV f.Lo, strV f.Hi]]) [f] ke49 kz91 rfl rfl rfl rfl rfl) rfl rfl rfl (fun B24 => ?_)
              refine TO.bind fun E26 H27 => ?_
              refine TO.ef (Ef.append (α := File) (is' := [.own (.slice (some ⟨B24, 0, none⟩) 1 1) (lc ([f])), .box B1 91 [.int .i64 f.No, .int .i64 f.Level, strV f.Lo, strV f.Hi]]) [2, 0, 0] H27 ke49 kz91 rfl rfl rfl rfl rfl (Can.own 0 rfl)) rfl rfl rfl (fun V25 => ?_)
              refine TO.y (Y.assign rfl) rfl rfl rfl ?_
              refine TO.nil ?_
              refine TE.next ?_
              refine TW.region ?_
              refine TO.y (Y.assign rfl) rfl rfl rfl ?_
              refine TO.nil ?_
              exact TE.jn_go V25 [2, 0] ⟨rfl, rfl, rfl, rfl, rfl, trivial⟩ rfl
            · refine TW.skip ?_
              exact TE.jn_go X9 [0, 0] ⟨rfl, rfl, rfl, rfl, rfl, trivial⟩ rfl
          · refine TE.next ?_
            refine TW.region ?_
            refine TO.y (Y.move rfl) rfl rfl rfl ?_
            refine TO.y (Y.move rfl) rfl rfl rfl ?_
            refine TO.y (Y.move rfl) rfl rfl rfl ?_
            refine TO.bind fun E28 H29 => ?_
            refine TO.y (Y.index ke49 (Base.can HB_V_l0) H29 rfl rfl) rfl rfl rfl ?_
            refine TO.y (Y.load_el (us := [.int .i64 E28.No, .int .i64 E28.Level, strV E28.Lo, strV E28.Hi]) (u := .agg #[.int .i64 E28.No, .int .i64 E28.Level, strV E28.Lo, strV E28.Hi]) kk91 rfl (Base.can HB_V_l0) (idx_get H29).2.2 rfl rfl rfl rfl rfl) rfl rfl rfl ?_
            refine TO.ef (Ef.buildSlice (α := File) (Vs := [.agg #[.int .i64 E28.No, .int .i64 E28.Level, strV E28.Lo, strV E28.Hi]]) [E28] ke49 kz91 rfl rfl rfl rfl rfl) rfl rfl rfl (fun B30 => ?_)
            refine TO.bind fun E32 H33 => ?_
            refine TO.ef (Ef.append (α := File) (is' := [.own (.slice (some ⟨B30, 0, none⟩) 1 1) (lc ([E28])), .box B1 91 [.int .i64 f.No, .int .i64 f.Level, strV f.Lo, strV f.Hi]]) [2, 0, 0] H33 ke49 kz91 rfl rfl rfl rfl rfl (Can.own 0 rfl)) rfl rfl rfl (fun V31 => ?_)
            refine TO.y (Y.assign rfl) rfl rfl rfl ?_
            refine TO.nil ?_
            refine TE.block_normal ?_
            refine TE.next ?_
            refine TW.region ?_
            refine TO.y (Y.move rfl) rfl rfl rfl ?_
            refine TO.y (Y.add rfl rfl) rfl rfl rfl ?_
            refine TO.y (Y.assign rfl) rfl rfl rfl ?_
            refine TO.nil ?_
            exact TE.lp_go V31 [2, 0] ⟨rfl, rfl, rfl, rfl, rfl, trivial⟩ rfl
      · refine TW.exit ?_
        refine TE.then_exit ?_
        refine TE.lp_exit ?_
        refine TE.block_exit ?_
        exact TE.jn_go X9 [0, 0] ⟨rfl, rfl, rfl, rfl, trivial⟩ rfl
    · refine TE.next ?_
      refine TW.seq ?_
      refine TW.seq ?_
      refine TW.region ?_
      refine TO.y (Y.move rfl) rfl rfl rfl ?_
      refine TO.y (Y.not rfl) rfl rfl rfl ?_
      refine TO.nil ?_
      refine TE.next ?_
      refine TW.joinX (τ := List File) (X := Value) (fun _ X => [(0, V_l0), (6, X)]) (fun T X => [.own X (lc T)]) ?_ (fun T34 X35 => ?_)
      · refine TW.cond rfl (fun H36 => ?_) (fun H36 => ?_)
        · refine TW.region ?_
          refine TO.y (Y.move rfl) rfl rfl rfl ?_
          refine TO.y (Y.load_box (v := .agg #[.int .i64 f.No, .int .i64 f.Level, strV f.Lo, strV f.Hi]) 0 kk91 rfl rfl rfl) rfl rfl rfl ?_
          refine TO.ef (Ef.buildSlice (α := File) (Vs := [.agg #[.int .i64 f.No, .int .i64 f.Level, strV f.Lo, strV f.Hi]]) [f] ke49 kz91 rfl rfl rfl rfl rfl) rfl rfl rfl (fun B37 => ?_)
          refine TO.bind fun E39 H40 => ?_
          refine TO.ef (Ef.append (α := File) (is' := [.own (.slice (some ⟨B37, 0, none⟩) 1 1) (lc ([f])), .box B1 91 [.int .i64 f.No, .int .i64 f.Level, strV f.Lo, strV f.Hi]]) [2, 0, 0] H40 ke49 kz91 rfl rfl rfl rfl rfl (Can.own 0 rfl)) rfl rfl rfl (fun V38 => ?_)
          refine TO.y (Y.assign rfl) rfl rfl rfl ?_
          refine TO.nil ?_
          exact TE.jn_go V38 [0] ⟨rfl, rfl, trivial⟩ rfl
        · refine TW.skip ?_
          exact TE.jn_go X11 [1] ⟨rfl, rfl, trivial⟩ rfl
      · refine TE.next ?_
        refine TW.seq ?_
        refine TW.seq ?_
        refine TW.region ?_
        refine TO.y (Y.move rfl) rfl rfl rfl ?_
        refine TO.bind fun R41 H42 => ?_
        refine TO.ef (Ef.call (rest := [.own X35 (lc T34)]) [0] (spec_FilesOk_con T34 X35 R41 H42) kc55 rfl rfl ⟨(Can.own 0 rfl), trivial⟩) rfl rfl rfl (fun _ => ?_)
        refine TO.y (Y.not rfl) rfl rfl rfl ?_
        refine TO.nil ?_
        refine TE.next ?_
        refine TW.cond rfl (fun H44 => ?_) (fun H44 => ?_)
        · refine TW.seq ?_
          refine TW.region ?_
          refine TO.ef (Ef.buildSlice (α := File) (Vs := []) ([] : List File) ke49 kz91 rfl rfl rfl rfl rfl) rfl rfl rfl (fun B45 => ?_)
          refine TO.y (Y.move rfl) rfl rfl rfl ?_
          refine TO.bind fun E47 H48 => ?_
          refine TO.ef (Ef.append (α := File) (is' := [.own X35 (lc T34)]) [0, 0] H48 ke49 kz91 rfl rfl rfl rfl rfl (Base.can HB_V_l0)) rfl rfl rfl (fun V46 => ?_)
          refine TO.y (Y.assign rfl) rfl rfl rfl ?_
          refine TO.y (Y.assign rfl) rfl rfl rfl ?_
          refine TO.nil ?_
          refine TE.next ?_
          refine TW.ret ?_
          refine TE.then_ret ?_
          exact TE.leaf fun _ _ hf_ hs_ => ret_any (rs := [.tmp 4, .tmp 5]) (vs := [V46, .bool false]) (.inl rfl) rfl ⟨rfl, ⟨rfl, trivial⟩⟩ hf_ hs_ ⟨V46, rfl, hs_.pulls [0] rfl⟩
        · refine TW.skip ?_
          refine TE.next ?_
          refine TW.seq ?_
          refine TW.region ?_
          refine TO.y (Y.move rfl) rfl rfl rfl ?_
          refine TO.y (Y.assign rfl) rfl rfl rfl ?_
          refine TO.y (Y.assign rfl) rfl rfl rfl ?_
          refine TO.nil ?_
          refine TE.next ?_
          refine TW.ret ?_
          exact TE.leaf fun _ _ hf_ hs_ => ret_any (rs := [.tmp 4, .tmp 5]) (vs := [X35, .bool true]) (.inl rfl) rfl ⟨rfl, ⟨rfl, trivial⟩⟩ hf_ hs_ ⟨X35, rfl, hs_.pulls [0] rfl⟩

/-- loop.example/g00950/spec.EditFiles -/
noncomputable def spec_EditFiles (l : List File) (e : Edit) : Option (List File × Bool) :=
  (spec_FilesOk l).bind fun R2 =>
  if (!R2) = true then (some (([] : List File), false))
  else ((app 48 ([] : List File) l).bind fun E9 =>
  bindC (loopO (fun (S11 : Int × List File) => if (decide (S11.1 < ((e.Drop.length : Nat) : Int))) = true then ((idx e.Drop S11.1).bind fun E16 =>
  (spec_FilesDrop S11.2 E16).bind fun R18 =>
  if (!R18.2) = true then (some (.done (.done (E9, false))))
  else (some (.go (IntKind.i64.wrap (S11.1 + (1 : Int)), R18.1))))
  else (some (.done (.go S11.2))))
  ((0 : Int), E9))
  (fun (T13 : List File) => bindC (loopO (fun (S24 : Int × List File) => if (decide (S24.1 < ((e.Add.length : Nat) : Int))) = true then ((idx e.Add S24.1).bind fun E29 =>
  (spec_FilesAdd S24.2 E29).bind fun R31 =>
  if (!R31.2) = true then (some (.done (.done (E9, false))))
  else (some (.go (IntKind.i64.wrap (S24.1 + (1 : Int)), R31.1))))
  else (some (.done (.go S24.2))))
  ((0 : Int), T13))
  (fun (T26 : List File) => some (T26, true))))

theorem spec_EditFiles_con (l : List File) (e : Edit) (V_l0 : Value) (V_e0 : Value) (V_e1 : Value) (r : List File × Bool) (hm : spec_EditFiles l e = some r) :
    Con Try.prog 18 [V_l0, .agg #[V_e0, V_e1]] [] [(V_l0, lc l), (V_e0, lc e.Add), (V_e1, lc e.Drop)] (fun X : Value => .tuple #[X, .bool r.2]) (fun X => [.own X (lc r.1)]) := by
  refine Con.intro (args := [V_l0, .agg #[V_e0, V_e1]]) (n := 67) (val := fun r (X : Value) => .tuple #[X, .bool r.2]) (post := fun r X => [.own X (lc r.1)]) (m := spec_EditFiles l e) Try.func18 rfl rfl rfl hm ?_
  intro w S hrd
  have HB_V_l0 := hrd _ (.head _)
  have HB_V_e0 := hrd _ (.tail _ (.head _))
  have HB_V_e1 := hrd _ (.tail _ (.tail _ (.head _)))
  clear hrd
  unfold spec_EditFiles
  refine TW.seq ?_
  refine TW.region ?_
  refine TO.ef (Ef.box rfl (Cel.agg ⟨(One.can (Base.can HB_V_e0)), (One.can (Base.can HB_V_e1)), trivial⟩)) rfl rfl rfl (fun B1 => ?_)
  refine TO.y (Y.assign rfl) rfl rfl rfl ?_
  refine TO.y (Y.assign rfl) rfl rfl rfl ?_
  refine TO.nil ?_
  refine TE.next ?_
  refine TW.seq ?_
  refine TW.seq ?_
  refine TW.region ?_
  refine TO.y (Y.move rfl) rfl rfl rfl ?_
  refine TO.bind fun R2 H3 => ?_
  refine TO.ef (Ef.call (rest := [.box B1 54 [V_e0, V_e1]]) [0] (spec_FilesOk_con l V_l0 R2 H3) kc55 rfl rfl ⟨(Base.can HB_V_l0), trivial⟩) rfl rfl rfl (fun _ => ?_)
  refine TO.y (Y.not rfl) rfl rfl rfl ?_
  refine TO.nil ?_
  refine TE.next ?_
  refine TW.cond rfl (fun H5 => ?_) (fun H5 => ?_)
  · refine TW.seq ?_
    refine TW.region ?_
    refine TO.ef (Ef.buildSlice (α := File) (Vs := []) ([] : List File) ke49 kz91 rfl rfl rfl rfl rfl) rfl rfl rfl (fun B6 => ?_)
    refine TO.y (Y.assign rfl) rfl rfl rfl ?_
    refine TO.y (Y.assign rfl) rfl rfl rfl ?_
    refine TO.nil ?_
    refine TE.next ?_
    refine TW.ret ?_
    refine TE.then_ret ?_
    exact TE.leaf fun _ _ hf_ hs_ => ret_any (rs := [.tmp 4, .tmp 5]) (vs := [.slice (some ⟨B6, 0, none⟩) 0 0, .bool false]) (.inl rfl) rfl ⟨rfl, ⟨rfl, trivial⟩⟩ hf_ hs_ ⟨(.slice (some ⟨B6, 0, none⟩) 0 0), rfl, hs_.pulls [0] rfl⟩
  · refine TW.skip ?_
    refine TE.next ?_
    refine TW.seq ?_
    refine TW.region ?_
    refine TO.ef (Ef.buildSlice (α := File) (Vs := []) ([] : List File) ke49 kz91 rfl rfl rfl rfl rfl) rfl rfl rfl (fun B7 => ?_)
    refine TO.y (Y.move rfl) rfl rfl rfl ?_
    refine TO.bind fun E9 H10 => ?_
    refine TO.ef (Ef.append (α := File) (is' := [.box B1 54 [V_e0, V_e1]]) [0, 0] H10 ke49 kz91 rfl rfl rfl rfl rfl (Base.can HB_V_l0)) rfl rfl rfl (fun V8 => ?_)
    refine TO.y (Y.assign rfl) rfl rfl rfl ?_
    refine TO.nil ?_
    refine TE.next ?_
    refine TW.seq ?_
    refine TW.seq ?_
    refine TW.region ?_
    refine TO.y (Y.assign rfl) rfl rfl rfl ?_
    refine TO.nil ?_
    refine TE.next ?_
    refine TW.joinX (τ := List File) (X := Value) (fun _ X => [(0, V_l0), (3, .pointer (some ⟨B1, 0, none⟩)), (6, X)]) (fun T X => [.box B1 54 [V_e0, V_e1], .own X (lc T)]) ?_ (fun T13 X14 => ?_)
    · refine TW.block ?_
      refine TW.loopX (σ := Int × List File) (X := Value) (fun T X => [(0, V_l0), (3, .pointer (some ⟨B1, 0, none⟩)), (6, X), (7, .int .i64 T.1)]) (fun T X => [.box B1 54 [V_e0, V_e1], .own X (lc T.2)]) V8 [1, 0] ⟨rfl, rfl, rfl, rfl, trivial⟩ rfl (fun S11 X12 => ?_)
      refine TW.seq ?_
      refine TW.seq ?_
      refine TW.region ?_
      refine TO.y (Y.move rfl) rfl rfl rfl ?_
      refine TO.y (Y.field_box kf54_1 rfl rfl) rfl rfl rfl ?_
      refine TO.y (Y.load_box (v := V_e1) 0 kk24 rfl rfl rfl) rfl rfl rfl ?_
      refine TO.y (Y.len (l := e.Drop) ke24 (Base.can HB_V_e1) rfl) rfl rfl rfl ?_
      refine TO.y (Y.lss rfl rfl) rfl rfl rfl ?_
      refine TO.nil ?_
      refine TE.next ?_
      refine TW.cond rfl (fun H15 => ?_) (fun H15 => ?_)
      · refine TW.skip ?_
        refine TE.next ?_
        refine TW.seq ?_
        refine TW.block ?_
        refine TW.seq ?_
        refine TW.region ?_
        refine TO.y (Y.move rfl) rfl rfl rfl ?_
        refine TO.y (Y.field_box kf54_1 rfl rfl) rfl rfl rfl ?_
        refine TO.y (Y.load_box (v := V_e1) 0 kk24 rfl rfl rfl) rfl rfl rfl ?_
        refine TO.y (Y.move rfl) rfl rfl rfl ?_
        refine TO.bind fun E16 H17 => ?_
        refine TO.y (Y.index ke24 (Base.can HB_V_e1) H17 rfl rfl) rfl rfl rfl ?_
        refine TO.y (Y.load_el (us := [.int .i64 E16]) (u := .int .i64 E16) kk3 rfl (Base.can HB_V_e1) (idx_get H17).2.2 rfl rfl rfl rfl rfl) rfl rfl rfl ?_
        refine TO.bind fun R18 H19 => ?_
        refine TO.ef (Ef.call (rest := [.box B1 54 [V_e0, V_e1], .own X12 (lc S11.2)]) [0, 0] (spec_FilesDrop_con S11.2 E16 X12 R18 H19) kc56 rfl rfl ⟨(Can.own 1 rfl), trivial⟩) rfl rfl rfl (fun Y20 => ?_)
        refine TO.y (Y.move rfl) rfl rfl rfl ?_
        refine TO.y (Y.extract rfl rfl) rfl rfl rfl ?_
        refine TO.y (Y.extract rfl rfl) rfl rfl rfl ?_
        refine TO.y (Y.assign rfl) rfl rfl rfl ?_
        refine TO.y (Y.assign rfl) rfl rfl rfl ?_
        refine TO.nil ?_
        refine TE.next ?_
        refine TW.seq ?_
        refine TW.seq ?_
        refine TW.region ?_
        refine TO.y (Y.move rfl) rfl rfl rfl ?_
        refine TO.y (Y.not rfl) rfl rfl rfl ?_
        refine TO.nil ?_
        refine TE.next ?_
        refine TW.cond rfl (fun H21 => ?_) (fun H21 => ?_)
        · refine TW.seq ?_
          refine TW.region ?_
          refine TO.ef (Ef.buildSlice (α := File) (Vs := []) ([] : List File) ke49 kz91 rfl rfl rfl rfl rfl) rfl rfl rfl (fun B22 => ?_)
          refine TO.y (Y.move rfl) rfl rfl rfl ?_
          refine TO.ef (Ef.append (α := File) (is' := [.own Y20 (lc R18.1), .box B1 54 [V_e0, V_e1], .own X12 (lc S11.2)]) [0, 0, 0, 0] H10 ke49 kz91 rfl rfl rfl rfl rfl (Base.can HB_V_l0)) rfl rfl rfl (fun V23 => ?_)
          refine TO.y (Y.assign rfl) rfl rfl rfl ?_
          refine TO.y (Y.assign rfl) rfl rfl rfl ?_
          refine TO.nil ?_
          refine TE.next ?_
          refine TW.ret ?_
          refine TE.then_ret ?_
          refine TE.block_ret ?_
          refine TE.then_ret ?_
          refine TE.lp_ret ?_
          refine TE.block_ret ?_
          refine TE.jn_done ?_
          refine TE.then_ret ?_
          exact TE.leaf fun _ _ hf_ hs_ => ret_any (rs := [.tmp 4, .tmp 5]) (vs := [V23, .bool false]) (.inl rfl) rfl ⟨rfl, ⟨rfl, trivial⟩⟩ hf_ hs_ ⟨V23, rfl, hs_.pulls [0] rfl⟩
        · refine TW.skip ?_
          refine TE.next ?_
          refine TW.region ?_
          refine TO.y (Y.move rfl) rfl rfl rfl ?_
          refine TO.y (Y.assign rfl) rfl rfl rfl ?_
          refine TO.nil ?_
          refine TE.block_normal ?_
          refine TE.next ?_
          refine TW.region ?_
          refine TO.y (Y.move rfl) rfl rfl rfl ?_
          refine TO.y (Y.add rfl rfl) rfl rfl rfl ?_
          refine TO.y (Y.assign rfl) rfl rfl rfl ?_
          refine TO.nil ?_
          exact TE.lp_go Y20 [1, 0] ⟨rfl, rfl, rfl, rfl, trivial⟩ rfl
      · refine TW.exit ?_
        refine TE.then_exit ?_
        refine TE.lp_exit ?_
        refine TE.block_exit ?_
        exact TE.jn_go X12 [0, 0] ⟨rfl, rfl, rfl, trivial⟩ rfl
    · refine TE.next ?_
      refine TW.seq ?_
      refine TW.seq ?_
      refine TW.region ?_
      refine TO.y (Y.assign rfl) rfl rfl rfl ?_
      refine TO.nil ?_
      refine TE.next ?_
      refine TW.joinX (τ := List File) (X := Value) (fun _ X => [(6, X)]) (fun T X => [.own X (lc T)]) ?_ (fun T26 X27 => ?_)
      · refine TW.block ?_
        refine TW.loopX (σ := Int × List File) (X := Value) (fun T X => [(0, V_l0), (3, .pointer (some ⟨B1, 0, none⟩)), (6, X), (10, .int .i64 T.1)]) (fun T X => [.box B1 54 [V_e0, V_e1], .own X (lc T.2)]) X14 [0, 0] ⟨rfl, rfl, rfl, rfl, trivial⟩ rfl (fun S24 X25 => ?_)
        refine TW.seq ?_
        refine TW.seq ?_
        refine TW.region ?_
        refine TO.y (Y.move rfl) rfl rfl rfl ?_
        refine TO.y (Y.field_box kf54_0 rfl rfl) rfl rfl rfl ?_
        refine TO.y (Y.load_box (v := V_e0) 0 kk49 rfl rfl rfl) rfl rfl rfl ?_
        refine TO.y (Y.len (l := e.Add) ke49 (Base.can HB_V_e0) rfl) rfl rfl rfl ?_
        refine TO.y (Y.lss rfl rfl) rfl rfl rfl ?_
        refine TO.nil ?_
        refine TE.next ?_
        refine TW.cond rfl (fun H28 => ?_) (fun H28 => ?_)
        · refine TW.skip ?_
          refine TE.next ?_
          refine TW.seq ?_
          refine TW.block ?_
          refine TW.seq ?_
          refine TW.region ?_
          refine TO.y (Y.move rfl) rfl rfl rfl ?_
          refine TO.y (Y.field_box kf54_0 rfl rfl) rfl rfl rfl ?_
          refine TO.y (Y.load_box (v := V_e0) 0 kk49 rfl rfl rfl) rfl rfl rfl ?_
          refine TO.y (Y.move rfl) rfl rfl rfl ?_
          refine TO.bind fun E29 H30 => ?_
          refine TO.y (Y.index ke49 (Base.can HB_V_e0) H30 rfl rfl) rfl rfl rfl ?_
          refine TO.y (Y.load_el (us := [.int .i64 E29.No, .int .i64 E29.Level, strV E29.Lo, strV E29.Hi]) (u := .agg #[.int .i64 E29.No, .int .i64 E29.Level, strV E29.Lo, strV E29.Hi]) kk91 rfl (Base.can HB_V_e0) (idx_get H30).2.2 rfl rfl rfl rfl rfl) rfl rfl rfl ?_
          refine TO.bind fun R31 H32 => ?_
          refine TO.ef (Ef.call (rest := [.box B1 54 [V_e0, V_e1], .own X25 (lc S24.2)]) [0, 0] (spec_FilesAdd_con S24.2 E29 X25 R31 H32) kc57 rfl rfl ⟨(Can.own 1 rfl), trivial⟩) rfl rfl rfl (fun Y33 => ?_)
          refine TO.y (Y.move rfl) rfl rfl rfl ?_
          refine TO.y (Y.extract rfl rfl) rfl rfl rfl ?_
          refine TO.y (Y.extract rfl rfl) rfl rfl rfl ?_
          refine TO.y (Y.assign rfl) rfl rfl rfl ?_
          refine TO.y (Y.assign rfl) rfl rfl rfl ?_
          refine TO.nil ?_
          refine TE.next ?_
          refine TW.seq ?_
          refine TW.seq ?_
          refine TW.region ?_
          refine TO.y (Y.move rfl) rfl rfl rfl ?_
          refine TO.y (Y.not rfl) rfl rfl rfl ?_
          refine TO.nil ?_
          refine TE.next ?_
          refine TW.cond rfl (fun H34 => ?_) (fun H34 => ?_)
          · refine TW.seq ?_
            refine TW.region ?_
            refine TO.ef (Ef.buildSlice (α := File) (Vs := []) ([] : List File) ke49 kz91 rfl rfl rfl rfl rfl) rfl rfl rfl (fun B35 => ?_)
            refine TO.y (Y.move rfl) rfl rfl rfl ?_
            refine TO.ef (Ef.append (α := File) (is' := [.own Y33 (lc R31.1), .box B1 54 [V_e0, V_e1], .own X25 (lc S24.2)]) [0, 0, 0, 0] H10 ke49 kz91 rfl rfl rfl rfl rfl (Base.can HB_V_l0)) rfl rfl rfl (fun V36 => ?_)
            refine TO.y (Y.assign rfl) rfl rfl rfl ?_
            refine TO.y (Y.assign rfl) rfl rfl rfl ?_
            refine TO.nil ?_
            refine TE.next ?_
            refine TW.ret ?_
            refine TE.then_ret ?_
            refine TE.block_ret ?_
            refine TE.then_ret ?_
            refine TE.lp_ret ?_
            refine TE.block_ret ?_
            refine TE.jn_done ?_
            refine TE.then_ret ?_
            exact TE.leaf fun _ _ hf_ hs_ => ret_any (rs := [.tmp 4, .tmp 5]) (vs := [V36, .bool false]) (.inl rfl) rfl ⟨rfl, ⟨rfl, trivial⟩⟩ hf_ hs_ ⟨V36, rfl, hs_.pulls [0] rfl⟩
          · refine TW.skip ?_
            refine TE.next ?_
            refine TW.region ?_
            refine TO.y (Y.move rfl) rfl rfl rfl ?_
            refine TO.y (Y.assign rfl) rfl rfl rfl ?_
            refine TO.nil ?_
            refine TE.block_normal ?_
            refine TE.next ?_
            refine TW.region ?_
            refine TO.y (Y.move rfl) rfl rfl rfl ?_
            refine TO.y (Y.add rfl rfl) rfl rfl rfl ?_
            refine TO.y (Y.assign rfl) rfl rfl rfl ?_
            refine TO.nil ?_
            exact TE.lp_go Y33 [1, 0] ⟨rfl, rfl, rfl, rfl, trivial⟩ rfl
        · refine TW.exit ?_
          refine TE.then_exit ?_
          refine TE.lp_exit ?_
          refine TE.block_exit ?_
          exact TE.jn_go X25 [1] ⟨rfl, trivial⟩ rfl
      · refine TE.next ?_
        refine TW.seq ?_
        refine TW.region ?_
        refine TO.y (Y.move rfl) rfl rfl rfl ?_
        refine TO.y (Y.assign rfl) rfl rfl rfl ?_
        refine TO.y (Y.assign rfl) rfl rfl rfl ?_
        refine TO.nil ?_
        refine TE.next ?_
        refine TW.ret ?_
        exact TE.leaf fun _ _ hf_ hs_ => ret_any (rs := [.tmp 4, .tmp 5]) (vs := [X27, .bool true]) (.inl rfl) rfl ⟨rfl, ⟨rfl, trivial⟩⟩ hf_ hs_ ⟨X27, rfl, hs_.pulls [0] rfl⟩

/-- loop.example/g00950/impl.inRange -/
noncomputable def impl_inRange (n : Int) (least : Int) (most : Int) : Option Bool :=
  (if (decide (n ≥ least)) = true then (some (decide (n ≤ most)))
  else (some false)).bind (fun (T1 : Bool) =>
  some T1)

theorem impl_inRange_con (n : Int) (least : Int) (most : Int)  (r : Bool) (hm : impl_inRange n least most = some r) :
    Con Try.prog 74 [.int .i64 n, .int .i64 least, .int .i64 most] [] [] (fun _ : Unit => .bool r) (fun _ => []) := by
  refine Con.intro (args := [.int .i64 n, .int .i64 least, .int .i64 most]) (n := 15) (val := fun r (_ : Unit) => .bool r) (post := fun _ _ => []) (m := impl_inRange n least most) Try.func74 rfl rfl rfl hm ?_
  intro w S _
  unfold impl_inRange
  refine TW.seq ?_
  refine TW.region ?_
  refine TO.y (Y.assign rfl) rfl rfl rfl ?_
  refine TO.nil ?_
  refine TE.next ?_
  refine TW.seq ?_
  refine TW.joinBX (τ := Bool) (X := Unit) (fun T _ => [(6, .bool T)]) (fun _ _ => []) ?_ (fun T1 X2 => ?_)
  · refine TW.region ?_
    refine TO.y (Y.move rfl) rfl rfl rfl ?_
    refine TO.y (Y.move rfl) rfl rfl rfl ?_
    refine TO.y (Y.geq rfl rfl) rfl rfl rfl ?_
    refine TO.y (Y.move rfl) rfl rfl rfl ?_
    refine TO.ite (b := decide (n ≥ least)) (fun H3 => ?_) (fun H3 => ?_)
    · refine TO.y (Y.move rfl) (Gd.at 3 true 10 (decide (n ≥ least)) rfl rfl rfl (beq_tt H3)) rfl rfl ?_
      refine TO.y (Y.move rfl) (Gd.at 3 true 10 (decide (n ≥ least)) rfl rfl rfl (beq_tt H3)) rfl rfl ?_
      refine TO.y (Y.leq rfl rfl) (Gd.at 3 true 10 (decide (n ≥ least)) rfl rfl rfl (beq_tt H3)) rfl rfl ?_
      refine TO.y (Y.pick_t H3 rfl rfl) rfl rfl rfl ?_
      refine TO.y (Y.assign rfl) rfl rfl rfl ?_
      refine TO.nil ?_
      exact TE.jb_go () [] ⟨rfl, trivial⟩ rfl
    · refine TO.off (Gd.at 3 true 10 (decide (n ≥ least)) rfl rfl rfl (beq_ft H3)) rfl rfl ?_
      refine TO.off (Gd.at 3 true 10 (decide (n ≥ least)) rfl rfl rfl (beq_ft H3)) rfl rfl ?_
      refine TO.off (Gd.at 3 true 10 (decide (n ≥ least)) rfl rfl rfl (beq_ft H3)) rfl rfl ?_
      refine TO.y (Y.pick_f H3 rfl rfl) rfl rfl rfl ?_
      refine TO.y (Y.assign rfl) rfl rfl rfl ?_
      refine TO.nil ?_
      exact TE.jb_go () [] ⟨rfl, trivial⟩ rfl
  · refine TE.next ?_
    refine TW.ret ?_
    exact TE.leaf fun _ _ hf_ hs_ => ret_any (rs := [.tmp 6]) (vs := [.bool T1]) (.inl rfl) rfl ⟨rfl, trivial⟩ hf_ hs_ ⟨(), rfl, hs_.pulls [] rfl⟩

/-- loop.example/g00950/impl.isKey -/
noncomputable def impl_isKey (s : List UInt8) : Option Bool :=
  (impl_inRange ((s.length : Nat) : Int) (1 : Int) (10 : Int)).bind fun R1 =>
  some R1

theorem impl_isKey_con (s : List UInt8)  (r : Bool) (hm : impl_isKey s = some r) :
    Con Try.prog 77 [strV s] [] [] (fun _ : Unit => .bool r) (fun _ => []) := by
  refine Con.intro (args := [strV s]) (n := 6) (val := fun r (_ : Unit) => .bool r) (post := fun _ _ => []) (m := impl_isKey s) Try.func77 rfl rfl rfl hm ?_
  intro w S _
  unfold impl_isKey
  refine TW.seq ?_
  refine TW.region ?_
  refine TO.y (Y.assign rfl) rfl rfl rfl ?_
  refine TO.nil ?_
  refine TE.next ?_
  refine TW.seq ?_
  refine TW.region ?_
  refine TO.y (Y.move rfl) rfl rfl rfl ?_
  refine TO.y (Y.slen ks9 rfl) rfl rfl rfl ?_
  refine TO.bind fun R1 H2 => ?_
  refine TO.ef (Ef.call (rest := []) [] (impl_inRange_con ((s.length : Nat) : Int) (1 : Int) (10 : Int)  R1 H2) kc74 rfl rfl trivial) rfl rfl rfl (fun _ => ?_)
  refine TO.y (Y.assign rfl) rfl rfl rfl ?_
  refine TO.nil ?_
  refine TE.next ?_
  refine TW.ret ?_
  exact TE.leaf fun _ _ hf_ hs_ => ret_any (rs := [.tmp 2]) (vs := [.bool R1]) (.inl rfl) rfl ⟨rfl, trivial⟩ hf_ hs_ ⟨(), rfl, hs_.pulls [] rfl⟩

/-- loop.example/g00950/impl.fileOk -/
noncomputable def impl_fileOk (f : File) : Option Bool :=
  ((impl_inRange f.No (1 : Int) (1000000 : Int)).bind fun R4 =>
  if R4 = true then ((impl_inRange f.Level (0 : Int) (2 : Int)).bind fun R8 =>
  if R8 = true then ((impl_isKey f.Lo).bind fun R12 =>
  if R12 = true then ((impl_isKey f.Hi).bind fun R16 =>
  if R16 = true then (some (sLt f.Lo f.Hi || decide (f.Lo = f.Hi)))
  else (some false))
  else (some false))
  else (some false))
  else (some false)).bind (fun (T2 : Bool) =>
  some T2)

theorem impl_fileOk_con (f : File)  (r : Bool) (hm : impl_fileOk f = some r) :
    Con Try.prog 86 [.agg #[.int .i64 f.No, .int .i64 f.Level, strV f.Lo, strV f.Hi]] [] [] (fun _ : Unit => .bool r) (fun _ => []) := by
  refine Con.intro (args := [.agg #[.int .i64 f.No, .int .i64 f.Level, strV f.Lo, strV f.Hi]]) (n := 28) (val := fun r (_ : Unit) => .bool r) (post := fun _ _ => []) (m := impl_fileOk f) Try.func86 rfl rfl rfl hm ?_
  intro w S _
  unfold impl_fileOk
  refine TW.seq ?_
  refine TW.region ?_
  refine TO.ef (Ef.box rfl (Cel.plain rfl rfl)) rfl rfl rfl (fun B1 => ?_)
  refine TO.y (Y.assign rfl) rfl rfl rfl ?_
  refine TO.nil ?_
  refine TE.next ?_
  refine TW.seq ?_
  refine TW.joinBX (τ := Bool) (X := Unit) (fun T _ => [(2, .bool T)]) (fun _ _ => []) ?_ (fun T2 X3 => ?_)
  · refine TW.region ?_
    refine TO.y (Y.field_box kf91_0 rfl rfl) rfl rfl rfl ?_
    refine TO.y (Y.load_box (v := .int .i64 f.No) 0 kk3 rfl rfl rfl) rfl rfl rfl ?_
    refine TO.bind fun R4 H5 => ?_
    refine TO.ef (Ef.call (rest := [.box B1 91 [.int .i64 f.No, .int .i64 f.Level, strV f.Lo, strV f.Hi]]) [0] (impl_inRange_con f.No (1 : Int) (1000000 : Int)  R4 H5) kc74 rfl rfl trivial) rfl rfl rfl (fun _ => ?_)
    refine TO.y (Y.move rfl) rfl rfl rfl ?_
    refine TO.ite (b := R4) (fun H7 => ?_) (fun H7 => ?_)
    · refine TO.y (Y.field_box kf91_1 rfl rfl) (Gd.at 3 true 6 R4 rfl rfl rfl (beq_tt H7)) rfl rfl ?_
      refine TO.y (Y.load_box (v := .int .i64 f.Level) 0 kk3 rfl rfl rfl) (Gd.at 3 true 6 R4 rfl rfl rfl (beq_tt H7)) rfl rfl ?_
      refine TO.bind fun R8 H9 => ?_
      refine TO.ef (Ef.call (rest := [.box B1 91 [.int .i64 f.No, .int .i64 f.Level, strV f.Lo, strV f.Hi]]) [0] (impl_inRange_con f.Level (0 : Int) (2 : Int)  R8 H9) kc74 rfl rfl trivial) (Gd.at 3 true 6 R4 rfl rfl rfl (beq_tt H7)) rfl rfl (fun _ => ?_)
      refine TO.y (Y.pick_t H7 rfl rfl) rfl rfl rfl ?_
      refine TO.y (Y.move rfl) rfl rfl rfl ?_
      refine TO.ite (b := R8) (fun H11 => ?_) (fun H11 => ?_)
      · refine TO.y (Y.field_box kf91_2 rfl rfl) (Gd.at 8 true 11 R8 rfl rfl rfl (beq_tt H11)) rfl rfl ?_
        refine TO.y (Y.load_box (v := strV f.Lo) 0 kk9 rfl rfl rfl) (Gd.at 8 true 11 R8 rfl rfl rfl (beq_tt H11)) rfl rfl ?_
        refine TO.bind fun R12 H13 => ?_
        refine TO.ef (Ef.call (rest := [.box B1 91 [.int .i64 f.No, .int .i64 f.Level, strV f.Lo, strV f.Hi]]) [0] (impl_isKey_con f.Lo  R12 H13) kc77 rfl rfl trivial) (Gd.at 8 true 11 R8 rfl rfl rfl (beq_tt H11)) rfl rfl (fun _ => ?_)
        refine TO.y (Y.pick_t H11 rfl rfl) rfl rfl rfl ?_
        refine TO.y (Y.move rfl) rfl rfl rfl ?_
        refine TO.ite (b := R12) (fun H15 => ?_) (fun H15 => ?_)
        · refine TO.y (Y.field_box kf91_3 rfl rfl) (Gd.at 13 true 16 R12 rfl rfl rfl (beq_tt H15)) rfl rfl ?_
          refine TO.y (Y.load_box (v := strV f.Hi) 0 kk9 rfl rfl rfl) (Gd.at 13 true 16 R12 rfl rfl rfl (beq_tt H15)) rfl rfl ?_
          refine TO.bind fun R16 H17 => ?_
          refine TO.ef (Ef.call (rest := [.box B1 91 [.int .i64 f.No, .int .i64 f.Level, strV f.Lo, strV f.Hi]]) [0] (impl_isKey_con f.Hi  R16 H17) kc77 rfl rfl trivial) (Gd.at 13 true 16 R12 rfl rfl rfl (beq_tt H15)) rfl rfl (fun _ => ?_)
          refine TO.y (Y.pick_t H15 rfl rfl) rfl rfl rfl ?_
          refine TO.y (Y.move rfl) rfl rfl rfl ?_
          refine TO.ite (b := R16) (fun H19 => ?_) (fun H19 => ?_)
          · refine TO.y (Y.field_box kf91_2 rfl rfl) (Gd.at 18 true 21 R16 rfl rfl rfl (beq_tt H19)) rfl rfl ?_
            refine TO.y (Y.load_box (v := strV f.Lo) 0 kk9 rfl rfl rfl) (Gd.at 18 true 21 R16 rfl rfl rfl (beq_tt H19)) rfl rfl ?_
            refine TO.y (Y.field_box kf91_3 rfl rfl) (Gd.at 18 true 21 R16 rfl rfl rfl (beq_tt H19)) rfl rfl ?_
            refine TO.y (Y.load_box (v := strV f.Hi) 0 kk9 rfl rfl rfl) (Gd.at 18 true 21 R16 rfl rfl rfl (beq_tt H19)) rfl rfl ?_
            refine TO.y (Y.sleq rfl rfl) (Gd.at 18 true 21 R16 rfl rfl rfl (beq_tt H19)) rfl rfl ?_
            refine TO.y (Y.pick_t H19 rfl rfl) rfl rfl rfl ?_
            refine TO.y (Y.assign rfl) rfl rfl rfl ?_
            refine TO.nil ?_
            exact TE.jb_go () [] ⟨rfl, trivial⟩ rfl
          · refine TO.off (Gd.at 18 true 21 R16 rfl rfl rfl (beq_ft H19)) rfl rfl ?_
            refine TO.off (Gd.at 18 true 21 R16 rfl rfl rfl (beq_ft H19)) rfl rfl ?_
            refine TO.off (Gd.at 18 true 21 R16 rfl rfl rfl (beq_ft H19)) rfl rfl ?_
            refine TO.off (Gd.at 18 true 21 R16 rfl rfl rfl (beq_ft H19)) rfl rfl ?_
            refine TO.off (Gd.at 18 true 21 R16 rfl rfl rfl (beq_ft H19)) rfl rfl ?_
            refine TO.y (Y.pick_f H19 rfl rfl) rfl rfl rfl ?_
            refine TO.y (Y.assign rfl) rfl rfl rfl ?_
            refine TO.nil ?_
            exact TE.jb_go () [] ⟨rfl, trivial⟩ rfl
        · refine TO.off (Gd.at 13 true 16 R12 rfl rfl rfl (beq_ft H15)) rfl rfl ?_
          refine TO.off (Gd.at 13 true 16 R12 rfl rfl rfl (beq_ft H15)) rfl rfl ?_
          refine TO.off (Gd.at 13 true 16 R12 rfl rfl rfl (beq_ft H15)) rfl rfl ?_
          refine TO.y (Y.pick_f H15 rfl rfl) rfl rfl rfl ?_
          refine TO.y (Y.move rfl) rfl rfl rfl ?_
          refine TO.off (Gd.at 18 true 21 false rfl rfl rfl rfl) rfl rfl ?_
          refine TO.off (Gd.at 18 true 21 false rfl rfl rfl rfl) rfl rfl ?_
          refine TO.off (Gd.at 18 true 21 false rfl rfl rfl rfl) rfl rfl ?_
          refine TO.off (Gd.at 18 true 21 false rfl rfl rfl rfl) rfl rfl ?_
          refine TO.off (Gd.at 18 true 21 false rfl rfl rfl rfl) rfl rfl ?_
          refine TO.y (Y.pick_f rfl rfl rfl) rfl rfl rfl ?_
          refine TO.y (Y.assign rfl) rfl rfl rfl ?_
          refine TO.nil ?_
          exact TE.jb_go () [] ⟨rfl, trivial⟩ rfl
      · refine TO.off (Gd.at 8 true 11 R8 rfl rfl rfl (beq_ft H11)) rfl rfl ?_
        refine TO.off (Gd.at 8 true 11 R8 rfl rfl rfl (beq_ft H11)) rfl rfl ?_
        refine TO.off (Gd.at 8 true 11 R8 rfl rfl rfl (beq_ft H11)) rfl rfl ?_
        refine TO.y (Y.pick_f H11 rfl rfl) rfl rfl rfl ?_
        refine TO.y (Y.move rfl) rfl rfl rfl ?_
        refine TO.off (Gd.at 13 true 16 false rfl rfl rfl rfl) rfl rfl ?_
        refine TO.off (Gd.at 13 true 16 false rfl rfl rfl rfl) rfl rfl ?_
        refine TO.off (Gd.at 13 true 16 false rfl rfl rfl rfl) rfl rfl ?_
        refine TO.y (Y.pick_f rfl rfl rfl) rfl rfl rfl ?_
        refine TO.y (Y.move rfl) rfl rfl rfl ?_
        refine TO.off (Gd.at 18 true 21 false rfl rfl rfl rfl) rfl rfl ?_
        refine TO.off (Gd.at 18 true 21 false rfl rfl rfl rfl) rfl rfl ?_
        refine TO.off (Gd.at 18 true 21 false rfl rfl rfl rfl) rfl rfl ?_
        refine TO.off (Gd.at 18 true 21 false rfl rfl rfl rfl) rfl rfl ?_
        refine TO.off (Gd.at 18 true 21 false rfl rfl rfl rfl) rfl rfl ?_
        refine TO.y (Y.pick_f rfl rfl rfl) rfl rfl rfl ?_
        refine TO.y (Y.assign rfl) rfl rfl rfl ?_
        refine TO.nil ?_
        exact TE.jb_go () [] ⟨rfl, trivial⟩ rfl
    · refine TO.off (Gd.at 3 true 6 R4 rfl rfl rfl (beq_ft H7)) rfl rfl ?_
      refine TO.off (Gd.at 3 true 6 R4 rfl rfl rfl (beq_ft H7)) rfl rfl ?_
      refine TO.off (Gd.at 3 true 6 R4 rfl rfl rfl (beq_ft H7)) rfl rfl ?_
      refine TO.y (Y.pick_f H7 rfl rfl) rfl rfl rfl ?_
      refine TO.y (Y.move rfl) rfl rfl rfl ?_
      refine TO.off (Gd.at 8 true 11 false rfl rfl rfl rfl) rfl rfl ?_
      refine TO.off (Gd.at 8 true 11 false rfl rfl rfl rfl) rfl rfl ?_
      refine TO.off (Gd.at 8 true 11 false rfl rfl rfl rfl) rfl rfl ?_
      refine TO.y (Y.pick_f rfl rfl rfl) rfl rfl rfl ?_
      refine TO.y (Y.move rfl) rfl rfl rfl ?_
      refine TO.off (Gd.at 13 true 16 false rfl rfl rfl rfl) rfl rfl ?_
      refine TO.off (Gd.at 13 true 16 false rfl rfl rfl rfl) rfl rfl ?_
      refine TO.off (Gd.at 13 true 16 false rfl rfl rfl rfl) rfl rfl ?_
      refine TO.y (Y.pick_f rfl rfl rfl) rfl rfl rfl ?_
      refine TO.y (Y.move rfl) rfl rfl rfl ?_
      refine TO.off (Gd.at 18 true 21 false rfl rfl rfl rfl) rfl rfl ?_
      refine TO.off (Gd.at 18 true 21 false rfl rfl rfl rfl) rfl rfl ?_
      refine TO.off (Gd.at 18 true 21 false rfl rfl rfl rfl) rfl rfl ?_
      refine TO.off (Gd.at 18 true 21 false rfl rfl rfl rfl) rfl rfl ?_
      refine TO.off (Gd.at 18 true 21 false rfl rfl rfl rfl) rfl rfl ?_
      refine TO.y (Y.pick_f rfl rfl rfl) rfl rfl rfl ?_
      refine TO.y (Y.assign rfl) rfl rfl rfl ?_
      refine TO.nil ?_
      exact TE.jb_go () [] ⟨rfl, trivial⟩ rfl
  · refine TE.next ?_
    refine TW.ret ?_
    exact TE.leaf fun _ _ hf_ hs_ => ret_any (rs := [.tmp 2]) (vs := [.bool T2]) (.inl rfl) rfl ⟨rfl, trivial⟩ hf_ hs_ ⟨(), rfl, hs_.pulls [] rfl⟩

/-- loop.example/g00950/impl.fileAt$1 -/
noncomputable def impl_fileAt_1 (f : File) (c0_ : Int) : Option Bool :=
  some (decide (f.No = c0_))

theorem impl_fileAt_1_con (f : File) (c0_ : Int) (B_c0_ : Nat) (r : Bool) (hm : impl_fileAt_1 f c0_ = some r) :
    Con Try.prog 100 [.agg #[.int .i64 f.No, .int .i64 f.Level, strV f.Lo, strV f.Hi], .pointer (some ⟨B_c0_, 0, none⟩)] [.box B_c0_ 3 [.int .i64 c0_]] [] (fun _ : Unit => .bool r) (fun _ => [.box B_c0_ 3 [.int .i64 c0_]]) := by
  refine Con.intro (args := [.agg #[.int .i64 f.No, .int .i64 f.Level, strV f.Lo, strV f.Hi], .pointer (some ⟨B_c0_, 0, none⟩)]) (n := 8) (val := fun r (_ : Unit) => .bool r) (post := fun _ _ => [.box B_c0_ 3 [.int .i64 c0_]]) (m := impl_fileAt_1 f c0_) Try.func100 rfl rfl rfl hm ?_
  intro w S _
  unfold impl_fileAt_1
  refine TW.seq ?_
  refine TW.region ?_
  refine TO.ef (Ef.box rfl (Cel.plain rfl rfl)) rfl rfl rfl (fun B1 => ?_)
  refine TO.y (Y.assign rfl) rfl rfl rfl ?_
  refine TO.nil ?_
  refine TE.next ?_
  refine TW.seq ?_
  refine TW.region ?_
  refine TO.y (Y.field_box kf91_0 rfl rfl) rfl rfl rfl ?_
  refine TO.y (Y.load_box (v := .int .i64 f.No) 0 kk3 rfl rfl rfl) rfl rfl rfl ?_
  refine TO.y (Y.load_box (v := .int .i64 c0_) 1 kk3 rfl rfl rfl) rfl rfl rfl ?_
  refine TO.y (Y.eql rfl rfl) rfl rfl rfl ?_
  refine TO.y (Y.assign rfl) rfl rfl rfl ?_
  refine TO.nil ?_
  refine TE.next ?_
  refine TW.ret ?_
  exact TE.leaf fun _ _ hf_ hs_ => ret_any (rs := [.tmp 3]) (vs := [.bool (decide (f.No = c0_))]) (.inl rfl) rfl ⟨rfl, trivial⟩ hf_ hs_ ⟨(), rfl, hs_.pulls [1] rfl⟩

/-- slices.IndexFunc[[]loop.example/g00950/impl.File,loop.example/g00950/impl.File] -/
noncomputable def slices_IndexFunc_68810_at_impl_fileAt_1 (s : List File) (f_c0 : Int) : Option Int :=
  bindC (loopO (fun (S1 : Int) => if (decide (S1 < ((s.length : Nat) : Int))) = true then ((idx s S1).bind fun E6 =>
  (impl_fileAt_1 E6 f_c0).bind fun R8 =>
  if R8 = true then (some (.done (.done S1)))
  else (some (.go (IntKind.i64.wrap (S1 + (1 : Int))))))
  else (some (.done (.go ()))))
  (0 : Int))
  (fun (T3 : Unit) => some (-1 : Int))

theorem slices_IndexFunc_68810_at_impl_fileAt_1_con (s : List File) (f_c0 : Int) (V_s0 : Value) (B_f_c0 : Nat) (r : Int) (hm : slices_IndexFunc_68810_at_impl_fileAt_1 s f_c0 = some r) :
    Con Try.prog 99 [V_s0, .func (.func 100) #[] #[.pointer (some ⟨B_f_c0, 0, none⟩)]] [.box B_f_c0 3 [.int .i64 f_c0]] [(V_s0, lc s)] (fun _ : Unit => .int .i64 r) (fun _ => [.box B_f_c0 3 [.int .i64 f_c0]]) := by
  refine Con.intro (args := [V_s0, .func (.func 100) #[] #[.pointer (some ⟨B_f_c0, 0, none⟩)]]) (n := 19) (val := fun r (_ : Unit) => .int .i64 r) (post := fun _ _ => [.box B_f_c0 3 [.int .i64 f_c0]]) (m := slices_IndexFunc_68810_at_impl_fileAt_1 s f_c0) Try.func99 rfl rfl rfl hm ?_
  intro w S hrd
  have HB_V_s0 := hrd _ (.head _)
  clear hrd
  unfold slices_IndexFunc_68810_at_impl_fileAt_1
  refine TW.seq ?_
  refine TW.region ?_
  refine TO.y (Y.assign rfl) rfl rfl rfl ?_
  refine TO.nil ?_
  refine TE.next ?_
  refine TW.seq ?_
  refine TW.seq ?_
  refine TW.region ?_
  refine TO.y (Y.move rfl) rfl rfl rfl ?_
  refine TO.y (Y.len (l := s) ke49 (Base.can HB_V_s0) rfl) rfl rfl rfl ?_
  refine TO.y (Y.move rfl) rfl rfl rfl ?_
  refine TO.nil ?_
  refine TE.next ?_
  refine TW.joinX (τ := Unit) (X := Unit) (fun _ _ => []) (fun _ _ => [.box B_f_c0 3 [.int .i64 f_c0]]) ?_ (fun T3 X4 => ?_)
  · refine TW.block ?_
    refine TW.loopX (σ := Int) (X := Unit) (fun T _ => [(0, V_s0), (1, .func (.func 100) #[] #[.pointer (some ⟨B_f_c0, 0, none⟩)]), (7, .int .i64 ((s.length : Nat) : Int)), (8, .int .i64 T)]) (fun _ _ => [.box B_f_c0 3 [.int .i64 f_c0]]) () [0] ⟨rfl, rfl, rfl, rfl, trivial⟩ rfl (fun S1 X2 => ?_)
    refine TW.seq ?_
    refine TW.region ?_
    refine TO.y (Y.lss rfl rfl) rfl rfl rfl ?_
    refine TO.nil ?_
    refine TE.next ?_
    refine TW.seq ?_
    refine TW.cond rfl (fun H5 => ?_) (fun H5 => ?_)
    · refine TW.skip ?_
      refine TE.next ?_
      refine TW.seq ?_
      refine TW.block ?_
      refine TW.seq ?_
      refine TW.region ?_
      refine TO.y (Y.move rfl) rfl rfl rfl ?_
      refine TO.y (Y.assign rfl) rfl rfl rfl ?_
      refine TO.nil ?_
      refine TE.next ?_
      refine TW.seq ?_
      refine TW.region ?_
      refine TO.y (Y.move rfl) rfl rfl rfl ?_
      refine TO.y (Y.move rfl) rfl rfl rfl ?_
      refine TO.y (Y.move rfl) rfl rfl rfl ?_
      refine TO.bind fun E6 H7 => ?_
      refine TO.y (Y.index ke49 (Base.can HB_V_s0) H7 rfl rfl) rfl rfl rfl ?_
      refine TO.y (Y.load_el (us := [.int .i64 E6.No, .int .i64 E6.Level, strV E6.Lo, strV E6.Hi]) (u := .agg #[.int .i64 E6.No, .int .i64 E6.Level, strV E6.Lo, strV E6.Hi]) kk91 rfl (Base.can HB_V_s0) (idx_get H7).2.2 rfl rfl rfl rfl rfl) rfl rfl rfl ?_
      refine TO.bind fun R8 H9 => ?_
      refine TO.ef (Ef.callv (rest := []) [0] (impl_fileAt_1_con E6 f_c0 B_f_c0 R8 H9) kc100 rfl rfl rfl rfl trivial) rfl rfl rfl (fun _ => ?_)
      refine TO.nil ?_
      refine TE.next ?_
      refine TW.cond rfl (fun H11 => ?_) (fun H11 => ?_)
      · refine TW.seq ?_
        refine TW.region ?_
        refine TO.y (Y.move rfl) rfl rfl rfl ?_
        refine TO.y (Y.assign rfl) rfl rfl rfl ?_
        refine TO.nil ?_
        refine TE.next ?_
        refine TW.ret ?_
        refine TE.block_ret ?_
        refine TE.then_ret ?_
        refine TE.lp_ret ?_
        refine TE.block_ret ?_
        refine TE.jn_done ?_
        refine TE.then_ret ?_
        exact TE.leaf fun _ _ hf_ hs_ => ret_any (rs := [.tmp 4]) (vs := [.int .i64 S1]) (.inl rfl) rfl ⟨rfl, trivial⟩ hf_ hs_ ⟨(), rfl, hs_.pulls [0] rfl⟩
      · refine TW.skip ?_
        refine TE.block_normal ?_
        refine TE.next ?_
        refine TW.region ?_
        refine TO.y (Y.add rfl rfl) rfl rfl rfl ?_
        refine TO.y (Y.move rfl) rfl rfl rfl ?_
        refine TO.nil ?_
        exact TE.lp_go () [0] ⟨rfl, rfl, rfl, rfl, trivial⟩ rfl
    · refine TW.exit ?_
      refine TE.then_exit ?_
      refine TE.lp_exit ?_
      refine TE.block_exit ?_
      exact TE.jn_go () [0] trivial rfl
  · refine TE.next ?_
    refine TW.seq ?_
    refine TW.region ?_
    refine TO.y (Y.assign rfl) rfl rfl rfl ?_
    refine TO.nil ?_
    refine TE.next ?_
    refine TW.ret ?_
    exact TE.leaf fun _ _ hf_ hs_ => ret_any (rs := [.tmp 4]) (vs := [.int .i64 (-1 : Int)]) (.inl rfl) rfl ⟨rfl, trivial⟩ hf_ hs_ ⟨(), rfl, hs_.pulls [0] rfl⟩

/-- loop.example/g00950/impl.fileAt -/
noncomputable def impl_fileAt (l : List File) (no : Int) : Option Int :=
  (slices_IndexFunc_68810_at_impl_fileAt_1 l no).bind fun R2 =>
  some R2

theorem impl_fileAt_con (l : List File) (no : Int) (V_l0 : Value) (r : Int) (hm : impl_fileAt l no = some r) :
    Con Try.prog 87 [V_l0, .int .i64 no] [] [(V_l0, lc l)] (fun _ : Unit => .int .i64 r) (fun _ => []) := by
  refine Con.intro (args := [V_l0, .int .i64 no]) (n := 8) (val := fun r (_ : Unit) => .int .i64 r) (post := fun _ _ => []) (m := impl_fileAt l no) Try.func87 rfl rfl rfl hm ?_
  intro w S hrd
  have HB_V_l0 := hrd _ (.head _)
  clear hrd
  unfold impl_fileAt
  refine TW.seq ?_
  refine TW.region ?_
  refine TO.ef (Ef.box rfl (Cel.plain rfl rfl)) rfl rfl rfl (fun B1 => ?_)
  refine TO.y (Y.assign rfl) rfl rfl rfl ?_
  refine TO.nil ?_
  refine TE.next ?_
  refine TW.seq ?_
  refine TW.region ?_
  refine TO.y (Y.move rfl) rfl rfl rfl ?_
  refine TO.y (Y.makeFunc rfl) rfl rfl rfl ?_
  refine TO.bind fun R2 H3 => ?_
  refine TO.ef (Ef.call (rest := []) [0] (slices_IndexFunc_68810_at_impl_fileAt_1_con l no V_l0 B1 R2 H3) kc99 rfl rfl ⟨(Base.can HB_V_l0), trivial⟩) rfl rfl rfl (fun _ => ?_)
  refine TO.y (Y.assign rfl) rfl rfl rfl ?_
  refine TO.nil ?_
  refine TE.next ?_
  refine TW.ret ?_
  exact TE.leaf fun _ _ hf_ hs_ => ret_any (rs := [.tmp 4]) (vs := [.int .i64 R2]) (.inl rfl) rfl ⟨rfl, trivial⟩ hf_ hs_ ⟨(), rfl, hs_.pulls [] rfl⟩

/-- cmp.isNaN[int] -/
noncomputable def cmp_isNaN_26527 (x : Int) : Option Bool :=
  some (!(decide (x = x)))

theorem cmp_isNaN_26527_con (x : Int)  (r : Bool) (hm : cmp_isNaN_26527 x = some r) :
    Con Try.prog 109 [.int .i64 x] [] [] (fun _ : Unit => .bool r) (fun _ => []) := by
  refine Con.intro (args := [.int .i64 x]) (n := 6) (val := fun r (_ : Unit) => .bool r) (post := fun _ _ => []) (m := cmp_isNaN_26527 x) Try.func109 rfl rfl rfl hm ?_
  intro w S _
  unfold cmp_isNaN_26527
  refine TW.seq ?_
  refine TW.region ?_
  refine TO.y (Y.assign rfl) rfl rfl rfl ?_
  refine TO.nil ?_
  refine TE.next ?_
  refine TW.seq ?_
  refine TW.region ?_
  refine TO.y (Y.move rfl) rfl rfl rfl ?_
  refine TO.y (Y.move rfl) rfl rfl rfl ?_
  refine TO.y (Y.neq rfl rfl) rfl rfl rfl ?_
  refine TO.y (Y.assign rfl) rfl rfl rfl ?_
  refine TO.nil ?_
  refine TE.next ?_
  refine TW.ret ?_
  exact TE.leaf fun _ _ hf_ hs_ => ret_any (rs := [.tmp 2]) (vs := [.bool (!(decide (x = x)))]) (.inl rfl) rfl ⟨rfl, trivial⟩ hf_ hs_ ⟨(), rfl, hs_.pulls [] rfl⟩

/-- cmp.Compare[int] -/
noncomputable def cmp_Compare_26527 (x : Int) (y : Int) : Option Int :=
  (cmp_isNaN_26527 x).bind fun R1 =>
  (cmp_isNaN_26527 y).bind fun R4 =>
  if R1 = true then (if R4 = true then (some (0 : Int))
  else (some (-1 : Int)))
  else (if R4 = true then (some (1 : Int))
  else (if (decide (x < y)) = true then (some (-1 : Int))
  else (if (decide (x > y)) = true then (some (1 : Int))
  else (some (0 : Int)))))

theorem cmp_Compare_26527_con (x : Int) (y : Int)  (r : Int) (hm : cmp_Compare_26527 x y = some r) :
    Con Try.prog 101 [.int .i64 x, .int .i64 y] [] [] (fun _ : Unit => .int .i64 r) (fun _ => []) := by
  refine Con.intro (args := [.int .i64 x, .int .i64 y]) (n := 20) (val := fun r (_ : Unit) => .int .i64 r) (post := fun _ _ => []) (m := cmp_Compare_26527 x y) Try.func101 rfl rfl rfl hm ?_
  intro w S _
  unfold cmp_Compare_26527
  refine TW.seq ?_
  refine TW.region ?_
  refine TO.y (Y.assign rfl) rfl rfl rfl ?_
  refine TO.nil ?_
  refine TE.next ?_
  refine TW.seq ?_
  refine TW.region ?_
  refine TO.y (Y.move rfl) rfl rfl rfl ?_
  refine TO.bind fun R1 H2 => ?_
  refine TO.ef (Ef.call (rest := []) [] (cmp_isNaN_26527_con x  R1 H2) kc109 rfl rfl trivial) rfl rfl rfl (fun _ => ?_)
  refine TO.y (Y.assign rfl) rfl rfl rfl ?_
  refine TO.nil ?_
  refine TE.next ?_
  refine TW.seq ?_
  refine TW.region ?_
  refine TO.y (Y.move rfl) rfl rfl rfl ?_
  refine TO.bind fun R4 H5 => ?_
  refine TO.ef (Ef.call (rest := []) [] (cmp_isNaN_26527_con y  R4 H5) kc109 rfl rfl trivial) rfl rfl rfl (fun _ => ?_)
  refine TO.y (Y.assign rfl) rfl rfl rfl ?_
  refine TO.nil ?_
  refine TE.next ?_
  refine TW.seq ?_
  refine TW.seq ?_
  refine TW.region ?_
  refine TO.y (Y.move rfl) rfl rfl rfl ?_
  refine TO.nil ?_
  refine TE.next ?_
  refine TW.cond rfl (fun H7 => ?_) (fun H7 => ?_)
  · refine TW.seq ?_
    refine TW.seq ?_
    refine TW.region ?_
    refine TO.y (Y.move rfl) rfl rfl rfl ?_
    refine TO.nil ?_
    refine TE.next ?_
    refine TW.cond rfl (fun H8 => ?_) (fun H8 => ?_)
    · refine TW.seq ?_
      refine TW.region ?_
      refine TO.y (Y.assign rfl) rfl rfl rfl ?_
      refine TO.nil ?_
      refine TE.next ?_
      refine TW.ret ?_
      refine TE.then_ret ?_
      refine TE.then_ret ?_
      exact TE.leaf fun _ _ hf_ hs_ => ret_any (rs := [.tmp 4]) (vs := [.int .i64 (0 : Int)]) (.inl rfl) rfl ⟨rfl, trivial⟩ hf_ hs_ ⟨(), rfl, hs_.pulls [] rfl⟩
    · refine TW.skip ?_
      refine TE.next ?_
      refine TW.seq ?_
      refine TW.region ?_
      refine TO.y (Y.assign rfl) rfl rfl rfl ?_
      refine TO.nil ?_
      refine TE.next ?_
      refine TW.ret ?_
      refine TE.then_ret ?_
      exact TE.leaf fun _ _ hf_ hs_ => ret_any (rs := [.tmp 4]) (vs := [.int .i64 (-1 : Int)]) (.inl rfl) rfl ⟨rfl, trivial⟩ hf_ hs_ ⟨(), rfl, hs_.pulls [] rfl⟩
  · refine TW.skip ?_
    refine TE.next ?_
    refine TW.seq ?_
    refine TW.seq ?_
    refine TW.region ?_
    refine TO.y (Y.move rfl) rfl rfl rfl ?_
    refine TO.nil ?_
    refine TE.next ?_
    refine TW.cond rfl (fun H9 => ?_) (fun H9 => ?_)
    · refine TW.seq ?_
      refine TW.region ?_
      refine TO.y (Y.assign rfl) rfl rfl rfl ?_
      refine TO.nil ?_
      refine TE.next ?_
      refine TW.ret ?_
      refine TE.then_ret ?_
      exact TE.leaf fun _ _ hf_ hs_ => ret_any (rs := [.tmp 4]) (vs := [.int .i64 (1 : Int)]) (.inl rfl) rfl ⟨rfl, trivial⟩ hf_ hs_ ⟨(), rfl, hs_.pulls [] rfl⟩
    · refine TW.skip ?_
      refine TE.next ?_
      refine TW.seq ?_
      refine TW.seq ?_
      refine TW.region ?_
      refine TO.y (Y.move rfl) rfl rfl rfl ?_
      refine TO.y (Y.move rfl) rfl rfl rfl ?_
      refine TO.y (Y.lss rfl rfl) rfl rfl rfl ?_
      refine TO.nil ?_
      refine TE.next ?_
      refine TW.cond rfl (fun H10 => ?_) (fun H10 => ?_)
      · refine TW.seq ?_
        refine TW.region ?_
        refine TO.y (Y.assign rfl) rfl rfl rfl ?_
        refine TO.nil ?_
        refine TE.next ?_
        refine TW.ret ?_
        refine TE.then_ret ?_
        exact TE.leaf fun _ _ hf_ hs_ => ret_any (rs := [.tmp 4]) (vs := [.int .i64 (-1 : Int)]) (.inl rfl) rfl ⟨rfl, trivial⟩ hf_ hs_ ⟨(), rfl, hs_.pulls [] rfl⟩
      · refine TW.skip ?_
        refine TE.next ?_
        refine TW.seq ?_
        refine TW.seq ?_
        refine TW.region ?_
        refine TO.y (Y.move rfl) rfl rfl rfl ?_
        refine TO.y (Y.move rfl) rfl rfl rfl ?_
        refine TO.y (Y.gtr rfl rfl) rfl rfl rfl ?_
        refine TO.nil ?_
        refine TE.next ?_
        refine TW.cond rfl (fun H11 => ?_) (fun H11 => ?_)
        · refine TW.seq ?_
          refine TW.region ?_
          refine TO.y (Y.assign rfl) rfl rfl rfl ?_
          refine TO.nil ?_
          refine TE.next ?_
          refine TW.ret ?_
          refine TE.then_ret ?_
          exact TE.leaf fun _ _ hf_ hs_ => ret_any (rs := [.tmp 4]) (vs := [.int .i64 (1 : Int)]) (.inl rfl) rfl ⟨rfl, trivial⟩ hf_ hs_ ⟨(), rfl, hs_.pulls [] rfl⟩
        · refine TW.skip ?_
          refine TE.next ?_
          refine TW.seq ?_
          refine TW.region ?_
          refine TO.y (Y.assign rfl) rfl rfl rfl ?_
          refine TO.nil ?_
          refine TE.next ?_
          refine TW.ret ?_
          exact TE.leaf fun _ _ hf_ hs_ => ret_any (rs := [.tmp 4]) (vs := [.int .i64 (0 : Int)]) (.inl rfl) rfl ⟨rfl, trivial⟩ hf_ hs_ ⟨(), rfl, hs_.pulls [] rfl⟩

/-- cmp.isNaN[string] -/
noncomputable def cmp_isNaN_83645 (x : List UInt8) : Option Bool :=
  some (!(decide (x = x)))

theorem cmp_isNaN_83645_con (x : List UInt8)  (r : Bool) (hm : cmp_isNaN_83645 x = some r) :
    Con Try.prog 110 [strV x] [] [] (fun _ : Unit => .bool r) (fun _ => []) := by
  refine Con.intro (args := [strV x]) (n := 6) (val := fun r (_ : Unit) => .bool r) (post := fun _ _ => []) (m := cmp_isNaN_83645 x) Try.func110 rfl rfl rfl hm ?_
  intro w S _
  unfold cmp_isNaN_83645
  refine TW.seq ?_
  refine TW.region ?_
  refine TO.y (Y.assign rfl) rfl rfl rfl ?_
  refine TO.nil ?_
  refine TE.next ?_
  refine TW.seq ?_
  refine TW.region ?_
  refine TO.y (Y.move rfl) rfl rfl rfl ?_
  refine TO.y (Y.move rfl) rfl rfl rfl ?_
  refine TO.y (Y.sneq rfl rfl) rfl rfl rfl ?_
  refine TO.y (Y.assign rfl) rfl rfl rfl ?_
  refine TO.nil ?_
  refine TE.next ?_
  refine TW.ret ?_
  exact TE.leaf fun _ _ hf_ hs_ => ret_any (rs := [.tmp 2]) (vs := [.bool (!(decide (x = x)))]) (.inl rfl) rfl ⟨rfl, trivial⟩ hf_ hs_ ⟨(), rfl, hs_.pulls [] rfl⟩

end Go.Proofs.Ytfanigbmjmiidaa
