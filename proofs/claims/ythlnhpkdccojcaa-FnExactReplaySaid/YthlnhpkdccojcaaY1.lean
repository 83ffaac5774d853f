/-
  The functions that a law reaches, each as a pure function, with the proof that the program computes it, and the step from a pure law to the given statement. Conditions: none.
-/
import Derived.Test.YthlnhpkdccojcaaSw
import Derived.Test.YthlnhpkdccojcaaRows
set_option linter.unusedVariables false
set_option maxRecDepth 100000
set_option maxHeartbeats 4000000
namespace Go.Proofs.Ythlnhpkdccojcaa
open Go Sl

structure File where
  No : Int
  Level : Int
  Lo : List UInt8
  Hi : List UInt8
  deriving DecidableEq
instance : Enc File := ⟨4, fun x => [.int .i64 x.No, .int .i64 x.Level, .str x.Lo, .str x.Hi], fun _ => rfl, by decide⟩
instance : Dec File where
  sh := [.int .i64, .int .i64, .str, .str]
  ok x := okI x.No ∧ okI x.Level ∧ x.Lo.length ≤ 9223372036854775807 ∧ x.Hi.length ≤ 9223372036854775807
  dec cs h := by
    obtain ⟨c0, r0, rfl, h0, h⟩ := h.cons_inv
    obtain ⟨c1, r1, rfl, h1, h⟩ := h.cons_inv
    obtain ⟨c2, r2, rfl, h2, h⟩ := h.cons_inv
    obtain ⟨c3, r3, rfl, h3, h⟩ := h.cons_inv
    obtain rfl := h.nil_inv
    obtain ⟨y0, rfl, w0_⟩ := h0.int_inv
    have w0 := okI_of w0_
    obtain ⟨y1, rfl, w1_⟩ := h1.int_inv
    have w1 := okI_of w1_
    obtain ⟨y2, rfl, w2⟩ := h2.str_inv
    obtain ⟨y3, rfl, w3⟩ := h3.str_inv
    exact ⟨{ No := y0, Level := y1, Lo := y2, Hi := y3 : File }, rfl, w0, w1, w2, w3⟩
instance : Flat File := { vals := fun x => [.int .i64 x.No, .int .i64 x.Level, strV x.Lo, strV x.Hi], flat := fun _ => rfl }
structure Edit where
  Add : List File
  Drop : List Int
  deriving DecidableEq
instance : Enc Edit := ⟨2, fun x => [lc x.Add, lc x.Drop], fun _ => rfl, by decide⟩
instance : Dec Edit where
  sh := [.sl 4 (Dec.sh File), .sl 1 (Dec.sh Int)]
  ok x := okl x.Add ∧ okl x.Drop
  dec cs h := by
    obtain ⟨c0, r0, rfl, h0, h⟩ := h.cons_inv
    obtain ⟨c1, r1, rfl, h1, h⟩ := h.cons_inv
    obtain rfl := h.nil_inv
    obtain ⟨y0, rfl, w0⟩ := h0.sl_inv (α := File) rfl
    obtain ⟨y1, rfl, w1⟩ := h1.sl_inv (α := Int) rfl
    exact ⟨{ Add := y0, Drop := y1 : Edit }, rfl, w0, w1⟩
structure Reader where
  text : List UInt8
  at_ : Int
  bad : Bool
  deriving DecidableEq
instance : Enc Reader := ⟨3, fun x => [.str x.text, .int .i64 x.at_, .bool x.bad], fun _ => rfl, by decide⟩
instance : Dec Reader where
  sh := [.str, .int .i64, .bool]
  ok x := x.text.length ≤ 9223372036854775807 ∧ okI x.at_ ∧ True
  dec cs h := by
    obtain ⟨c0, r0, rfl, h0, h⟩ := h.cons_inv
    obtain ⟨c1, r1, rfl, h1, h⟩ := h.cons_inv
    obtain ⟨c2, r2, rfl, h2, h⟩ := h.cons_inv
    obtain rfl := h.nil_inv
    obtain ⟨y0, rfl, w0⟩ := h0.str_inv
    obtain ⟨y1, rfl, w1_⟩ := h1.int_inv
    have w1 := okI_of w1_
    obtain ⟨y2, rfl⟩ := h2.bool_inv
    have w2 := True.intro
    exact ⟨{ text := y0, at_ := y1, bad := y2 : Reader }, rfl, w0, w1, w2⟩
instance : Flat Reader := { vals := fun x => [strV x.text, .int .i64 x.at_, .bool x.bad], flat := fun _ => rfl }

theorem hMix : Try.prog.follows .mixedOrders = true := by kernel_rfl
theorem ke38 : elemB Try.prog 38 = some (9, 1, 16) := by kernel_rfl
theorem kk9 : kindB Try.prog 9 = some (false, 1) := by kernel_rfl
theorem ks9 : isStrB Try.prog 9 = true := by kernel_rfl
theorem kz9 : zeroB Try.prog 9 = some (strV ([])) := by kernel_rfl
theorem kc53 : callB Try.prog 53 = true := by kernel_rfl
theorem kz5 : zeroB Try.prog 5 = some (.int .u8 (0 : Int)) := by kernel_rfl
theorem ke59 : elemB Try.prog 59 = some (5, 1, 1) := by kernel_rfl
theorem ki3 : intB Try.prog 3 = some .i64 := by kernel_rfl
theorem ki5 : intB Try.prog 5 = some .u8 := by kernel_rfl
theorem kc27 : callB Try.prog 27 = true := by kernel_rfl
theorem kz3 : zeroB Try.prog 3 = some (.int .i64 (0 : Int)) := by kernel_rfl
theorem ke23 : elemB Try.prog 23 = some (3, 1, 8) := by kernel_rfl
theorem kc60 : callB Try.prog 60 = true := by kernel_rfl
theorem kc40 : callB Try.prog 40 = true := by kernel_rfl
theorem kk3 : kindB Try.prog 3 = some (false, 1) := by kernel_rfl
theorem kf30_0 : fieldB Try.prog 30 0 = some 0 := by kernel_rfl
theorem kk28 : kindB Try.prog 28 = some (false, 1) := by kernel_rfl
theorem ke28 : elemB Try.prog 28 = some (52, 4, 48) := by kernel_rfl
theorem kf30_1 : fieldB Try.prog 30 1 = some 1 := by kernel_rfl
theorem kk23 : kindB Try.prog 23 = some (false, 1) := by kernel_rfl
theorem kk52 : kindB Try.prog 52 = some (true, 4) := by kernel_rfl
theorem kz52 : zeroB Try.prog 52 = some (.agg #[.int .i64 (0 : Int), .int .i64 (0 : Int), strV ([]), strV ([])]) := by kernel_rfl
theorem kf52_0 : fieldB Try.prog 52 0 = some 0 := by kernel_rfl
theorem kf52_1 : fieldB Try.prog 52 1 = some 1 := by kernel_rfl
theorem kf52_2 : fieldB Try.prog 52 2 = some 2 := by kernel_rfl
theorem kf52_3 : fieldB Try.prog 52 3 = some 3 := by kernel_rfl
theorem kk30 : kindB Try.prog 30 = some (true, 2) := by kernel_rfl
theorem kc26 : callB Try.prog 26 = true := by kernel_rfl
theorem kc28 : callB Try.prog 28 = true := by kernel_rfl
theorem kc30 : callB Try.prog 30 = true := by kernel_rfl
theorem kc29 : callB Try.prog 29 = true := by kernel_rfl
theorem kz30 : zeroB Try.prog 30 = some (.agg #[.slice none 0 0, .slice none 0 0]) := by kernel_rfl
theorem kp30 : placesB Try.prog 30 = some [(0, 1), (1, 1)] := by kernel_rfl
theorem kc41 : callB Try.prog 41 = true := by kernel_rfl
theorem kp52 : placesB Try.prog 52 = some [(0, 1), (1, 1), (2, 1), (3, 1)] := by kernel_rfl
theorem kc7 : callB Try.prog 7 = true := by kernel_rfl
theorem kc71 : callB Try.prog 71 = true := by kernel_rfl
theorem kc72 : callB Try.prog 72 = true := by kernel_rfl
theorem kc63 : callB Try.prog 63 = true := by kernel_rfl
theorem kc64 : callB Try.prog 64 = true := by kernel_rfl
theorem kc65 : callB Try.prog 65 = true := by kernel_rfl
theorem kc11 : callB Try.prog 11 = true := by kernel_rfl
theorem kc48 : callB Try.prog 48 = true := by kernel_rfl
theorem ki97 : intB Try.prog 97 = some .u32 := by kernel_rfl
theorem kc57 : callB Try.prog 57 = true := by kernel_rfl
theorem ki86 : intB Try.prog 86 = some .u64 := by kernel_rfl
theorem kk5 : kindB Try.prog 5 = some (false, 1) := by kernel_rfl
theorem kc59 : callB Try.prog 59 = true := by kernel_rfl
theorem kc58 : callB Try.prog 58 = true := by kernel_rfl
theorem kf75_2 : fieldB Try.prog 75 2 = some 2 := by kernel_rfl
theorem kk4 : kindB Try.prog 4 = some (false, 1) := by kernel_rfl
theorem kf75_0 : fieldB Try.prog 75 0 = some 0 := by kernel_rfl
theorem kf75_1 : fieldB Try.prog 75 1 = some 1 := by kernel_rfl
theorem kc61 : callB Try.prog 61 = true := by kernel_rfl
theorem kc43 : callB Try.prog 43 = true := by kernel_rfl
theorem kc62 : callB Try.prog 62 = true := by kernel_rfl
theorem kc55 : callB Try.prog 55 = true := by kernel_rfl
theorem kc35 : callB Try.prog 35 = true := by kernel_rfl
theorem kc33 : callB Try.prog 33 = true := by kernel_rfl
theorem kz61 : zeroB Try.prog 61 = some (.agg #[.pointer none, .slice none 0 0]) := by kernel_rfl
theorem kf61_0 : fieldB Try.prog 61 0 = some 0 := by kernel_rfl
theorem kf61_1 : fieldB Try.prog 61 1 = some 1 := by kernel_rfl
theorem kk58 : kindB Try.prog 58 = some (false, 1) := by kernel_rfl
theorem kk59 : kindB Try.prog 59 = some (false, 1) := by kernel_rfl
theorem kc56 : callB Try.prog 56 = true := by kernel_rfl
theorem kp58 : ptrB Try.prog 58 = some (61, 2) := by kernel_rfl
theorem kp87 : ptrB Try.prog 87 = some (5, 1) := by kernel_rfl
theorem ku95 : unsB Try.prog 95 = true := by kernel_rfl
theorem kl61 : liesAt Try.prog Try.prog.depth 61 (2 / Try.prog.cellsOf 61) 0 61 1 = true := by kernel_rfl
theorem kc34 : callB Try.prog 34 = true := by kernel_rfl
theorem kc36 : callB Try.prog 36 = true := by kernel_rfl
theorem kc38 : callB Try.prog 38 = true := by kernel_rfl
theorem kc37 : callB Try.prog 37 = true := by kernel_rfl
theorem kc42 : callB Try.prog 42 = true := by kernel_rfl
theorem kz75 : zeroB Try.prog 75 = some (.agg #[strV ([]), .int .i64 (0 : Int), .bool false]) := by kernel_rfl
theorem kp75 : placesB Try.prog 75 = some [(0, 1), (1, 1), (2, 1)] := by kernel_rfl
theorem kk75 : kindB Try.prog 75 = some (true, 3) := by kernel_rfl
theorem kc44 : callB Try.prog 44 = true := by kernel_rfl
theorem kc45 : callB Try.prog 45 = true := by kernel_rfl
theorem kc9 : callB Try.prog 9 = true := by kernel_rfl
theorem kc78 : callB Try.prog 78 = true := by kernel_rfl
theorem kc80 : callB Try.prog 80 = true := by kernel_rfl
theorem kc79 : callB Try.prog 79 = true := by kernel_rfl
theorem kc85 : callB Try.prog 85 = true := by kernel_rfl
theorem kc86 : callB Try.prog 86 = true := by kernel_rfl
theorem kc81 : callB Try.prog 81 = true := by kernel_rfl
theorem kc82 : callB Try.prog 82 = true := by kernel_rfl
theorem kc73 : callB Try.prog 73 = true := by kernel_rfl
theorem kc74 : callB Try.prog 74 = true := by kernel_rfl
theorem kc75 : callB Try.prog 75 = true := by kernel_rfl
theorem kc66 : callB Try.prog 66 = true := by kernel_rfl
theorem kc67 : callB Try.prog 67 = true := by kernel_rfl
theorem kc76 : callB Try.prog 76 = true := by kernel_rfl
theorem kc77 : callB Try.prog 77 = true := by kernel_rfl
theorem kc68 : callB Try.prog 68 = true := by kernel_rfl
theorem kc69 : callB Try.prog 69 = true := by kernel_rfl
theorem kc12 : callB Try.prog 12 = true := by kernel_rfl
theorem kc49 : callB Try.prog 49 = true := by kernel_rfl
theorem kc50 : callB Try.prog 50 = true := by kernel_rfl
theorem kc51 : callB Try.prog 51 = true := by kernel_rfl
theorem kc15 : callB Try.prog 15 = true := by kernel_rfl
theorem kc17 : callB Try.prog 17 = true := by kernel_rfl
theorem kc16 : callB Try.prog 16 = true := by kernel_rfl
theorem kc18 : callB Try.prog 18 = true := by kernel_rfl
theorem kc19 : callB Try.prog 19 = true := by kernel_rfl
theorem kc20 : callB Try.prog 20 = true := by kernel_rfl
theorem kc21 : callB Try.prog 21 = true := by kernel_rfl
theorem kc22 : callB Try.prog 22 = true := by kernel_rfl
theorem kc23 : callB Try.prog 23 = true := by kernel_rfl
theorem hu38 : Try.prog.underlying 38 = some (.slice 9) := by kernel_rfl
theorem hs38 : shB Try.prog 20 38 = some ([.sl 1 (Dec.sh (List UInt8))]) := by kernel_rfl
theorem kb4 : Try.prog.underlying 4 = some .bool := by kernel_rfl

/-- loop.example/g00950/laws.szStringS -/
noncomputable def laws_szStringS (a : List (List UInt8)) (left : Int) : Option Int :=
  if (decide (IntKind.i64.wrap (left - ((a.length : Nat) : Int)) < (0 : Int))) = true then (some (-1 : Int))
  else (bindC (loopO (fun (S2 : Int × Int) => if (decide (S2.2 < ((a.length : Nat) : Int))) = true then ((idx a S2.2).bind fun E7 =>
  if (decide (IntKind.i64.wrap (S2.1 - ((E7.length : Nat) : Int)) < (0 : Int))) = true then (some (.done (.done (-1 : Int))))
  else (some (.go (IntKind.i64.wrap (S2.1 - ((E7.length : Nat) : Int)), IntKind.i64.wrap (S2.2 + (1 : Int))))))
  else (some (.done (.go S2.1))))
  (IntKind.i64.wrap (left - ((a.length : Nat) : Int)), (0 : Int)))
  (fun (T4 : Int) => some T4))

theorem laws_szStringS_con (a : List (List UInt8)) (left : Int) (V_a0 : Value) (r : Int) (hm : laws_szStringS a left = some r) :
    Con Try.prog 15 [V_a0, .int .i64 left] [] [(V_a0, lc a)] (fun _ : Unit => .int .i64 r) (fun _ => []) := by
  refine Con.intro (args := [V_a0, .int .i64 left]) (n := 28) (val := fun r (_ : Unit) => .int .i64 r) (post := fun _ _ => []) (m := laws_szStringS a left) Try.func15 rfl rfl rfl hm ?_
  intro w S hrd
  have HB_V_a0 := hrd _ (.head _)
  clear hrd
  unfold laws_szStringS
  refine TW.seq ?_
  refine TW.region ?_
  refine TO.y (Y.assign rfl) rfl rfl rfl ?_
  refine TO.nil ?_
  refine TE.next ?_
  refine TW.seq ?_
  refine TW.region ?_
  refine TO.y (Y.move rfl) rfl rfl rfl ?_
  refine TO.y (Y.move rfl) rfl rfl rfl ?_
  refine TO.y (Y.len (l := a) ke38 (Base.can HB_V_a0) rfl) rfl rfl rfl ?_
  refine TO.y (Y.sub rfl rfl) rfl rfl rfl ?_
  refine TO.y (Y.assign rfl) rfl rfl rfl ?_
  refine TO.nil ?_
  refine TE.next ?_
  refine TW.seq ?_
  refine TW.seq ?_
  refine TW.region ?_
  refine TO.y (Y.move rfl) rfl rfl rfl ?_
  refine TO.y (Y.lss rfl rfl) rfl rfl rfl ?_
  refine TO.nil ?_
  refine TE.next ?_
  refine TW.cond rfl (fun H1 => ?_) (fun H1 => ?_)
  · refine TW.seq ?_
    refine TW.region ?_
    refine TO.y (Y.assign rfl) rfl rfl rfl ?_
    refine TO.nil ?_
    refine TE.next ?_
    refine TW.ret ?_
    refine TE.then_ret ?_
    exact TE.leaf fun _ _ hf_ hs_ => ret_any (rs := [.tmp 4]) (vs := [.int .i64 (-1 : Int)]) (.inl rfl) rfl ⟨rfl, trivial⟩ hf_ hs_ ⟨(), rfl, hs_.pulls [] rfl⟩
  · refine TW.skip ?_
    refine TE.next ?_
    refine TW.seq ?_
    refine TW.seq ?_
    refine TW.region ?_
    refine TO.y (Y.assign rfl) rfl rfl rfl ?_
    refine TO.nil ?_
    refine TE.next ?_
    refine TW.joinX (τ := Int) (X := Unit) (fun T _ => [(1, .int .i64 T)]) (fun _ _ => []) ?_ (fun T4 X5 => ?_)
    · refine TW.block ?_
      refine TW.loopX (σ := Int × Int) (X := Unit) (fun T _ => [(0, V_a0), (1, .int .i64 T.1), (5, .int .i64 T.2)]) (fun _ _ => []) () [] ⟨rfl, rfl, rfl, trivial⟩ rfl (fun S2 X3 => ?_)
      refine TW.seq ?_
      refine TW.seq ?_
      refine TW.region ?_
      refine TO.y (Y.move rfl) rfl rfl rfl ?_
      refine TO.y (Y.move rfl) rfl rfl rfl ?_
      refine TO.y (Y.len (l := a) ke38 (Base.can HB_V_a0) rfl) rfl rfl rfl ?_
      refine TO.y (Y.lss rfl rfl) rfl rfl rfl ?_
      refine TO.nil ?_
      refine TE.next ?_
      refine TW.cond rfl (fun H6 => ?_) (fun H6 => ?_)
      · refine TW.skip ?_
        refine TE.next ?_
        refine TW.seq ?_
        refine TW.block ?_
        refine TW.seq ?_
        refine TW.region ?_
        refine TO.y (Y.move rfl) rfl rfl rfl ?_
        refine TO.y (Y.move rfl) rfl rfl rfl ?_
        refine TO.y (Y.move rfl) rfl rfl rfl ?_
        refine TO.bind fun E7 H8 => ?_
        refine TO.y (Y.index ke38 (Base.can HB_V_a0) H8 rfl rfl) rfl rfl rfl ?_
        refine TO.y (Y.load_el (us := [strV E7]) (u := strV E7) kk9 rfl (Base.can HB_V_a0) (idx_get H8).2.2 rfl rfl rfl rfl rfl) rfl rfl rfl ?_
        refine TO.y (Y.slen ks9 rfl) rfl rfl rfl ?_
        refine TO.y (Y.sub rfl rfl) rfl rfl rfl ?_
        refine TO.y (Y.assign rfl) rfl rfl rfl ?_
        refine TO.nil ?_
        refine TE.next ?_
        refine TW.seq ?_
        refine TW.region ?_
        refine TO.y (Y.move rfl) rfl rfl rfl ?_
        refine TO.y (Y.lss rfl rfl) rfl rfl rfl ?_
        refine TO.nil ?_
        refine TE.next ?_
        refine TW.cond rfl (fun H9 => ?_) (fun H9 => ?_)
        · refine TW.seq ?_
          refine TW.region ?_
          refine TO.y (Y.assign rfl) rfl rfl rfl ?_
          refine TO.nil ?_
          refine TE.next ?_
          refine TW.ret ?_
          refine TE.block_ret ?_
          refine TE.then_ret ?_
          refine TE.lp_ret ?_
          refine TE.block_ret ?_
          refine TE.jn_done ?_
          refine TE.then_ret ?_
          exact TE.leaf fun _ _ hf_ hs_ => ret_any (rs := [.tmp 4]) (vs := [.int .i64 (-1 : Int)]) (.inl rfl) rfl ⟨rfl, trivial⟩ hf_ hs_ ⟨(), rfl, hs_.pulls [] rfl⟩
        · refine TW.skip ?_
          refine TE.block_normal ?_
          refine TE.next ?_
          refine TW.region ?_
          refine TO.y (Y.move rfl) rfl rfl rfl ?_
          refine TO.y (Y.add rfl rfl) rfl rfl rfl ?_
          refine TO.y (Y.assign rfl) rfl rfl rfl ?_
          refine TO.nil ?_
          exact TE.lp_go () [] ⟨rfl, rfl, rfl, trivial⟩ rfl
      · refine TW.exit ?_
        refine TE.then_exit ?_
        refine TE.lp_exit ?_
        refine TE.block_exit ?_
        exact TE.jn_go () [] ⟨rfl, trivial⟩ rfl
    · refine TE.next ?_
      refine TW.seq ?_
      refine TW.region ?_
      refine TO.y (Y.move rfl) rfl rfl rfl ?_
      refine TO.y (Y.assign rfl) rfl rfl rfl ?_
      refine TO.nil ?_
      refine TE.next ?_
      refine TW.ret ?_
      exact TE.leaf fun _ _ hf_ hs_ => ret_any (rs := [.tmp 4]) (vs := [.int .i64 T4]) (.inl rfl) rfl ⟨rfl, trivial⟩ hf_ hs_ ⟨(), rfl, hs_.pulls [] rfl⟩

/-- loop.example/g00950/laws.toStringS -/
noncomputable def laws_toStringS (a : List (List UInt8)) : Option (List (List UInt8)) :=
  (mkLen 16 ((a.length : Nat) : Int)).bind fun E2 =>
  bindC (loopO (fun (S4 : Int × List (List UInt8)) => if (decide (S4.1 < ((a.length : Nat) : Int))) = true then ((idx a S4.1).bind fun E9 =>
  (idx S4.2 S4.1).bind fun E11 =>
  some (.go (IntKind.i64.wrap (S4.1 + (1 : Int)), (S4.2.set S4.1.toNat E9))))
  else (some (.done (.go S4.2))))
  ((0 : Int), (List.replicate E2 ([] : List UInt8))))
  (fun (T6 : List (List UInt8)) => some T6)

theorem laws_toStringS_con (a : List (List UInt8)) (V_a0 : Value) (r : List (List UInt8)) (hm : laws_toStringS a = some r) :
    Con Try.prog 17 [V_a0] [] [(V_a0, lc a)] (fun X : Value => X) (fun X => [.own X (lc r)]) := by
  refine Con.intro (args := [V_a0]) (n := 22) (val := fun _ (X : Value) => X) (post := fun r X => [.own X (lc r)]) (m := laws_toStringS a) Try.func17 rfl rfl rfl hm ?_
  intro w S hrd
  have HB_V_a0 := hrd _ (.head _)
  clear hrd
  unfold laws_toStringS
  refine TW.seq ?_
  refine TW.region ?_
  refine TO.y (Y.assign rfl) rfl rfl rfl ?_
  refine TO.nil ?_
  refine TE.next ?_
  refine TW.seq ?_
  refine TW.region ?_
  refine TO.y (Y.move rfl) rfl rfl rfl ?_
  refine TO.y (Y.len (l := a) ke38 (Base.can HB_V_a0) rfl) rfl rfl rfl ?_
  refine TO.bind fun E2 H3 => ?_
  refine TO.ef (Ef.make (α := List UInt8) (z := ([] : List UInt8)) H3 ke38 kz9 rfl rfl rfl rfl) rfl rfl rfl (fun V1 => ?_)
  refine TO.y (Y.assign rfl) rfl rfl rfl ?_
  refine TO.nil ?_
  refine TE.next ?_
  refine TW.seq ?_
  refine TW.seq ?_
  refine TW.region ?_
  refine TO.y (Y.assign rfl) rfl rfl rfl ?_
  refine TO.nil ?_
  refine TE.next ?_
  refine TW.joinX (τ := List (List UInt8)) (X := Unit) (fun _ _ => [(3, V1)]) (fun T _ => [.own V1 (lc T)]) ?_ (fun T6 X7 => ?_)
  · refine TW.block ?_
    refine TW.loopX (σ := Int × List (List UInt8)) (X := Unit) (fun T _ => [(0, V_a0), (3, V1), (4, .int .i64 T.1)]) (fun T _ => [.own V1 (lc T.2)]) () [0] ⟨rfl, rfl, rfl, trivial⟩ rfl (fun S4 X5 => ?_)
    refine TW.seq ?_
    refine TW.seq ?_
    refine TW.region ?_
    refine TO.y (Y.move rfl) rfl rfl rfl ?_
    refine TO.y (Y.move rfl) rfl rfl rfl ?_
    refine TO.y (Y.len (l := a) ke38 (Base.can HB_V_a0) rfl) rfl rfl rfl ?_
    refine TO.y (Y.lss rfl rfl) rfl rfl rfl ?_
    refine TO.nil ?_
    refine TE.next ?_
    refine TW.cond rfl (fun H8 => ?_) (fun H8 => ?_)
    · refine TW.skip ?_
      refine TE.next ?_
      refine TW.seq ?_
      refine TW.block ?_
      refine TW.region ?_
      refine TO.y (Y.move rfl) rfl rfl rfl ?_
      refine TO.y (Y.move rfl) rfl rfl rfl ?_
      refine TO.y (Y.move rfl) rfl rfl rfl ?_
      refine TO.y (Y.move rfl) rfl rfl rfl ?_
      refine TO.bind fun E9 H10 => ?_
      refine TO.y (Y.index ke38 (Base.can HB_V_a0) H10 rfl rfl) rfl rfl rfl ?_
      refine TO.y (Y.load_el (us := [strV E9]) (u := strV E9) kk9 rfl (Base.can HB_V_a0) (idx_get H10).2.2 rfl rfl rfl rfl rfl) rfl rfl rfl ?_
      refine TO.bind fun E11 H12 => ?_
      refine TO.y (Y.index ke38 (Can.own 0 rfl) H12 rfl rfl) rfl rfl rfl ?_
      refine TO.ef0 (Ef.store_el (us := [strV E9]) (is' := [.own V1 (lc (S4.2.set S4.1.toNat E9))]) E9 0 kk9 rfl rfl (idx_get H12).2.2 rfl rfl (Cel.plain rfl rfl) rfl rfl rfl rfl) rfl rfl (fun _ => ?_)
      refine TO.nil ?_
      refine TE.block_normal ?_
      refine TE.next ?_
      refine TW.region ?_
      refine TO.y (Y.move rfl) rfl rfl rfl ?_
      refine TO.y (Y.add rfl rfl) rfl rfl rfl ?_
      refine TO.y (Y.assign rfl) rfl rfl rfl ?_
      refine TO.nil ?_
      exact TE.lp_go () [0] ⟨rfl, rfl, rfl, trivial⟩ rfl
    · refine TW.exit ?_
      refine TE.then_exit ?_
      refine TE.lp_exit ?_
      refine TE.block_exit ?_
      exact TE.jn_go () [0] ⟨rfl, trivial⟩ rfl
  · refine TE.next ?_
    refine TW.seq ?_
    refine TW.region ?_
    refine TO.y (Y.move rfl) rfl rfl rfl ?_
    refine TO.y (Y.assign rfl) rfl rfl rfl ?_
    refine TO.nil ?_
    refine TE.next ?_
    refine TW.ret ?_
    exact TE.leaf fun _ _ hf_ hs_ => ret_any (rs := [.tmp 2]) (vs := [V1]) (.inl rfl) rfl ⟨rfl, trivial⟩ hf_ hs_ ⟨V1, rfl, hs_.pulls [0] rfl⟩

/-- loop.example/g00950/spec.l1In -/
noncomputable def spec_l1In (x : Int) (low : Int) (high : Int) : Option Bool :=
  (if (decide (x ≥ low)) = true then (some (decide (x ≤ high)))
  else (some false)).bind (fun (T1 : Bool) =>
  some T1)

theorem spec_l1In_con (x : Int) (low : Int) (high : Int)  (r : Bool) (hm : spec_l1In x low high = some r) :
    Con Try.prog 53 [.int .i64 x, .int .i64 low, .int .i64 high] [] [] (fun _ : Unit => .bool r) (fun _ => []) := by
  refine Con.intro (args := [.int .i64 x, .int .i64 low, .int .i64 high]) (n := 15) (val := fun r (_ : Unit) => .bool r) (post := fun _ _ => []) (m := spec_l1In x low high) Try.func53 rfl rfl rfl hm ?_
  intro w S _
  unfold spec_l1In
  refine TW.seq ?_
  refine TW.region ?_
  refine TO.y (Y.assign rfl) rfl rfl rfl ?_
  refine TO.nil ?_
  refine TE.next ?_
  refine TW.seq ?_
  refine TW.joinBX (τ := Bool) (X := Unit) (fun T _ => [(6, .bool T)]) (fun _ _ => []) ?_ (fun T1 X2 => ?_)
  · refine TW.region ?_
    refine TO.y (Y.move rfl) rfl rfl rfl ?_
    refine TO.y (Y.move rfl) rfl rfl rfl ?_
    refine TO.y (Y.geq rfl rfl) rfl rfl rfl ?_
    refine TO.y (Y.move rfl) rfl rfl rfl ?_
    refine TO.ite (b := decide (x ≥ low)) (fun H3 => ?_) (fun H3 => ?_)
    · refine TO.y (Y.move rfl) (Gd.at 3 true 10 (decide (x ≥ low)) rfl rfl rfl (beq_tt H3)) rfl rfl ?_
      refine TO.y (Y.move rfl) (Gd.at 3 true 10 (decide (x ≥ low)) rfl rfl rfl (beq_tt H3)) rfl rfl ?_
      refine TO.y (Y.leq rfl rfl) (Gd.at 3 true 10 (decide (x ≥ low)) rfl rfl rfl (beq_tt H3)) rfl rfl ?_
      refine TO.y (Y.pick_t H3 rfl rfl) rfl rfl rfl ?_
      refine TO.y (Y.assign rfl) rfl rfl rfl ?_
      refine TO.nil ?_
      exact TE.jb_go () [] ⟨rfl, trivial⟩ rfl
    · refine TO.off (Gd.at 3 true 10 (decide (x ≥ low)) rfl rfl rfl (beq_ft H3)) rfl rfl ?_
      refine TO.off (Gd.at 3 true 10 (decide (x ≥ low)) rfl rfl rfl (beq_ft H3)) rfl rfl ?_
      refine TO.off (Gd.at 3 true 10 (decide (x ≥ low)) rfl rfl rfl (beq_ft H3)) rfl rfl ?_
      refine TO.y (Y.pick_f H3 rfl rfl) rfl rfl rfl ?_
      refine TO.y (Y.assign rfl) rfl rfl rfl ?_
      refine TO.nil ?_
      exact TE.jb_go () [] ⟨rfl, trivial⟩ rfl
  · refine TE.next ?_
    refine TW.ret ?_
    exact TE.leaf fun _ _ hf_ hs_ => ret_any (rs := [.tmp 6]) (vs := [.bool T1]) (.inl rfl) rfl ⟨rfl, trivial⟩ hf_ hs_ ⟨(), rfl, hs_.pulls [] rfl⟩

/-- loop.example/g00950/spec.Var -/
noncomputable def spec_Var (n : Int) : Option (List UInt8) :=
  (spec_l1In n (0 : Int) (562949953421311 : Int)).bind fun R1 =>
  if (!R1) = true then (some ([]))
  else (bindC (loopO (fun (S6 : Int × List UInt8) => if (decide (S6.1 ≥ (128 : Int))) = true then ((app 1 S6.2 ([toU8 (IntKind.i64.wrap ((128 : Int) + (Int.tmod S6.1 (128 : Int))))])).bind fun E13 =>
  some (.go (IntKind.i64.wrap (Int.tdiv S6.1 (128 : Int)), E13)))
  else (some (.done (.go (S6.1, S6.2)))))
  (n, ([] : List UInt8)))
  (fun (T8 : Int × List UInt8) => (app 1 T8.2 ([toU8 T8.1])).bind fun E17 =>
  some E17))

theorem spec_Var_con (n : Int)  (r : List UInt8) (hm : spec_Var n = some r) :
    Con Try.prog 27 [.int .i64 n] [] [] (fun _ : Unit => strV r) (fun _ => []) := by
  refine Con.intro (args := [.int .i64 n]) (n := 25) (val := fun r (_ : Unit) => strV r) (post := fun _ _ => []) (m := spec_Var n) Try.func27 rfl rfl rfl hm ?_
  intro w S _
  unfold spec_Var
  refine TW.seq ?_
  refine TW.region ?_
  refine TO.y (Y.assign rfl) rfl rfl rfl ?_
  refine TO.nil ?_
  refine TE.next ?_
  refine TW.seq ?_
  refine TW.seq ?_
  refine TW.region ?_
  refine TO.y (Y.move rfl) rfl rfl rfl ?_
  refine TO.bind fun R1 H2 => ?_
  refine TO.ef (Ef.call (rest := []) [] (spec_l1In_con n (0 : Int) (562949953421311 : Int)  R1 H2) kc53 rfl rfl trivial) rfl rfl rfl (fun _ => ?_)
  refine TO.y (Y.not rfl) rfl rfl rfl ?_
  refine TO.nil ?_
  refine TE.next ?_
  refine TW.cond rfl (fun H4 => ?_) (fun H4 => ?_)
  · refine TW.seq ?_
    refine TW.region ?_
    refine TO.y (Y.assign rfl) rfl rfl rfl ?_
    refine TO.nil ?_
    refine TE.next ?_
    refine TW.ret ?_
    refine TE.then_ret ?_
    exact TE.leaf fun _ _ hf_ hs_ => ret_any (rs := [.tmp 2]) (vs := [strV ([])]) (.inl rfl) rfl ⟨rfl, trivial⟩ hf_ hs_ ⟨(), rfl, hs_.pulls [] rfl⟩
  · refine TW.skip ?_
    refine TE.next ?_
    refine TW.seq ?_
    refine TW.region ?_
    refine TO.ef (Ef.buildSlice (α := UInt8) (Vs := []) ([] : List UInt8) ke59 kz5 rfl rfl rfl rfl rfl) rfl rfl rfl (fun B5 => ?_)
    refine TO.y (Y.assign rfl) rfl rfl rfl ?_
    refine TO.nil ?_
    refine TE.next ?_
    refine TW.seq ?_
    refine TW.joinX (τ := Int × List UInt8) (X := Value) (fun T X => [(0, .int .i64 T.1), (3, X)]) (fun T X => [.own X (lc T.2)]) ?_ (fun T8 X9 => ?_)
    · refine TW.block ?_
      refine TW.loopX (σ := Int × List UInt8) (X := Value) (fun T X => [(0, .int .i64 T.1), (3, X)]) (fun T X => [.own X (lc T.2)]) (.slice (some ⟨B5, 0, none⟩) 0 0) [0] ⟨rfl, rfl, trivial⟩ rfl (fun S6 X7 => ?_)
      refine TW.seq ?_
      refine TW.seq ?_
      refine TW.region ?_
      refine TO.y (Y.move rfl) rfl rfl rfl ?_
      refine TO.y (Y.geq rfl rfl) rfl rfl rfl ?_
      refine TO.nil ?_
      refine TE.next ?_
      refine TW.cond rfl (fun H10 => ?_) (fun H10 => ?_)
      · refine TW.skip ?_
        refine TE.next ?_
        refine TW.block ?_
        refine TW.seq ?_
        refine TW.region ?_
        refine TO.y (Y.move rfl) rfl rfl rfl ?_
        refine TO.y (Y.move rfl) rfl rfl rfl ?_
        refine TO.y (Y.rem (by decide) rfl rfl) rfl rfl rfl ?_
        refine TO.y (Y.add rfl rfl) rfl rfl rfl ?_
        refine TO.y (Y.conv8 ki3 ki5 rfl) rfl rfl rfl ?_
        refine TO.ef (Ef.buildSlice (α := UInt8) (Vs := [.int .u8 (((toU8 (IntKind.i64.wrap ((128 : Int) + (Int.tmod S6.1 (128 : Int))))).toNat : Nat) : Int)]) [toU8 (IntKind.i64.wrap ((128 : Int) + (Int.tmod S6.1 (128 : Int))))] ke59 kz5 rfl rfl rfl rfl rfl) rfl rfl rfl (fun B11 => ?_)
        refine TO.bind fun E13 H14 => ?_
        refine TO.ef (Ef.append (α := UInt8) (is' := [.own (.slice (some ⟨B11, 0, none⟩) 1 1) (lc ([toU8 (IntKind.i64.wrap ((128 : Int) + (Int.tmod S6.1 (128 : Int))))]))]) [1, 0] H14 ke59 kz5 rfl rfl rfl rfl rfl (Can.own 0 rfl)) rfl rfl rfl (fun V12 => ?_)
        refine TO.y (Y.assign rfl) rfl rfl rfl ?_
        refine TO.nil ?_
        refine TE.next ?_
        refine TW.region ?_
        refine TO.y (Y.move rfl) rfl rfl rfl ?_
        refine TO.y (Y.quo (by decide) rfl rfl) rfl rfl rfl ?_
        refine TO.y (Y.assign rfl) rfl rfl rfl ?_
        refine TO.nil ?_
        refine TE.block_normal ?_
        exact TE.lp_go V12 [0] ⟨rfl, rfl, trivial⟩ rfl
      · refine TW.exit ?_
        refine TE.then_exit ?_
        refine TE.lp_exit ?_
        refine TE.block_exit ?_
        exact TE.jn_go X7 [0] ⟨rfl, rfl, trivial⟩ rfl
    · refine TE.next ?_
      refine TW.seq ?_
      refine TW.region ?_
      refine TO.y (Y.move rfl) rfl rfl rfl ?_
      refine TO.y (Y.move rfl) rfl rfl rfl ?_
      refine TO.y (Y.conv8 ki3 ki5 rfl) rfl rfl rfl ?_
      refine TO.ef (Ef.buildSlice (α := UInt8) (Vs := [.int .u8 (((toU8 T8.1).toNat : Nat) : Int)]) [toU8 T8.1] ke59 kz5 rfl rfl rfl rfl rfl) rfl rfl rfl (fun B15 => ?_)
      refine TO.bind fun E17 H18 => ?_
      refine TO.ef (Ef.append (α := UInt8) (is' := [.own (.slice (some ⟨B15, 0, none⟩) 1 1) (lc ([toU8 T8.1]))]) [1, 0] H18 ke59 kz5 rfl rfl rfl rfl rfl (Can.own 0 rfl)) rfl rfl rfl (fun V16 => ?_)
      refine TO.y (Y.toStr ke59 ki5 ks9 (Can.own 0 rfl) rfl) rfl rfl rfl ?_
      refine TO.y (Y.assign rfl) rfl rfl rfl ?_
      refine TO.nil ?_
      refine TE.next ?_
      refine TW.ret ?_
      exact TE.leaf fun _ _ hf_ hs_ => ret_any (rs := [.tmp 2]) (vs := [strV E17]) (.inl rfl) rfl ⟨rfl, trivial⟩ hf_ hs_ ⟨(), rfl, hs_.pulls [] rfl⟩

/-- loop.example/g00950/spec.ReadVar -/
noncomputable def spec_ReadVar (s : List UInt8) : Option (Int × Int) :=
  bindC (loopO (fun (S1 : Int) => (if (decide (S1 ≤ (7 : Int))) = true then (some (decide (S1 ≤ ((s.length : Nat) : Int))))
  else (some false)).bind (fun (T5 : Bool) =>
  if T5 = true then (bindC (loopO (fun (S9 : Int × Int) => if (decide (S9.2 ≥ (0 : Int))) = true then ((sidx s S9.2).bind fun E14 =>
  some (.go (IntKind.i64.wrap (IntKind.i64.wrap (S9.1 * (128 : Int)) + (Int.tmod (IntKind.i64.wrap ((E14.toNat : Nat) : Int)) (128 : Int))), IntKind.i64.wrap (S9.2 - (1 : Int)))))
  else (some (.done (.go S9.1))))
  ((0 : Int), IntKind.i64.wrap (S1 - (1 : Int))))
  (fun (T11 : Int) => (ssub s 0 S1).bind fun E16 =>
  (spec_Var T11).bind fun R18 =>
  if (decide (R18 = E16)) = true then (some (.done (.done (T11, S1))))
  else (some (.go (IntKind.i64.wrap (S1 + (1 : Int)))))))
  else (some (.done (.go ())))))
  (1 : Int))
  (fun (T3 : Unit) => some ((0 : Int), (0 : Int)))

theorem spec_ReadVar_con (s : List UInt8)  (r : Int × Int) (hm : spec_ReadVar s = some r) :
    Con Try.prog 60 [strV s] [] [] (fun _ : Unit => .tuple #[.int .i64 r.1, .int .i64 r.2]) (fun _ => []) := by
  refine Con.intro (args := [strV s]) (n := 39) (val := fun r (_ : Unit) => .tuple #[.int .i64 r.1, .int .i64 r.2]) (post := fun _ _ => []) (m := spec_ReadVar s) Try.func60 rfl rfl rfl hm ?_
  intro w S _
  unfold spec_ReadVar
  refine TW.seq ?_
  refine TW.region ?_
  refine TO.y (Y.assign rfl) rfl rfl rfl ?_
  refine TO.y (Y.assign rfl) rfl rfl rfl ?_
  refine TO.nil ?_
  refine TE.next ?_
  refine TW.seq ?_
  refine TW.seq ?_
  refine TW.region ?_
  refine TO.y (Y.assign rfl) rfl rfl rfl ?_
  refine TO.nil ?_
  refine TE.next ?_
  refine TW.joinX (τ := Unit) (X := Unit) (fun _ _ => []) (fun _ _ => []) ?_ (fun T3 X4 => ?_)
  · refine TW.block ?_
    refine TW.loopX (σ := Int) (X := Unit) (fun T _ => [(0, strV s), (4, .int .i64 T)]) (fun _ _ => []) () [] ⟨rfl, rfl, trivial⟩ rfl (fun S1 X2 => ?_)
    refine TW.seq ?_
    refine TW.seq ?_
    refine TW.joinBX (τ := Bool) (X := Unit) (fun T _ => [(0, strV s), (4, .int .i64 S1), (14, .bool T)]) (fun _ _ => []) ?_ (fun T5 X6 => ?_)
    · refine TW.region ?_
      refine TO.y (Y.move rfl) rfl rfl rfl ?_
      refine TO.y (Y.leq rfl rfl) rfl rfl rfl ?_
      refine TO.y (Y.move rfl) rfl rfl rfl ?_
      refine TO.ite (b := decide (S1 ≤ (7 : Int))) (fun H7 => ?_) (fun H7 => ?_)
      · refine TO.y (Y.move rfl) (Gd.at 2 true 9 (decide (S1 ≤ (7 : Int))) rfl rfl rfl (beq_tt H7)) rfl rfl ?_
        refine TO.y (Y.move rfl) (Gd.at 2 true 9 (decide (S1 ≤ (7 : Int))) rfl rfl rfl (beq_tt H7)) rfl rfl ?_
        refine TO.y (Y.slen ks9 rfl) (Gd.at 2 true 9 (decide (S1 ≤ (7 : Int))) rfl rfl rfl (beq_tt H7)) rfl rfl ?_
        refine TO.y (Y.leq rfl rfl) (Gd.at 2 true 9 (decide (S1 ≤ (7 : Int))) rfl rfl rfl (beq_tt H7)) rfl rfl ?_
        refine TO.y (Y.pick_t H7 rfl rfl) rfl rfl rfl ?_
        refine TO.nil ?_
        exact TE.jb_go () [] ⟨rfl, rfl, rfl, trivial⟩ rfl
      · refine TO.off (Gd.at 2 true 9 (decide (S1 ≤ (7 : Int))) rfl rfl rfl (beq_ft H7)) rfl rfl ?_
        refine TO.off (Gd.at 2 true 9 (decide (S1 ≤ (7 : Int))) rfl rfl rfl (beq_ft H7)) rfl rfl ?_
        refine TO.off (Gd.at 2 true 9 (decide (S1 ≤ (7 : Int))) rfl rfl rfl (beq_ft H7)) rfl rfl ?_
        refine TO.off (Gd.at 2 true 9 (decide (S1 ≤ (7 : Int))) rfl rfl rfl (beq_ft H7)) rfl rfl ?_
        refine TO.y (Y.pick_f H7 rfl rfl) rfl rfl rfl ?_
        refine TO.nil ?_
        exact TE.jb_go () [] ⟨rfl, rfl, rfl, trivial⟩ rfl
    · refine TE.next ?_
      refine TW.cond rfl (fun H8 => ?_) (fun H8 => ?_)
      · refine TW.skip ?_
        refine TE.next ?_
        refine TW.seq ?_
        refine TW.block ?_
        refine TW.seq ?_
        refine TW.region ?_
        refine TO.y (Y.assign rfl) rfl rfl rfl ?_
        refine TO.nil ?_
        refine TE.next ?_
        refine TW.seq ?_
        refine TW.seq ?_
        refine TW.region ?_
        refine TO.y (Y.move rfl) rfl rfl rfl ?_
        refine TO.y (Y.sub rfl rfl) rfl rfl rfl ?_
        refine TO.y (Y.assign rfl) rfl rfl rfl ?_
        refine TO.nil ?_
        refine TE.next ?_
        refine TW.joinX (τ := Int) (X := Unit) (fun T _ => [(0, strV s), (4, .int .i64 S1), (5, .int .i64 T)]) (fun _ _ => []) ?_ (fun T11 X12 => ?_)
        · refine TW.block ?_
          refine TW.loopX (σ := Int × Int) (X := Unit) (fun T _ => [(0, strV s), (4, .int .i64 S1), (5, .int .i64 T.1), (6, .int .i64 T.2)]) (fun _ _ => []) () [] ⟨rfl, rfl, rfl, rfl, trivial⟩ rfl (fun S9 X10 => ?_)
          refine TW.seq ?_
          refine TW.seq ?_
          refine TW.region ?_
          refine TO.y (Y.move rfl) rfl rfl rfl ?_
          refine TO.y (Y.geq rfl rfl) rfl rfl rfl ?_
          refine TO.nil ?_
          refine TE.next ?_
          refine TW.cond rfl (fun H13 => ?_) (fun H13 => ?_)
          · refine TW.skip ?_
            refine TE.next ?_
            refine TW.seq ?_
            refine TW.block ?_
            refine TW.region ?_
            refine TO.y (Y.move rfl) rfl rfl rfl ?_
            refine TO.y (Y.mul rfl rfl) rfl rfl rfl ?_
            refine TO.y (Y.move rfl) rfl rfl rfl ?_
            refine TO.y (Y.move rfl) rfl rfl rfl ?_
            refine TO.bind fun E14 H15 => ?_
            refine TO.y (Y.sidx H15 ks9 rfl rfl) rfl rfl rfl ?_
            refine TO.y (Y.conv ki5 ki3 rfl) rfl rfl rfl ?_
            refine TO.y (Y.rem (by decide) rfl rfl) rfl rfl rfl ?_
            refine TO.y (Y.add rfl rfl) rfl rfl rfl ?_
            refine TO.y (Y.assign rfl) rfl rfl rfl ?_
            refine TO.nil ?_
            refine TE.block_normal ?_
            refine TE.next ?_
            refine TW.region ?_
            refine TO.y (Y.move rfl) rfl rfl rfl ?_
            refine TO.y (Y.sub rfl rfl) rfl rfl rfl ?_
            refine TO.y (Y.assign rfl) rfl rfl rfl ?_
            refine TO.nil ?_
            exact TE.lp_go () [] ⟨rfl, rfl, rfl, rfl, trivial⟩ rfl
          · refine TW.exit ?_
            refine TE.then_exit ?_
            refine TE.lp_exit ?_
            refine TE.block_exit ?_
            exact TE.jn_go () [] ⟨rfl, rfl, rfl, trivial⟩ rfl
        · refine TE.next ?_
          refine TW.seq ?_
          refine TW.draw (isH := []) hMix ?_
          refine TA.y (listed' := #[true, false, false, false, false, false]) 0 [] rfl (Y.move rfl) rfl rfl rfl (by kernel_rfl) (by kernel_rfl) (by kernel_rfl) rfl rfl ?_
          refine TA.y (listed' := #[true, false, true, false, false, false]) 2 [] rfl (Y.move rfl) rfl rfl rfl (by kernel_rfl) (by kernel_rfl) (by kernel_rfl) rfl rfl ?_
          refine TA.y (listed' := #[true, false, true, true, false, false]) 3 [] rfl (Y.move rfl) rfl rfl rfl (by kernel_rfl) (by kernel_rfl) (by kernel_rfl) rfl rfl ?_
          refine TA.bind fun E16 H17 => ?_
          refine TA.y (listed' := #[true, false, true, true, true, false]) 4 [] rfl (Y.ssub_to H17 ks9 rfl rfl) rfl rfl rfl (by kernel_rfl) (by kernel_rfl) (by kernel_rfl) rfl rfl ?_
          refine TA.bind fun R18 H19 => ?_
          refine TA.one 1 (by kernel_rfl) ?_
          refine TX.ef (listed' := #[true, true, true, true, true, false]) [] rfl (Ef.call (rest := []) [] (spec_Var_con T11  R18 H19) kc27 rfl rfl trivial) rfl rfl rfl rfl (fun _ => rfl) (fun _ => ?_)
          refine TA.y (listed' := #[true, true, true, true, true, true]) 5 [] rfl (Y.seql rfl rfl) rfl rfl rfl (by kernel_rfl) (by kernel_rfl) (by kernel_rfl) rfl rfl ?_
          refine TA.nil (by kernel_rfl) ?_
          refine TE.next ?_
          refine TW.cond rfl (fun H21 => ?_) (fun H21 => ?_)
          · refine TW.seq ?_
            refine TW.region ?_
            refine TO.y (Y.move rfl) rfl rfl rfl ?_
            refine TO.y (Y.move rfl) rfl rfl rfl ?_
            refine TO.y (Y.assign rfl) rfl rfl rfl ?_
            refine TO.y (Y.assign rfl) rfl rfl rfl ?_
            refine TO.nil ?_
            refine TE.next ?_
            refine TW.ret ?_
            refine TE.block_ret ?_
            refine TE.then_ret ?_
            refine TE.lp_ret ?_
            refine TE.block_ret ?_
            refine TE.jn_done ?_
            refine TE.then_ret ?_
            exact TE.leaf fun _ _ hf_ hs_ => ret_any (rs := [.tmp 2, .tmp 3]) (vs := [.int .i64 T11, .int .i64 S1]) (.inl rfl) rfl ⟨rfl, ⟨rfl, trivial⟩⟩ hf_ hs_ ⟨(), rfl, hs_.pulls [] rfl⟩
          · refine TW.skip ?_
            refine TE.block_normal ?_
            refine TE.next ?_
            refine TW.region ?_
            refine TO.y (Y.move rfl) rfl rfl rfl ?_
            refine TO.y (Y.add rfl rfl) rfl rfl rfl ?_
            refine TO.y (Y.assign rfl) rfl rfl rfl ?_
            refine TO.nil ?_
            exact TE.lp_go () [] ⟨rfl, rfl, trivial⟩ rfl
      · refine TW.exit ?_
        refine TE.then_exit ?_
        refine TE.lp_exit ?_
        refine TE.block_exit ?_
        exact TE.jn_go () [] trivial rfl
  · refine TE.next ?_
    refine TW.seq ?_
    refine TW.region ?_
    refine TO.y (Y.assign rfl) rfl rfl rfl ?_
    refine TO.y (Y.assign rfl) rfl rfl rfl ?_
    refine TO.nil ?_
    refine TE.next ?_
    refine TW.ret ?_
    exact TE.leaf fun _ _ hf_ hs_ => ret_any (rs := [.tmp 2, .tmp 3]) (vs := [.int .i64 (0 : Int), .int .i64 (0 : Int)]) (.inl rfl) rfl ⟨rfl, ⟨rfl, trivial⟩⟩ hf_ hs_ ⟨(), rfl, hs_.pulls [] rfl⟩

/-- loop.example/g00950/spec.l6Vars -/
noncomputable def spec_l6Vars (s : List UInt8) (at_ : Int) (n : Int) : Option (List Int × Int) :=
  bindC (loopO (fun (S2 : Int × Int × List Int) => if (decide (S2.2.1 < n)) = true then ((if (decide (S2.1 < (0 : Int))) = true then (some true)
  else (some (decide (S2.1 > ((s.length : Nat) : Int))))).bind (fun (T7 : Bool) =>
  if T7 = true then (some (.done (.done (S2.2.2, (-1 : Int)))))
  else ((ssub s S2.1 (s.length : Int)).bind fun E11 =>
  (spec_ReadVar E11).bind fun R13 =>
  if (decide (R13.2 = (0 : Int))) = true then (some (.done (.done (S2.2.2, (-1 : Int)))))
  else ((app 8 S2.2.2 ([R13.1])).bind fun E19 =>
  some (.go (IntKind.i64.wrap (S2.1 + R13.2), IntKind.i64.wrap (S2.2.1 + (1 : Int)), E19))))))
  else (some (.done (.go (S2.1, S2.2.2)))))
  (at_, (0 : Int), ([] : List Int)))
  (fun (T4 : Int × List Int) => some (T4.2, T4.1))

theorem spec_l6Vars_con (s : List UInt8) (at_ : Int) (n : Int)  (r : List Int × Int) (hm : spec_l6Vars s at_ n = some r) :
    Con Try.prog 40 [strV s, .int .i64 at_, .int .i64 n] [] [] (fun X : Value => .tuple #[X, .int .i64 r.2]) (fun X => [.own X (lc r.1)]) := by
  refine Con.intro (args := [strV s, .int .i64 at_, .int .i64 n]) (n := 46) (val := fun r (X : Value) => .tuple #[X, .int .i64 r.2]) (post := fun r X => [.own X (lc r.1)]) (m := spec_l6Vars s at_ n) Try.func40 rfl rfl rfl hm ?_
  intro w S _
  unfold spec_l6Vars
  refine TW.seq ?_
  refine TW.region ?_
  refine TO.y (Y.assign rfl) rfl rfl rfl ?_
  refine TO.y (Y.assign rfl) rfl rfl rfl ?_
  refine TO.nil ?_
  refine TE.next ?_
  refine TW.seq ?_
  refine TW.region ?_
  refine TO.ef (Ef.buildSlice (α := Int) (Vs := []) ([] : List Int) ke23 kz3 rfl rfl rfl rfl rfl) rfl rfl rfl (fun B1 => ?_)
  refine TO.y (Y.assign rfl) rfl rfl rfl ?_
  refine TO.nil ?_
  refine TE.next ?_
  refine TW.seq ?_
  refine TW.seq ?_
  refine TW.region ?_
  refine TO.y (Y.assign rfl) rfl rfl rfl ?_
  refine TO.nil ?_
  refine TE.next ?_
  refine TW.joinX (τ := Int × List Int) (X := Value) (fun T X => [(1, .int .i64 T.1), (8, X)]) (fun T X => [.own X (lc T.2)]) ?_ (fun T4 X5 => ?_)
  · refine TW.block ?_
    refine TW.loopX (σ := Int × Int × List Int) (X := Value) (fun T X => [(0, strV s), (1, .int .i64 T.1), (2, .int .i64 n), (8, X), (9, .int .i64 T.2.1)]) (fun T X => [.own X (lc T.2.2)]) (.slice (some ⟨B1, 0, none⟩) 0 0) [0] ⟨rfl, rfl, rfl, rfl, rfl, trivial⟩ rfl (fun S2 X3 => ?_)
    refine TW.seq ?_
    refine TW.seq ?_
    refine TW.region ?_
    refine TO.y (Y.move rfl) rfl rfl rfl ?_
    refine TO.y (Y.move rfl) rfl rfl rfl ?_
    refine TO.y (Y.lss rfl rfl) rfl rfl rfl ?_
    refine TO.nil ?_
    refine TE.next ?_
    refine TW.cond rfl (fun H6 => ?_) (fun H6 => ?_)
    · refine TW.skip ?_
      refine TE.next ?_
      refine TW.seq ?_
      refine TW.block ?_
      refine TW.seq ?_
      refine TW.seq ?_
      refine TW.joinBX (τ := Bool) (X := Unit) (fun T _ => [(0, strV s), (1, .int .i64 S2.1), (2, .int .i64 n), (8, X3), (9, .int .i64 S2.2.1), (25, .bool T)]) (fun _ _ => [.own X3 (lc S2.2.2)]) ?_ (fun T7 X8 => ?_)
      · refine TW.region ?_
        refine TO.y (Y.move rfl) rfl rfl rfl ?_
        refine TO.y (Y.lss rfl rfl) rfl rfl rfl ?_
        refine TO.y (Y.move rfl) rfl rfl rfl ?_
        refine TO.ite (b := decide (S2.1 < (0 : Int))) (fun H9 => ?_) (fun H9 => ?_)
        · refine TO.off (Gd.at 2 false 20 (decide (S2.1 < (0 : Int))) rfl rfl rfl (beq_tf H9)) rfl rfl ?_
          refine TO.off (Gd.at 2 false 20 (decide (S2.1 < (0 : Int))) rfl rfl rfl (beq_tf H9)) rfl rfl ?_
          refine TO.off (Gd.at 2 false 20 (decide (S2.1 < (0 : Int))) rfl rfl rfl (beq_tf H9)) rfl rfl ?_
          refine TO.off (Gd.at 2 false 20 (decide (S2.1 < (0 : Int))) rfl rfl rfl (beq_tf H9)) rfl rfl ?_
          refine TO.y (Y.pick_t H9 rfl rfl) rfl rfl rfl ?_
          refine TO.nil ?_
          exact TE.jb_go () [0] ⟨rfl, rfl, rfl, rfl, rfl, rfl, trivial⟩ rfl
        · refine TO.y (Y.move rfl) (Gd.at 2 false 20 (decide (S2.1 < (0 : Int))) rfl rfl rfl (beq_ff H9)) rfl rfl ?_
          refine TO.y (Y.move rfl) (Gd.at 2 false 20 (decide (S2.1 < (0 : Int))) rfl rfl rfl (beq_ff H9)) rfl rfl ?_
          refine TO.y (Y.slen ks9 rfl) (Gd.at 2 false 20 (decide (S2.1 < (0 : Int))) rfl rfl rfl (beq_ff H9)) rfl rfl ?_
          refine TO.y (Y.gtr rfl rfl) (Gd.at 2 false 20 (decide (S2.1 < (0 : Int))) rfl rfl rfl (beq_ff H9)) rfl rfl ?_
          refine TO.y (Y.pick_f H9 rfl rfl) rfl rfl rfl ?_
          refine TO.nil ?_
          exact TE.jb_go () [0] ⟨rfl, rfl, rfl, rfl, rfl, rfl, trivial⟩ rfl
      · refine TE.next ?_
        refine TW.cond rfl (fun H10 => ?_) (fun H10 => ?_)
        · refine TW.seq ?_
          refine TW.region ?_
          refine TO.y (Y.move rfl) rfl rfl rfl ?_
          refine TO.y (Y.assign rfl) rfl rfl rfl ?_
          refine TO.y (Y.assign rfl) rfl rfl rfl ?_
          refine TO.nil ?_
          refine TE.next ?_
          refine TW.ret ?_
          refine TE.then_ret ?_
          refine TE.block_ret ?_
          refine TE.then_ret ?_
          refine TE.lp_ret ?_
          refine TE.block_ret ?_
          refine TE.jn_done ?_
          refine TE.then_ret ?_
          exact TE.leaf fun _ _ hf_ hs_ => ret_any (rs := [.tmp 6, .tmp 7]) (vs := [X3, .int .i64 (-1 : Int)]) (.inl rfl) rfl ⟨rfl, ⟨rfl, trivial⟩⟩ hf_ hs_ ⟨X3, rfl, hs_.pulls [0] rfl⟩
        · refine TW.skip ?_
          refine TE.next ?_
          refine TW.seq ?_
          refine TW.region ?_
          refine TO.y (Y.move rfl) rfl rfl rfl ?_
          refine TO.y (Y.move rfl) rfl rfl rfl ?_
          refine TO.bind fun E11 H12 => ?_
          refine TO.y (Y.ssub_from H12 ks9 rfl rfl) rfl rfl rfl ?_
          refine TO.bind fun R13 H14 => ?_
          refine TO.ef (Ef.call (rest := [.own X3 (lc S2.2.2)]) [0] (spec_ReadVar_con E11  R13 H14) kc60 rfl rfl trivial) rfl rfl rfl (fun _ => ?_)
          refine TO.y (Y.move rfl) rfl rfl rfl ?_
          refine TO.y (Y.extract rfl rfl) rfl rfl rfl ?_
          refine TO.y (Y.extract rfl rfl) rfl rfl rfl ?_
          refine TO.y (Y.assign rfl) rfl rfl rfl ?_
          refine TO.y (Y.assign rfl) rfl rfl rfl ?_
          refine TO.nil ?_
          refine TE.next ?_
          refine TW.seq ?_
          refine TW.seq ?_
          refine TW.region ?_
          refine TO.y (Y.move rfl) rfl rfl rfl ?_
          refine TO.y (Y.eql rfl rfl) rfl rfl rfl ?_
          refine TO.nil ?_
          refine TE.next ?_
          refine TW.cond rfl (fun H16 => ?_) (fun H16 => ?_)
          · refine TW.seq ?_
            refine TW.region ?_
            refine TO.y (Y.move rfl) rfl rfl rfl ?_
            refine TO.y (Y.assign rfl) rfl rfl rfl ?_
            refine TO.y (Y.assign rfl) rfl rfl rfl ?_
            refine TO.nil ?_
            refine TE.next ?_
            refine TW.ret ?_
            refine TE.then_ret ?_
            refine TE.block_ret ?_
            refine TE.then_ret ?_
            refine TE.lp_ret ?_
            refine TE.block_ret ?_
            refine TE.jn_done ?_
            refine TE.then_ret ?_
            exact TE.leaf fun _ _ hf_ hs_ => ret_any (rs := [.tmp 6, .tmp 7]) (vs := [X3, .int .i64 (-1 : Int)]) (.inl rfl) rfl ⟨rfl, ⟨rfl, trivial⟩⟩ hf_ hs_ ⟨X3, rfl, hs_.pulls [0] rfl⟩
          · refine TW.skip ?_
            refine TE.next ?_
            refine TW.seq ?_
            refine TW.region ?_
            refine TO.y (Y.move rfl) rfl rfl rfl ?_
            refine TO.y (Y.move rfl) rfl rfl rfl ?_
            refine TO.ef (Ef.buildSlice (α := Int) (Vs := [.int .i64 R13.1]) [R13.1] ke23 kz3 rfl rfl rfl rfl rfl) rfl rfl rfl (fun B17 => ?_)
            refine TO.bind fun E19 H20 => ?_
            refine TO.ef (Ef.append (α := Int) (is' := [.own (.slice (some ⟨B17, 0, none⟩) 1 1) (lc ([R13.1]))]) [1, 0] H20 ke23 kz3 rfl rfl rfl rfl rfl (Can.own 0 rfl)) rfl rfl rfl (fun V18 => ?_)
            refine TO.y (Y.assign rfl) rfl rfl rfl ?_
            refine TO.nil ?_
            refine TE.next ?_
            refine TW.region ?_
            refine TO.y (Y.move rfl) rfl rfl rfl ?_
            refine TO.y (Y.move rfl) rfl rfl rfl ?_
            refine TO.y (Y.add rfl rfl) rfl rfl rfl ?_
            refine TO.y (Y.assign rfl) rfl rfl rfl ?_
            refine TO.nil ?_
            refine TE.block_normal ?_
            refine TE.next ?_
            refine TW.region ?_
            refine TO.y (Y.move rfl) rfl rfl rfl ?_
            refine TO.y (Y.add rfl rfl) rfl rfl rfl ?_
            refine TO.y (Y.assign rfl) rfl rfl rfl ?_
            refine TO.nil ?_
            exact TE.lp_go V18 [0] ⟨rfl, rfl, rfl, rfl, rfl, trivial⟩ rfl
    · refine TW.exit ?_
      refine TE.then_exit ?_
      refine TE.lp_exit ?_
      refine TE.block_exit ?_
      exact TE.jn_go X3 [0] ⟨rfl, rfl, trivial⟩ rfl
  · refine TE.next ?_
    refine TW.seq ?_
    refine TW.region ?_
    refine TO.y (Y.move rfl) rfl rfl rfl ?_
    refine TO.y (Y.move rfl) rfl rfl rfl ?_
    refine TO.y (Y.assign rfl) rfl rfl rfl ?_
    refine TO.y (Y.assign rfl) rfl rfl rfl ?_
    refine TO.nil ?_
    refine TE.next ?_
    refine TW.ret ?_
    exact TE.leaf fun _ _ hf_ hs_ => ret_any (rs := [.tmp 6, .tmp 7]) (vs := [X5, .int .i64 T4.1]) (.inl rfl) rfl ⟨rfl, ⟨rfl, trivial⟩⟩ hf_ hs_ ⟨X5, rfl, hs_.pulls [0] rfl⟩

/-- loop.example/g00950/spec.l6Take -/
noncomputable def spec_l6Take (s : List UInt8) (at_ : Int) : Option (List UInt8 × Int) :=
  (spec_l6Vars s at_ (1 : Int)).bind fun R1 =>
  (if (decide (R1.2 < (0 : Int))) = true then (some true)
  else ((idx R1.1 (0 : Int)).bind fun E7 =>
  some (decide (E7 > IntKind.i64.wrap (((s.length : Nat) : Int) - R1.2))))).bind (fun (T4 : Bool) =>
  if T4 = true then (some ([], (-1 : Int)))
  else ((idx R1.1 (0 : Int)).bind fun E10 =>
  (ssub s R1.2 (IntKind.i64.wrap (R1.2 + E10))).bind fun E12 =>
  some (E12, IntKind.i64.wrap (R1.2 + E10))))

theorem spec_l6Take_con (s : List UInt8) (at_ : Int)  (r : List UInt8 × Int) (hm : spec_l6Take s at_ = some r) :
    Con Try.prog 41 [strV s, .int .i64 at_] [] [] (fun _ : Unit => .tuple #[strV r.1, .int .i64 r.2]) (fun _ => []) := by
  refine Con.intro (args := [strV s, .int .i64 at_]) (n := 39) (val := fun r (_ : Unit) => .tuple #[strV r.1, .int .i64 r.2]) (post := fun _ _ => []) (m := spec_l6Take s at_) Try.func41 rfl rfl rfl hm ?_
  intro w S _
  unfold spec_l6Take
  refine TW.seq ?_
  refine TW.region ?_
  refine TO.y (Y.assign rfl) rfl rfl rfl ?_
  refine TO.y (Y.assign rfl) rfl rfl rfl ?_
  refine TO.nil ?_
  refine TE.next ?_
  refine TW.seq ?_
  refine TW.region ?_
  refine TO.y (Y.move rfl) rfl rfl rfl ?_
  refine TO.y (Y.move rfl) rfl rfl rfl ?_
  refine TO.bind fun R1 H2 => ?_
  refine TO.ef (Ef.call (rest := []) [] (spec_l6Vars_con s at_ (1 : Int)  R1 H2) kc40 rfl rfl trivial) rfl rfl rfl (fun Y3 => ?_)
  refine TO.y (Y.move rfl) rfl rfl rfl ?_
  refine TO.y (Y.extract rfl rfl) rfl rfl rfl ?_
  refine TO.y (Y.extract rfl rfl) rfl rfl rfl ?_
  refine TO.y (Y.assign rfl) rfl rfl rfl ?_
  refine TO.y (Y.assign rfl) rfl rfl rfl ?_
  refine TO.nil ?_
  refine TE.next ?_
  refine TW.seq ?_
  refine TW.seq ?_
  refine TW.joinBX (τ := Bool) (X := Unit) (fun T _ => [(0, strV s), (6, Y3), (7, .int .i64 R1.2), (25, .bool T)]) (fun _ _ => [.own Y3 (lc R1.1)]) ?_ (fun T4 X5 => ?_)
  · refine TW.region ?_
    refine TO.y (Y.move rfl) rfl rfl rfl ?_
    refine TO.y (Y.lss rfl rfl) rfl rfl rfl ?_
    refine TO.y (Y.move rfl) rfl rfl rfl ?_
    refine TO.ite (b := decide (R1.2 < (0 : Int))) (fun H6 => ?_) (fun H6 => ?_)
    · refine TO.off (Gd.at 2 false 16 (decide (R1.2 < (0 : Int))) rfl rfl rfl (beq_tf H6)) rfl rfl ?_
      refine TO.off (Gd.at 2 false 16 (decide (R1.2 < (0 : Int))) rfl rfl rfl (beq_tf H6)) rfl rfl ?_
      refine TO.off (Gd.at 2 false 16 (decide (R1.2 < (0 : Int))) rfl rfl rfl (beq_tf H6)) rfl rfl ?_
      refine TO.off (Gd.at 2 false 16 (decide (R1.2 < (0 : Int))) rfl rfl rfl (beq_tf H6)) rfl rfl ?_
      refine TO.off (Gd.at 2 false 16 (decide (R1.2 < (0 : Int))) rfl rfl rfl (beq_tf H6)) rfl rfl ?_
      refine TO.off (Gd.at 2 false 16 (decide (R1.2 < (0 : Int))) rfl rfl rfl (beq_tf H6)) rfl rfl ?_
      refine TO.off (Gd.at 2 false 16 (decide (R1.2 < (0 : Int))) rfl rfl rfl (beq_tf H6)) rfl rfl ?_
      refine TO.off (Gd.at 2 false 16 (decide (R1.2 < (0 : Int))) rfl rfl rfl (beq_tf H6)) rfl rfl ?_
      refine TO.y (Y.pick_t H6 rfl rfl) rfl rfl rfl ?_
      refine TO.nil ?_
      exact TE.jb_go () [0] ⟨rfl, rfl, rfl, rfl, trivial⟩ rfl
    · refine TO.y (Y.move rfl) (Gd.at 2 false 16 (decide (R1.2 < (0 : Int))) rfl rfl rfl (beq_ff H6)) rfl rfl ?_
      refine TO.bind fun E7 H8 => ?_
      refine TO.y (Y.index ke23 (Can.own 0 rfl) H8 rfl rfl) (Gd.at 2 false 16 (decide (R1.2 < (0 : Int))) rfl rfl rfl (beq_ff H6)) rfl rfl ?_
      refine TO.y (Y.load_el (us := [.int .i64 E7]) (u := .int .i64 E7) kk3 rfl (Can.own 0 rfl) (idx_get H8).2.2 rfl rfl rfl rfl rfl) (Gd.at 2 false 16 (decide (R1.2 < (0 : Int))) rfl rfl rfl (beq_ff H6)) rfl rfl ?_
      refine TO.y (Y.move rfl) (Gd.at 2 false 16 (decide (R1.2 < (0 : Int))) rfl rfl rfl (beq_ff H6)) rfl rfl ?_
      refine TO.y (Y.slen ks9 rfl) (Gd.at 2 false 16 (decide (R1.2 < (0 : Int))) rfl rfl rfl (beq_ff H6)) rfl rfl ?_
      refine TO.y (Y.move rfl) (Gd.at 2 false 16 (decide (R1.2 < (0 : Int))) rfl rfl rfl (beq_ff H6)) rfl rfl ?_
      refine TO.y (Y.sub rfl rfl) (Gd.at 2 false 16 (decide (R1.2 < (0 : Int))) rfl rfl rfl (beq_ff H6)) rfl rfl ?_
      refine TO.y (Y.gtr rfl rfl) (Gd.at 2 false 16 (decide (R1.2 < (0 : Int))) rfl rfl rfl (beq_ff H6)) rfl rfl ?_
      refine TO.y (Y.pick_f H6 rfl rfl) rfl rfl rfl ?_
      refine TO.nil ?_
      exact TE.jb_go () [0] ⟨rfl, rfl, rfl, rfl, trivial⟩ rfl
  · refine TE.next ?_
    refine TW.cond rfl (fun H9 => ?_) (fun H9 => ?_)
    · refine TW.seq ?_
      refine TW.region ?_
      refine TO.y (Y.assign rfl) rfl rfl rfl ?_
      refine TO.y (Y.assign rfl) rfl rfl rfl ?_
      refine TO.nil ?_
      refine TE.next ?_
      refine TW.ret ?_
      refine TE.then_ret ?_
      exact TE.leaf fun _ _ hf_ hs_ => ret_any (rs := [.tmp 4, .tmp 5]) (vs := [strV ([]), .int .i64 (-1 : Int)]) (.inl rfl) rfl ⟨rfl, ⟨rfl, trivial⟩⟩ hf_ hs_ ⟨(), rfl, hs_.pulls [] rfl⟩
    · refine TW.skip ?_
      refine TE.next ?_
      refine TW.seq ?_
      refine TW.draw (isH := [.own Y3 (lc R1.1)]) hMix ?_
      refine TA.y (listed' := #[true, false, false, false, false, false, false, false, false, false, false, false, false, false, false]) 0 [0] rfl (Y.move rfl) rfl rfl rfl (by kernel_rfl) (by kernel_rfl) (by kernel_rfl) rfl rfl ?_
      refine TA.y (listed' := #[true, true, false, false, false, false, false, false, false, false, false, false, false, false, false]) 1 [0] rfl (Y.move rfl) rfl rfl rfl (by kernel_rfl) (by kernel_rfl) (by kernel_rfl) rfl rfl ?_
      refine TA.y (listed' := #[true, true, true, false, false, false, false, false, false, false, false, false, false, false, false]) 2 [0] rfl (Y.move rfl) rfl rfl rfl (by kernel_rfl) (by kernel_rfl) (by kernel_rfl) rfl rfl ?_
      refine TA.y (listed' := #[true, true, true, true, false, false, false, false, false, false, false, false, false, false, false]) 3 [0] rfl (Y.move rfl) rfl rfl rfl (by kernel_rfl) (by kernel_rfl) (by kernel_rfl) rfl rfl ?_
      refine TA.bind fun E10 H11 => ?_
      refine TA.y (listed' := #[true, true, true, true, true, false, false, false, false, false, false, false, false, false, false]) 4 [0] rfl (Y.index ke23 (Can.own 0 rfl) H11 rfl rfl) rfl rfl rfl (by kernel_rfl) (by kernel_rfl) (by kernel_rfl) rfl rfl ?_
      refine TA.y (listed' := #[true, true, true, true, true, true, false, false, false, false, false, false, false, false, false]) 5 [0] rfl (Y.load_el (us := [.int .i64 E10]) (u := .int .i64 E10) kk3 rfl (Can.own 0 rfl) (idx_get H11).2.2 rfl rfl rfl rfl rfl) rfl rfl rfl (by kernel_rfl) (by kernel_rfl) (by kernel_rfl) rfl rfl ?_
      refine TA.y (listed' := #[true, true, true, true, true, true, true, false, false, false, false, false, false, false, false]) 6 [0] rfl (Y.add rfl rfl) rfl rfl rfl (by kernel_rfl) (by kernel_rfl) (by kernel_rfl) rfl rfl ?_
      refine TA.bind fun E12 H13 => ?_
      refine TA.y (listed' := #[true, true, true, true, true, true, true, true, false, false, false, false, false, false, false]) 7 [0] rfl (Y.ssub_both H13 ks9 rfl rfl rfl) rfl rfl rfl (by kernel_rfl) (by kernel_rfl) (by kernel_rfl) rfl rfl ?_
      refine TA.y (listed' := #[true, true, true, true, true, true, true, true, true, false, false, false, false, false, false]) 8 [0] rfl (Y.move rfl) rfl rfl rfl (by kernel_rfl) (by kernel_rfl) (by kernel_rfl) rfl rfl ?_
      refine TA.y (listed' := #[true, true, true, true, true, true, true, true, true, true, false, false, false, false, false]) 9 [0] rfl (Y.move rfl) rfl rfl rfl (by kernel_rfl) (by kernel_rfl) (by kernel_rfl) rfl rfl ?_
      refine TA.y (listed' := #[true, true, true, true, true, true, true, true, true, true, true, false, false, false, false]) 10 [0] rfl (Y.index ke23 (Can.own 0 rfl) H11 rfl rfl) rfl rfl rfl (by kernel_rfl) (by kernel_rfl) (by kernel_rfl) rfl rfl ?_
      refine TA.y (listed' := #[true, true, true, true, true, true, true, true, true, true, true, true, false, false, false]) 11 [0] rfl (Y.load_el (us := [.int .i64 E10]) (u := .int .i64 E10) kk3 rfl (Can.own 0 rfl) (idx_get H11).2.2 rfl rfl rfl rfl rfl) rfl rfl rfl (by kernel_rfl) (by kernel_rfl) (by kernel_rfl) rfl rfl ?_
      refine TA.y (listed' := #[true, true, true, true, true, true, true, true, true, true, true, true, true, false, false]) 12 [0] rfl (Y.add rfl rfl) rfl rfl rfl (by kernel_rfl) (by kernel_rfl) (by kernel_rfl) rfl rfl ?_
      refine TA.y (listed' := #[true, true, true, true, true, true, true, true, true, true, true, true, true, true, false]) 13 [0] rfl (Y.assign rfl) rfl rfl rfl (by kernel_rfl) (by kernel_rfl) (by kernel_rfl) rfl rfl ?_
      refine TA.y (listed' := #[true, true, true, true, true, true, true, true, true, true, true, true, true, true, true]) 14 [0] rfl (Y.assign rfl) rfl rfl rfl (by kernel_rfl) (by kernel_rfl) (by kernel_rfl) rfl rfl ?_
      refine TA.nil (by kernel_rfl) ?_
      refine TE.next ?_
      refine TW.ret ?_
      exact TE.leaf fun _ _ hf_ hs_ => ret_any (rs := [.tmp 4, .tmp 5]) (vs := [strV E12, .int .i64 (IntKind.i64.wrap (R1.2 + E10))]) (.inl rfl) rfl ⟨rfl, ⟨rfl, trivial⟩⟩ hf_ hs_ ⟨(), rfl, hs_.pulls [] rfl⟩

/-- loop.example/g00950/spec.l17Ok -/
noncomputable def spec_l17Ok (e : Edit) : Option Bool :=
  (if (decide (((e.Add.length : Nat) : Int) > (12 : Int))) = true then (some true)
  else (some (decide (((e.Drop.length : Nat) : Int) > (12 : Int))))).bind (fun (T2 : Bool) =>
  if T2 = true then (some false)
  else (bindC (loopO (fun (S6 : Int) => if (decide (S6 < ((e.Drop.length : Nat) : Int))) = true then ((idx e.Drop S6).bind fun E11 =>
  (spec_l1In E11 (0 : Int) (1000000 : Int)).bind fun R13 =>
  if (!R13) = true then (some (.done (.done false)))
  else (some (.go (IntKind.i64.wrap (S6 + (1 : Int))))))
  else (some (.done (.go ()))))
  (0 : Int))
  (fun (T8 : Unit) => bindC (loopO (fun (S17 : Int) => if (decide (S17 < ((e.Add.length : Nat) : Int))) = true then ((idx e.Add S17).bind fun E22 =>
  ((spec_l1In E22.No (0 : Int) (1000000 : Int)).bind fun R27 =>
  if (!R27) = true then (some true)
  else ((spec_l1In E22.Level (0 : Int) (1000000 : Int)).bind fun R31 =>
  if (!R31) = true then (some true)
  else (if (decide (((E22.Lo.length : Nat) : Int) > (10 : Int))) = true then (some true)
  else (some (decide (((E22.Hi.length : Nat) : Int) > (10 : Int))))))).bind (fun (T25 : Bool) =>
  if T25 = true then (some (.done (.done false)))
  else (some (.go (IntKind.i64.wrap (S17 + (1 : Int)))))))
  else (some (.done (.go ()))))
  (0 : Int))
  (fun (T19 : Unit) => some true))))

theorem spec_l17Ok_con (e : Edit) (V_e0 : Value) (V_e1 : Value) (r : Bool) (hm : spec_l17Ok e = some r) :
    Con Try.prog 26 [.agg #[V_e0, V_e1]] [] [(V_e0, lc e.Add), (V_e1, lc e.Drop)] (fun _ : Unit => .bool r) (fun _ => []) := by
  refine Con.intro (args := [.agg #[V_e0, V_e1]]) (n := 64) (val := fun r (_ : Unit) => .bool r) (post := fun _ _ => []) (m := spec_l17Ok e) Try.func26 rfl rfl rfl hm ?_
  intro w S hrd
  have HB_V_e0 := hrd _ (.head _)
  have HB_V_e1 := hrd _ (.tail _ (.head _))
  clear hrd
  unfold spec_l17Ok
  refine TW.seq ?_
  refine TW.region ?_
  refine TO.ef (Ef.box rfl (Cel.agg ⟨(One.can (Base.can HB_V_e0)), (One.can (Base.can HB_V_e1)), trivial⟩)) rfl rfl rfl (fun B1 => ?_)
  refine TO.y (Y.assign rfl) rfl rfl rfl ?_
  refine TO.nil ?_
  refine TE.next ?_
  refine TW.seq ?_
  refine TW.seq ?_
  refine TW.joinBX (τ := Bool) (X := Unit) (fun T _ => [(1, .pointer (some ⟨B1, 0, none⟩)), (15, .bool T)]) (fun _ _ => [.box B1 30 [V_e0, V_e1]]) ?_ (fun T2 X3 => ?_)
  · refine TW.region ?_
    refine TO.y (Y.field_box kf30_0 rfl rfl) rfl rfl rfl ?_
    refine TO.y (Y.load_box (v := V_e0) 0 kk28 rfl rfl rfl) rfl rfl rfl ?_
    refine TO.y (Y.len (l := e.Add) ke28 (Base.can HB_V_e0) rfl) rfl rfl rfl ?_
    refine TO.y (Y.gtr rfl rfl) rfl rfl rfl ?_
    refine TO.y (Y.move rfl) rfl rfl rfl ?_
    refine TO.ite (b := decide (((e.Add.length : Nat) : Int) > (12 : Int))) (fun H4 => ?_) (fun H4 => ?_)
    · refine TO.off (Gd.at 4 false 10 (decide (((e.Add.length : Nat) : Int) > (12 : Int))) rfl rfl rfl (beq_tf H4)) rfl rfl ?_
      refine TO.off (Gd.at 4 false 10 (decide (((e.Add.length : Nat) : Int) > (12 : Int))) rfl rfl rfl (beq_tf H4)) rfl rfl ?_
      refine TO.off (Gd.at 4 false 10 (decide (((e.Add.length : Nat) : Int) > (12 : Int))) rfl rfl rfl (beq_tf H4)) rfl rfl ?_
      refine TO.off (Gd.at 4 false 10 (decide (((e.Add.length : Nat) : Int) > (12 : Int))) rfl rfl rfl (beq_tf H4)) rfl rfl ?_
      refine TO.y (Y.pick_t H4 rfl rfl) rfl rfl rfl ?_
      refine TO.nil ?_
      exact TE.jb_go () [0] ⟨rfl, rfl, trivial⟩ rfl
    · refine TO.y (Y.field_box kf30_1 rfl rfl) (Gd.at 4 false 10 (decide (((e.Add.length : Nat) : Int) > (12 : Int))) rfl rfl rfl (beq_ff H4)) rfl rfl ?_
      refine TO.y (Y.load_box (v := V_e1) 0 kk23 rfl rfl rfl) (Gd.at 4 false 10 (decide (((e.Add.length : Nat) : Int) > (12 : Int))) rfl rfl rfl (beq_ff H4)) rfl rfl ?_
      refine TO.y (Y.len (l := e.Drop) ke23 (Base.can HB_V_e1) rfl) (Gd.at 4 false 10 (decide (((e.Add.length : Nat) : Int) > (12 : Int))) rfl rfl rfl (beq_ff H4)) rfl rfl ?_
      refine TO.y (Y.gtr rfl rfl) (Gd.at 4 false 10 (decide (((e.Add.length : Nat) : Int) > (12 : Int))) rfl rfl rfl (beq_ff H4)) rfl rfl ?_
      refine TO.y (Y.pick_f H4 rfl rfl) rfl rfl rfl ?_
      refine TO.nil ?_
      exact TE.jb_go () [0] ⟨rfl, rfl, trivial⟩ rfl
  · refine TE.next ?_
    refine TW.cond rfl (fun H5 => ?_) (fun H5 => ?_)
    · refine TW.seq ?_
      refine TW.region ?_
      refine TO.y (Y.assign rfl) rfl rfl rfl ?_
      refine TO.nil ?_
      refine TE.next ?_
      refine TW.ret ?_
      refine TE.then_ret ?_
      exact TE.leaf fun _ _ hf_ hs_ => ret_any (rs := [.tmp 2]) (vs := [.bool false]) (.inl rfl) rfl ⟨rfl, trivial⟩ hf_ hs_ ⟨(), rfl, hs_.pulls [] rfl⟩
    · refine TW.skip ?_
      refine TE.next ?_
      refine TW.seq ?_
      refine TW.seq ?_
      refine TW.region ?_
      refine TO.y (Y.assign rfl) rfl rfl rfl ?_
      refine TO.nil ?_
      refine TE.next ?_
      refine TW.joinX (τ := Unit) (X := Unit) (fun _ _ => [(1, .pointer (some ⟨B1, 0, none⟩))]) (fun _ _ => [.box B1 30 [V_e0, V_e1]]) ?_ (fun T8 X9 => ?_)
      · refine TW.block ?_
        refine TW.loopX (σ := Int) (X := Unit) (fun T _ => [(1, .pointer (some ⟨B1, 0, none⟩)), (3, .int .i64 T)]) (fun _ _ => [.box B1 30 [V_e0, V_e1]]) () [0] ⟨rfl, rfl, trivial⟩ rfl (fun S6 X7 => ?_)
        refine TW.seq ?_
        refine TW.seq ?_
        refine TW.region ?_
        refine TO.y (Y.move rfl) rfl rfl rfl ?_
        refine TO.y (Y.field_box kf30_1 rfl rfl) rfl rfl rfl ?_
        refine TO.y (Y.load_box (v := V_e1) 0 kk23 rfl rfl rfl) rfl rfl rfl ?_
        refine TO.y (Y.len (l := e.Drop) ke23 (Base.can HB_V_e1) rfl) rfl rfl rfl ?_
        refine TO.y (Y.lss rfl rfl) rfl rfl rfl ?_
        refine TO.nil ?_
        refine TE.next ?_
        refine TW.cond rfl (fun H10 => ?_) (fun H10 => ?_)
        · refine TW.skip ?_
          refine TE.next ?_
          refine TW.seq ?_
          refine TW.block ?_
          refine TW.seq ?_
          refine TW.region ?_
          refine TO.y (Y.field_box kf30_1 rfl rfl) rfl rfl rfl ?_
          refine TO.y (Y.load_box (v := V_e1) 0 kk23 rfl rfl rfl) rfl rfl rfl ?_
          refine TO.y (Y.move rfl) rfl rfl rfl ?_
          refine TO.bind fun E11 H12 => ?_
          refine TO.y (Y.index ke23 (Base.can HB_V_e1) H12 rfl rfl) rfl rfl rfl ?_
          refine TO.y (Y.load_el (us := [.int .i64 E11]) (u := .int .i64 E11) kk3 rfl (Base.can HB_V_e1) (idx_get H12).2.2 rfl rfl rfl rfl rfl) rfl rfl rfl ?_
          refine TO.bind fun R13 H14 => ?_
          refine TO.ef (Ef.call (rest := [.box B1 30 [V_e0, V_e1]]) [0] (spec_l1In_con E11 (0 : Int) (1000000 : Int)  R13 H14) kc53 rfl rfl trivial) rfl rfl rfl (fun _ => ?_)
          refine TO.y (Y.not rfl) rfl rfl rfl ?_
          refine TO.nil ?_
          refine TE.next ?_
          refine TW.cond rfl (fun H16 => ?_) (fun H16 => ?_)
          · refine TW.seq ?_
            refine TW.region ?_
            refine TO.y (Y.assign rfl) rfl rfl rfl ?_
            refine TO.nil ?_
            refine TE.next ?_
            refine TW.ret ?_
            refine TE.block_ret ?_
            refine TE.then_ret ?_
            refine TE.lp_ret ?_
            refine TE.block_ret ?_
            refine TE.jn_done ?_
            refine TE.then_ret ?_
            exact TE.leaf fun _ _ hf_ hs_ => ret_any (rs := [.tmp 2]) (vs := [.bool false]) (.inl rfl) rfl ⟨rfl, trivial⟩ hf_ hs_ ⟨(), rfl, hs_.pulls [] rfl⟩
          · refine TW.skip ?_
            refine TE.block_normal ?_
            refine TE.next ?_
            refine TW.region ?_
            refine TO.y (Y.move rfl) rfl rfl rfl ?_
            refine TO.y (Y.add rfl rfl) rfl rfl rfl ?_
            refine TO.y (Y.assign rfl) rfl rfl rfl ?_
            refine TO.nil ?_
            exact TE.lp_go () [0] ⟨rfl, rfl, trivial⟩ rfl
        · refine TW.exit ?_
          refine TE.then_exit ?_
          refine TE.lp_exit ?_
          refine TE.block_exit ?_
          exact TE.jn_go () [0] ⟨rfl, trivial⟩ rfl
      · refine TE.next ?_
        refine TW.seq ?_
        refine TW.seq ?_
        refine TW.region ?_
        refine TO.y (Y.assign rfl) rfl rfl rfl ?_
        refine TO.nil ?_
        refine TE.next ?_
        refine TW.joinX (τ := Unit) (X := Unit) (fun _ _ => []) (fun _ _ => []) ?_ (fun T19 X20 => ?_)
        · refine TW.block ?_
          refine TW.loopX (σ := Int) (X := Unit) (fun T _ => [(1, .pointer (some ⟨B1, 0, none⟩)), (4, .int .i64 T)]) (fun _ _ => [.box B1 30 [V_e0, V_e1]]) () [0] ⟨rfl, rfl, trivial⟩ rfl (fun S17 X18 => ?_)
          refine TW.seq ?_
          refine TW.seq ?_
          refine TW.region ?_
          refine TO.y (Y.move rfl) rfl rfl rfl ?_
          refine TO.y (Y.field_box kf30_0 rfl rfl) rfl rfl rfl ?_
          refine TO.y (Y.load_box (v := V_e0) 0 kk28 rfl rfl rfl) rfl rfl rfl ?_
          refine TO.y (Y.len (l := e.Add) ke28 (Base.can HB_V_e0) rfl) rfl rfl rfl ?_
          refine TO.y (Y.lss rfl rfl) rfl rfl rfl ?_
          refine TO.nil ?_
          refine TE.next ?_
          refine TW.cond rfl (fun H21 => ?_) (fun H21 => ?_)
          · refine TW.skip ?_
            refine TE.next ?_
            refine TW.seq ?_
            refine TW.block ?_
            refine TW.seq ?_
            refine TW.region ?_
            refine TO.y (Y.field_box kf30_0 rfl rfl) rfl rfl rfl ?_
            refine TO.y (Y.load_box (v := V_e0) 0 kk28 rfl rfl rfl) rfl rfl rfl ?_
            refine TO.y (Y.move rfl) rfl rfl rfl ?_
            refine TO.bind fun E22 H23 => ?_
            refine TO.y (Y.index ke28 (Base.can HB_V_e0) H23 rfl rfl) rfl rfl rfl ?_
            refine TO.y (Y.load_el (us := [.int .i64 E22.No, .int .i64 E22.Level, strV E22.Lo, strV E22.Hi]) (u := .agg #[.int .i64 E22.No, .int .i64 E22.Level, strV E22.Lo, strV E22.Hi]) kk52 rfl (Base.can HB_V_e0) (idx_get H23).2.2 rfl rfl rfl rfl rfl) rfl rfl rfl ?_
            refine TO.ef (Ef.alloc kz52 rfl) rfl rfl rfl (fun B24 => ?_)
            refine TO.ef0 (Ef.store_box (us := [.int .i64 E22.No, .int .i64 E22.Level, strV E22.Lo, strV E22.Hi]) (vs' := [.int .i64 E22.No, .int .i64 E22.Level, strV E22.Lo, strV E22.Hi]) (is' := [.box B24 52 [.int .i64 E22.No, .int .i64 E22.Level, strV E22.Lo, strV E22.Hi], .box B1 30 [V_e0, V_e1]]) 0 kk52 rfl rfl rfl (Cel.plain rfl rfl) rfl rfl rfl rfl) rfl rfl (fun _ => ?_)
            refine TO.nil ?_
            refine TE.next ?_
            refine TW.seq ?_
            refine TW.joinBX (τ := Bool) (X := Unit) (fun T _ => [(1, .pointer (some ⟨B1, 0, none⟩)), (4, .int .i64 S17), (63, .bool T)]) (fun _ _ => [.box B1 30 [V_e0, V_e1]]) ?_ (fun T25 X26 => ?_)
            · refine TW.region ?_
              refine TO.y (Y.field_box kf52_0 rfl rfl) rfl rfl rfl ?_
              refine TO.y (Y.load_box (v := .int .i64 E22.No) 0 kk3 rfl rfl rfl) rfl rfl rfl ?_
              refine TO.bind fun R27 H28 => ?_
              refine TO.ef (Ef.call (rest := [.box B24 52 [.int .i64 E22.No, .int .i64 E22.Level, strV E22.Lo, strV E22.Hi], .box B1 30 [V_e0, V_e1]]) [0, 0] (spec_l1In_con E22.No (0 : Int) (1000000 : Int)  R27 H28) kc53 rfl rfl trivial) rfl rfl rfl (fun _ => ?_)
              refine TO.y (Y.not rfl) rfl rfl rfl ?_
              refine TO.y (Y.move rfl) rfl rfl rfl ?_
              refine TO.ite (b := !R27) (fun H30 => ?_) (fun H30 => ?_)
              · refine TO.off (Gd.at 4 false 46 (!R27) rfl rfl rfl (beq_tf H30)) rfl rfl ?_
                refine TO.off (Gd.at 4 false 46 (!R27) rfl rfl rfl (beq_tf H30)) rfl rfl ?_
                refine TO.off (Gd.at 4 false 46 (!R27) rfl rfl rfl (beq_tf H30)) rfl rfl ?_
                refine TO.off (Gd.at 4 false 46 (!R27) rfl rfl rfl (beq_tf H30)) rfl rfl ?_
                refine TO.y (Y.pick_t H30 rfl rfl) rfl rfl rfl ?_
                refine TO.y (Y.move rfl) rfl rfl rfl ?_
                refine TO.off (Gd.at 10 false 52 true rfl rfl rfl rfl) rfl rfl ?_
                refine TO.off (Gd.at 10 false 52 true rfl rfl rfl rfl) rfl rfl ?_
                refine TO.off (Gd.at 10 false 52 true rfl rfl rfl rfl) rfl rfl ?_
                refine TO.off (Gd.at 10 false 52 true rfl rfl rfl rfl) rfl rfl ?_
                refine TO.y (Y.pick_t rfl rfl rfl) rfl rfl rfl ?_
                refine TO.y (Y.move rfl) rfl rfl rfl ?_
                refine TO.off (Gd.at 16 false 58 true rfl rfl rfl rfl) rfl rfl ?_
                refine TO.off (Gd.at 16 false 58 true rfl rfl rfl rfl) rfl rfl ?_
                refine TO.off (Gd.at 16 false 58 true rfl rfl rfl rfl) rfl rfl ?_
                refine TO.off (Gd.at 16 false 58 true rfl rfl rfl rfl) rfl rfl ?_
                refine TO.y (Y.pick_t rfl rfl rfl) rfl rfl rfl ?_
                refine TO.nil ?_
                exact TE.jb_go () [1] ⟨rfl, rfl, rfl, trivial⟩ rfl
              · refine TO.y (Y.field_box kf52_1 rfl rfl) (Gd.at 4 false 46 (!R27) rfl rfl rfl (beq_ff H30)) rfl rfl ?_
                refine TO.y (Y.load_box (v := .int .i64 E22.Level) 0 kk3 rfl rfl rfl) (Gd.at 4 false 46 (!R27) rfl rfl rfl (beq_ff H30)) rfl rfl ?_
                refine TO.bind fun R31 H32 => ?_
                refine TO.ef (Ef.call (rest := [.box B24 52 [.int .i64 E22.No, .int .i64 E22.Level, strV E22.Lo, strV E22.Hi], .box B1 30 [V_e0, V_e1]]) [0, 0] (spec_l1In_con E22.Level (0 : Int) (1000000 : Int)  R31 H32) kc53 rfl rfl trivial) (Gd.at 4 false 46 (!R27) rfl rfl rfl (beq_ff H30)) rfl rfl (fun _ => ?_)
                refine TO.y (Y.not rfl) (Gd.at 4 false 46 (!R27) rfl rfl rfl (beq_ff H30)) rfl rfl ?_
                refine TO.y (Y.pick_f H30 rfl rfl) rfl rfl rfl ?_
                refine TO.y (Y.move rfl) rfl rfl rfl ?_
                refine TO.ite (b := !R31) (fun H34 => ?_) (fun H34 => ?_)
                · refine TO.off (Gd.at 10 false 52 (!R31) rfl rfl rfl (beq_tf H34)) rfl rfl ?_
                  refine TO.off (Gd.at 10 false 52 (!R31) rfl rfl rfl (beq_tf H34)) rfl rfl ?_
                  refine TO.off (Gd.at 10 false 52 (!R31) rfl rfl rfl (beq_tf H34)) rfl rfl ?_
                  refine TO.off (Gd.at 10 false 52 (!R31) rfl rfl rfl (beq_tf H34)) rfl rfl ?_
                  refine TO.y (Y.pick_t H34 rfl rfl) rfl rfl rfl ?_
                  refine TO.y (Y.move rfl) rfl rfl rfl ?_
                  refine TO.off (Gd.at 16 false 58 true rfl rfl rfl rfl) rfl rfl ?_
                  refine TO.off (Gd.at 16 false 58 true rfl rfl rfl rfl) rfl rfl ?_
                  refine TO.off (Gd.at 16 false 58 true rfl rfl rfl rfl) rfl rfl ?_
                  refine TO.off (Gd.at 16 false 58 true rfl rfl rfl rfl) rfl rfl ?_
                  refine TO.y (Y.pick_t rfl rfl rfl) rfl rfl rfl ?_
                  refine TO.nil ?_
                  exact TE.jb_go () [1] ⟨rfl, rfl, rfl, trivial⟩ rfl
                · refine TO.y (Y.field_box kf52_2 rfl rfl) (Gd.at 10 false 52 (!R31) rfl rfl rfl (beq_ff H34)) rfl rfl ?_
                  refine TO.y (Y.load_box (v := strV E22.Lo) 0 kk9 rfl rfl rfl) (Gd.at 10 false 52 (!R31) rfl rfl rfl (beq_ff H34)) rfl rfl ?_
                  refine TO.y (Y.slen ks9 rfl) (Gd.at 10 false 52 (!R31) rfl rfl rfl (beq_ff H34)) rfl rfl ?_
                  refine TO.y (Y.gtr rfl rfl) (Gd.at 10 false 52 (!R31) rfl rfl rfl (beq_ff H34)) rfl rfl ?_
                  refine TO.y (Y.pick_f H34 rfl rfl) rfl rfl rfl ?_
                  refine TO.y (Y.move rfl) rfl rfl rfl ?_
                  refine TO.ite (b := decide (((E22.Lo.length : Nat) : Int) > (10 : Int))) (fun H35 => ?_) (fun H35 => ?_)
                  · refine TO.off (Gd.at 16 false 58 (decide (((E22.Lo.length : Nat) : Int) > (10 : Int))) rfl rfl rfl (beq_tf H35)) rfl rfl ?_
                    refine TO.off (Gd.at 16 false 58 (decide (((E22.Lo.length : Nat) : Int) > (10 : Int))) rfl rfl rfl (beq_tf H35)) rfl rfl ?_
                    refine TO.off (Gd.at 16 false 58 (decide (((E22.Lo.length : Nat) : Int) > (10 : Int))) rfl rfl rfl (beq_tf H35)) rfl rfl ?_
                    refine TO.off (Gd.at 16 false 58 (decide (((E22.Lo.length : Nat) : Int) > (10 : Int))) rfl rfl rfl (beq_tf H35)) rfl rfl ?_
                    refine TO.y (Y.pick_t H35 rfl rfl) rfl rfl rfl ?_
                    refine TO.nil ?_
                    exact TE.jb_go () [1] ⟨rfl, rfl, rfl, trivial⟩ rfl
                  · refine TO.y (Y.field_box kf52_3 rfl rfl) (Gd.at 16 false 58 (decide (((E22.Lo.length : Nat) : Int) > (10 : Int))) rfl rfl rfl (beq_ff H35)) rfl rfl ?_
                    refine TO.y (Y.load_box (v := strV E22.Hi) 0 kk9 rfl rfl rfl) (Gd.at 16 false 58 (decide (((E22.Lo.length : Nat) : Int) > (10 : Int))) rfl rfl rfl (beq_ff H35)) rfl rfl ?_
                    refine TO.y (Y.slen ks9 rfl) (Gd.at 16 false 58 (decide (((E22.Lo.length : Nat) : Int) > (10 : Int))) rfl rfl rfl (beq_ff H35)) rfl rfl ?_
                    refine TO.y (Y.gtr rfl rfl) (Gd.at 16 false 58 (decide (((E22.Lo.length : Nat) : Int) > (10 : Int))) rfl rfl rfl (beq_ff H35)) rfl rfl ?_
                    refine TO.y (Y.pick_f H35 rfl rfl) rfl rfl rfl ?_
                    refine TO.nil ?_
                    exact TE.jb_go () [1] ⟨rfl, rfl, rfl, trivial⟩ rfl
            · refine TE.next ?_
              refine TW.cond rfl (fun H36 => ?_) (fun H36 => ?_)
              · refine TW.seq ?_
                refine TW.region ?_
                refine TO.y (Y.assign rfl) rfl rfl rfl ?_
                refine TO.nil ?_
                refine TE.next ?_
                refine TW.ret ?_
                refine TE.block_ret ?_
                refine TE.then_ret ?_
                refine TE.lp_ret ?_
                refine TE.block_ret ?_
                refine TE.jn_done ?_
                refine TE.then_ret ?_
                exact TE.leaf fun _ _ hf_ hs_ => ret_any (rs := [.tmp 2]) (vs := [.bool false]) (.inl rfl) rfl ⟨rfl, trivial⟩ hf_ hs_ ⟨(), rfl, hs_.pulls [] rfl⟩
              · refine TW.skip ?_
                refine TE.block_normal ?_
                refine TE.next ?_
                refine TW.region ?_
                refine TO.y (Y.move rfl) rfl rfl rfl ?_
                refine TO.y (Y.add rfl rfl) rfl rfl rfl ?_
                refine TO.y (Y.assign rfl) rfl rfl rfl ?_
                refine TO.nil ?_
                exact TE.lp_go () [0] ⟨rfl, rfl, trivial⟩ rfl
          · refine TW.exit ?_
            refine TE.then_exit ?_
            refine TE.lp_exit ?_
            refine TE.block_exit ?_
            exact TE.jn_go () [] trivial rfl
        · refine TE.next ?_
          refine TW.seq ?_
          refine TW.region ?_
          refine TO.y (Y.assign rfl) rfl rfl rfl ?_
          refine TO.nil ?_
          refine TE.next ?_
          refine TW.ret ?_
          exact TE.leaf fun _ _ hf_ hs_ => ret_any (rs := [.tmp 2]) (vs := [.bool true]) (.inl rfl) rfl ⟨rfl, trivial⟩ hf_ hs_ ⟨(), rfl, hs_.pulls [] rfl⟩

/-- loop.example/g00950/spec.l6Piece -/
noncomputable def spec_l6Piece (s : List UInt8) : Option (List UInt8) :=
  (spec_Var ((s.length : Nat) : Int)).bind fun R1 =>
  (cat R1 s).bind fun E4 =>
  some E4

theorem spec_l6Piece_con (s : List UInt8)  (r : List UInt8) (hm : spec_l6Piece s = some r) :
    Con Try.prog 28 [strV s] [] [] (fun _ : Unit => strV r) (fun _ => []) := by
  refine Con.intro (args := [strV s]) (n := 8) (val := fun r (_ : Unit) => strV r) (post := fun _ _ => []) (m := spec_l6Piece s) Try.func28 rfl rfl rfl hm ?_
  intro w S _
  unfold spec_l6Piece
  refine TW.seq ?_
  refine TW.region ?_
  refine TO.y (Y.assign rfl) rfl rfl rfl ?_
  refine TO.nil ?_
  refine TE.next ?_
  refine TW.seq ?_
  refine TW.region ?_
  refine TO.y (Y.move rfl) rfl rfl rfl ?_
  refine TO.y (Y.slen ks9 rfl) rfl rfl rfl ?_
  refine TO.bind fun R1 H2 => ?_
  refine TO.ef (Ef.call (rest := []) [] (spec_Var_con ((s.length : Nat) : Int)  R1 H2) kc27 rfl rfl trivial) rfl rfl rfl (fun _ => ?_)
  refine TO.y (Y.move rfl) rfl rfl rfl ?_
  refine TO.bind fun E4 H5 => ?_
  refine TO.y (Y.cat H5 rfl rfl) rfl rfl rfl ?_
  refine TO.y (Y.assign rfl) rfl rfl rfl ?_
  refine TO.nil ?_
  refine TE.next ?_
  refine TW.ret ?_
  exact TE.leaf fun _ _ hf_ hs_ => ret_any (rs := [.tmp 2]) (vs := [strV E4]) (.inl rfl) rfl ⟨rfl, trivial⟩ hf_ hs_ ⟨(), rfl, hs_.pulls [] rfl⟩

/-- loop.example/g00950/spec.Crc -/
noncomputable def spec_Crc (s : List UInt8) : Option Int :=
  bindC (loopO (fun (S1 : Int × Int) => if (decide (S1.2 < ((s.length : Nat) : Int))) = true then ((sidx s S1.2).bind fun E6 =>
  bindC (loopO (fun (S8 : Int × Int) => if (decide (S8.2 < (8 : Int))) = true then (bindC (if (decide (Int.tmod S8.1 (2 : Int) = (1 : Int))) = true then (some (.go (ixor .i64 (IntKind.i64.wrap (Int.tdiv S8.1 (2 : Int))) (2197175160 : Int))))
  else (some (.go (IntKind.i64.wrap (Int.tdiv S8.1 (2 : Int))))))
  (fun (T13 : Int) => some (.go (T13, IntKind.i64.wrap (S8.2 + (1 : Int))))))
  else (some (.done (.go S8.1))))
  (ixor .i64 S1.1 (IntKind.i64.wrap ((E6.toNat : Nat) : Int)), (0 : Int)))
  (fun (T10 : Int) => some (.go (T10, IntKind.i64.wrap (S1.2 + (1 : Int))))))
  else (some (.done (.go S1.1))))
  ((4294967295 : Int), (0 : Int)))
  (fun (T3 : Int) => some (IntKind.i64.wrap ((4294967295 : Int) - T3)))

theorem spec_Crc_con (s : List UInt8)  (r : Int) (hm : spec_Crc s = some r) :
    Con Try.prog 30 [strV s] [] [] (fun _ : Unit => .int .i64 r) (fun _ => []) := by
  refine Con.intro (args := [strV s]) (n := 33) (val := fun r (_ : Unit) => .int .i64 r) (post := fun _ _ => []) (m := spec_Crc s) Try.func30 rfl rfl rfl hm ?_
  intro w S _
  unfold spec_Crc
  refine TW.seq ?_
  refine TW.region ?_
  refine TO.y (Y.assign rfl) rfl rfl rfl ?_
  refine TO.nil ?_
  refine TE.next ?_
  refine TW.seq ?_
  refine TW.region ?_
  refine TO.y (Y.assign rfl) rfl rfl rfl ?_
  refine TO.nil ?_
  refine TE.next ?_
  refine TW.seq ?_
  refine TW.seq ?_
  refine TW.region ?_
  refine TO.y (Y.assign rfl) rfl rfl rfl ?_
  refine TO.nil ?_
  refine TE.next ?_
  refine TW.joinX (τ := Int) (X := Unit) (fun T _ => [(3, .int .i64 T)]) (fun _ _ => []) ?_ (fun T3 X4 => ?_)
  · refine TW.block ?_
    refine TW.loopX (σ := Int × Int) (X := Unit) (fun T _ => [(0, strV s), (3, .int .i64 T.1), (4, .int .i64 T.2)]) (fun _ _ => []) () [] ⟨rfl, rfl, rfl, trivial⟩ rfl (fun S1 X2 => ?_)
    refine TW.seq ?_
    refine TW.seq ?_
    refine TW.region ?_
    refine TO.y (Y.move rfl) rfl rfl rfl ?_
    refine TO.y (Y.move rfl) rfl rfl rfl ?_
    refine TO.y (Y.slen ks9 rfl) rfl rfl rfl ?_
    refine TO.y (Y.lss rfl rfl) rfl rfl rfl ?_
    refine TO.nil ?_
    refine TE.next ?_
    refine TW.cond rfl (fun H5 => ?_) (fun H5 => ?_)
    · refine TW.skip ?_
      refine TE.next ?_
      refine TW.seq ?_
      refine TW.block ?_
      refine TW.seq ?_
      refine TW.region ?_
      refine TO.y (Y.move rfl) rfl rfl rfl ?_
      refine TO.y (Y.move rfl) rfl rfl rfl ?_
      refine TO.y (Y.move rfl) rfl rfl rfl ?_
      refine TO.bind fun E6 H7 => ?_
      refine TO.y (Y.sidx H7 ks9 rfl rfl) rfl rfl rfl ?_
      refine TO.y (Y.conv ki5 ki3 rfl) rfl rfl rfl ?_
      refine TO.y (Y.xor rfl rfl) rfl rfl rfl ?_
      refine TO.y (Y.assign rfl) rfl rfl rfl ?_
      refine TO.nil ?_
      refine TE.next ?_
      refine TW.seq ?_
      refine TW.region ?_
      refine TO.y (Y.assign rfl) rfl rfl rfl ?_
      refine TO.nil ?_
      refine TE.next ?_
      refine TW.joinX (τ := Int) (X := Unit) (fun T _ => [(0, strV s), (3, .int .i64 T), (4, .int .i64 S1.2)]) (fun _ _ => []) ?_ (fun T10 X11 => ?_)
      · refine TW.block ?_
        refine TW.loopX (σ := Int × Int) (X := Unit) (fun T _ => [(0, strV s), (3, .int .i64 T.1), (4, .int .i64 S1.2), (5, .int .i64 T.2)]) (fun _ _ => []) () [] ⟨rfl, rfl, rfl, rfl, trivial⟩ rfl (fun S8 X9 => ?_)
        refine TW.seq ?_
        refine TW.seq ?_
        refine TW.region ?_
        refine TO.y (Y.move rfl) rfl rfl rfl ?_
        refine TO.y (Y.lss rfl rfl) rfl rfl rfl ?_
        refine TO.nil ?_
        refine TE.next ?_
        refine TW.cond rfl (fun H12 => ?_) (fun H12 => ?_)
        · refine TW.skip ?_
          refine TE.next ?_
          refine TW.seq ?_
          refine TW.block ?_
          refine TW.seq ?_
          refine TW.region ?_
          refine TO.y (Y.move rfl) rfl rfl rfl ?_
          refine TO.y (Y.rem (by decide) rfl rfl) rfl rfl rfl ?_
          refine TO.y (Y.assign rfl) rfl rfl rfl ?_
          refine TO.nil ?_
          refine TE.next ?_
          refine TW.seq ?_
          refine TW.region ?_
          refine TO.y (Y.move rfl) rfl rfl rfl ?_
          refine TO.y (Y.quo (by decide) rfl rfl) rfl rfl rfl ?_
          refine TO.y (Y.assign rfl) rfl rfl rfl ?_
          refine TO.nil ?_
          refine TE.next ?_
          refine TW.seq ?_
          refine TW.region ?_
          refine TO.y (Y.move rfl) rfl rfl rfl ?_
          refine TO.y (Y.eql rfl rfl) rfl rfl rfl ?_
          refine TO.nil ?_
          refine TE.next ?_
          refine TW.joinX (τ := Int) (X := Unit) (fun T _ => [(0, strV s), (3, .int .i64 T), (4, .int .i64 S1.2), (5, .int .i64 S8.2)]) (fun _ _ => []) ?_ (fun T13 X14 => ?_)
          · refine TW.cond rfl (fun H15 => ?_) (fun H15 => ?_)
            · refine TW.region ?_
              refine TO.y (Y.move rfl) rfl rfl rfl ?_
              refine TO.y (Y.xor rfl rfl) rfl rfl rfl ?_
              refine TO.y (Y.assign rfl) rfl rfl rfl ?_
              refine TO.nil ?_
              exact TE.jn_go () [] ⟨rfl, rfl, rfl, rfl, trivial⟩ rfl
            · refine TW.skip ?_
              exact TE.jn_go () [] ⟨rfl, rfl, rfl, rfl, trivial⟩ rfl
          · refine TE.block_normal ?_
            refine TE.next ?_
            refine TW.region ?_
            refine TO.y (Y.move rfl) rfl rfl rfl ?_
            refine TO.y (Y.add rfl rfl) rfl rfl rfl ?_
            refine TO.y (Y.assign rfl) rfl rfl rfl ?_
            refine TO.nil ?_
            exact TE.lp_go () [] ⟨rfl, rfl, rfl, rfl, trivial⟩ rfl
        · refine TW.exit ?_
          refine TE.then_exit ?_
          refine TE.lp_exit ?_
          refine TE.block_exit ?_
          exact TE.jn_go () [] ⟨rfl, rfl, rfl, trivial⟩ rfl
      · refine TE.block_normal ?_
        refine TE.next ?_
        refine TW.region ?_
        refine TO.y (Y.move rfl) rfl rfl rfl ?_
        refine TO.y (Y.add rfl rfl) rfl rfl rfl ?_
        refine TO.y (Y.assign rfl) rfl rfl rfl ?_
        refine TO.nil ?_
        exact TE.lp_go () [] ⟨rfl, rfl, rfl, trivial⟩ rfl
    · refine TW.exit ?_
      refine TE.then_exit ?_
      refine TE.lp_exit ?_
      refine TE.block_exit ?_
      exact TE.jn_go () [] ⟨rfl, trivial⟩ rfl
  · refine TE.next ?_
    refine TW.seq ?_
    refine TW.region ?_
    refine TO.y (Y.move rfl) rfl rfl rfl ?_
    refine TO.y (Y.sub rfl rfl) rfl rfl rfl ?_
    refine TO.y (Y.assign rfl) rfl rfl rfl ?_
    refine TO.nil ?_
    refine TE.next ?_
    refine TW.ret ?_
    exact TE.leaf fun _ _ hf_ hs_ => ret_any (rs := [.tmp 2]) (vs := [.int .i64 (IntKind.i64.wrap ((4294967295 : Int) - T3))]) (.inl rfl) rfl ⟨rfl, trivial⟩ hf_ hs_ ⟨(), rfl, hs_.pulls [] rfl⟩

/-- loop.example/g00950/spec.Fixed -/
noncomputable def spec_Fixed (n : Int) (width : Int) : Option (List UInt8) :=
  ((spec_l1In width (1 : Int) (7 : Int)).bind fun R3 =>
  if (!R3) = true then (some true)
  else (some (decide (n < (0 : Int))))).bind (fun (T1 : Bool) =>
  if T1 = true then (some ([]))
  else (bindC (loopO (fun (S8 : Int × List UInt8 × Int) => if (decide (S8.2.2 < width)) = true then ((cat ([toU8 (Int.tmod S8.1 (256 : Int))]) S8.2.1).bind fun E14 =>
  some (.go (IntKind.i64.wrap (Int.tdiv S8.1 (256 : Int)), E14, IntKind.i64.wrap (S8.2.2 + (1 : Int)))))
  else (some (.done (.go (S8.1, S8.2.1)))))
  (n, [], (0 : Int)))
  (fun (T10 : Int × List UInt8) => if (decide (T10.1 > (0 : Int))) = true then (some ([]))
  else (some T10.2))))

theorem spec_Fixed_con (n : Int) (width : Int)  (r : List UInt8) (hm : spec_Fixed n width = some r) :
    Con Try.prog 29 [.int .i64 n, .int .i64 width] [] [] (fun _ : Unit => strV r) (fun _ => []) := by
  refine Con.intro (args := [.int .i64 n, .int .i64 width]) (n := 31) (val := fun r (_ : Unit) => strV r) (post := fun _ _ => []) (m := spec_Fixed n width) Try.func29 rfl rfl rfl hm ?_
  intro w S _
  unfold spec_Fixed
  refine TW.seq ?_
  refine TW.region ?_
  refine TO.y (Y.assign rfl) rfl rfl rfl ?_
  refine TO.nil ?_
  refine TE.next ?_
  refine TW.seq ?_
  refine TW.seq ?_
  refine TW.joinBX (τ := Bool) (X := Unit) (fun T _ => [(0, .int .i64 n), (1, .int .i64 width), (13, .bool T)]) (fun _ _ => []) ?_ (fun T1 X2 => ?_)
  · refine TW.region ?_
    refine TO.y (Y.move rfl) rfl rfl rfl ?_
    refine TO.bind fun R3 H4 => ?_
    refine TO.ef (Ef.call (rest := []) [] (spec_l1In_con width (1 : Int) (7 : Int)  R3 H4) kc53 rfl rfl trivial) rfl rfl rfl (fun _ => ?_)
    refine TO.y (Y.not rfl) rfl rfl rfl ?_
    refine TO.y (Y.move rfl) rfl rfl rfl ?_
    refine TO.ite (b := !R3) (fun H6 => ?_) (fun H6 => ?_)
    · refine TO.off (Gd.at 3 false 10 (!R3) rfl rfl rfl (beq_tf H6)) rfl rfl ?_
      refine TO.off (Gd.at 3 false 10 (!R3) rfl rfl rfl (beq_tf H6)) rfl rfl ?_
      refine TO.y (Y.pick_t H6 rfl rfl) rfl rfl rfl ?_
      refine TO.nil ?_
      exact TE.jb_go () [] ⟨rfl, rfl, rfl, trivial⟩ rfl
    · refine TO.y (Y.move rfl) (Gd.at 3 false 10 (!R3) rfl rfl rfl (beq_ff H6)) rfl rfl ?_
      refine TO.y (Y.lss rfl rfl) (Gd.at 3 false 10 (!R3) rfl rfl rfl (beq_ff H6)) rfl rfl ?_
      refine TO.y (Y.pick_f H6 rfl rfl) rfl rfl rfl ?_
      refine TO.nil ?_
      exact TE.jb_go () [] ⟨rfl, rfl, rfl, trivial⟩ rfl
  · refine TE.next ?_
    refine TW.cond rfl (fun H7 => ?_) (fun H7 => ?_)
    · refine TW.seq ?_
      refine TW.region ?_
      refine TO.y (Y.assign rfl) rfl rfl rfl ?_
      refine TO.nil ?_
      refine TE.next ?_
      refine TW.ret ?_
      refine TE.then_ret ?_
      exact TE.leaf fun _ _ hf_ hs_ => ret_any (rs := [.tmp 4]) (vs := [strV ([])]) (.inl rfl) rfl ⟨rfl, trivial⟩ hf_ hs_ ⟨(), rfl, hs_.pulls [] rfl⟩
    · refine TW.skip ?_
      refine TE.next ?_
      refine TW.seq ?_
      refine TW.region ?_
      refine TO.y (Y.assign rfl) rfl rfl rfl ?_
      refine TO.nil ?_
      refine TE.next ?_
      refine TW.seq ?_
      refine TW.seq ?_
      refine TW.region ?_
      refine TO.y (Y.assign rfl) rfl rfl rfl ?_
      refine TO.nil ?_
      refine TE.next ?_
      refine TW.joinX (τ := Int × List UInt8) (X := Unit) (fun T _ => [(0, .int .i64 T.1), (5, strV T.2)]) (fun _ _ => []) ?_ (fun T10 X11 => ?_)
      · refine TW.block ?_
        refine TW.loopX (σ := Int × List UInt8 × Int) (X := Unit) (fun T _ => [(0, .int .i64 T.1), (1, .int .i64 width), (5, strV T.2.1), (6, .int .i64 T.2.2)]) (fun _ _ => []) () [] ⟨rfl, rfl, rfl, rfl, trivial⟩ rfl (fun S8 X9 => ?_)
        refine TW.seq ?_
        refine TW.seq ?_
        refine TW.region ?_
        refine TO.y (Y.move rfl) rfl rfl rfl ?_
        refine TO.y (Y.move rfl) rfl rfl rfl ?_
        refine TO.y (Y.lss rfl rfl) rfl rfl rfl ?_
        refine TO.nil ?_
        refine TE.next ?_
        refine TW.cond rfl (fun H12 => ?_) (fun H12 => ?_)
        · refine TW.skip ?_
          refine TE.next ?_
          refine TW.seq ?_
          refine TW.block ?_
          refine TW.seq ?_
          refine TW.region ?_
          refine TO.y (Y.move rfl) rfl rfl rfl ?_
          refine TO.y (Y.rem (by decide) rfl rfl) rfl rfl rfl ?_
          refine TO.y (Y.conv8 ki3 ki5 rfl) rfl rfl rfl ?_
          refine TO.ef (Ef.buildSlice (α := UInt8) (Vs := [.int .u8 (((toU8 (Int.tmod S8.1 (256 : Int))).toNat : Nat) : Int)]) [toU8 (Int.tmod S8.1 (256 : Int))] ke59 kz5 rfl rfl rfl rfl rfl) rfl rfl rfl (fun B13 => ?_)
          refine TO.y (Y.toStr ke59 ki5 ks9 (Can.own 0 rfl) rfl) rfl rfl rfl ?_
          refine TO.y (Y.move rfl) rfl rfl rfl ?_
          refine TO.bind fun E14 H15 => ?_
          refine TO.y (Y.cat H15 rfl rfl) rfl rfl rfl ?_
          refine TO.y (Y.assign rfl) rfl rfl rfl ?_
          refine TO.nil ?_
          refine TE.next ?_
          refine TW.region ?_
          refine TO.y (Y.move rfl) rfl rfl rfl ?_
          refine TO.y (Y.quo (by decide) rfl rfl) rfl rfl rfl ?_
          refine TO.y (Y.assign rfl) rfl rfl rfl ?_
          refine TO.nil ?_
          refine TE.block_normal ?_
          refine TE.next ?_
          refine TW.region ?_
          refine TO.y (Y.move rfl) rfl rfl rfl ?_
          refine TO.y (Y.add rfl rfl) rfl rfl rfl ?_
          refine TO.y (Y.assign rfl) rfl rfl rfl ?_
          refine TO.nil ?_
          exact TE.lp_go () [] ⟨rfl, rfl, rfl, rfl, trivial⟩ rfl
        · refine TW.exit ?_
          refine TE.then_exit ?_
          refine TE.lp_exit ?_
          refine TE.block_exit ?_
          exact TE.jn_go () [] ⟨rfl, rfl, trivial⟩ rfl
      · refine TE.next ?_
        refine TW.seq ?_
        refine TW.seq ?_
        refine TW.region ?_
        refine TO.y (Y.move rfl) rfl rfl rfl ?_
        refine TO.y (Y.gtr rfl rfl) rfl rfl rfl ?_
        refine TO.nil ?_
        refine TE.next ?_
        refine TW.cond rfl (fun H16 => ?_) (fun H16 => ?_)
        · refine TW.seq ?_
          refine TW.region ?_
          refine TO.y (Y.assign rfl) rfl rfl rfl ?_
          refine TO.nil ?_
          refine TE.next ?_
          refine TW.ret ?_
          refine TE.then_ret ?_
          exact TE.leaf fun _ _ hf_ hs_ => ret_any (rs := [.tmp 4]) (vs := [strV ([])]) (.inl rfl) rfl ⟨rfl, trivial⟩ hf_ hs_ ⟨(), rfl, hs_.pulls [] rfl⟩
        · refine TW.skip ?_
          refine TE.next ?_
          refine TW.seq ?_
          refine TW.region ?_
          refine TO.y (Y.move rfl) rfl rfl rfl ?_
          refine TO.y (Y.assign rfl) rfl rfl rfl ?_
          refine TO.nil ?_
          refine TE.next ?_
          refine TW.ret ?_
          exact TE.leaf fun _ _ hf_ hs_ => ret_any (rs := [.tmp 4]) (vs := [strV T10.2]) (.inl rfl) rfl ⟨rfl, trivial⟩ hf_ hs_ ⟨(), rfl, hs_.pulls [] rfl⟩

/-- loop.example/g00950/spec.ShowEdit -/
noncomputable def spec_ShowEdit (e : Edit) : Option (List UInt8) :=
  (spec_l17Ok e).bind fun R2 =>
  if (!R2) = true then (some ([]))
  else ((spec_Var ((e.Drop.length : Nat) : Int)).bind fun R6 =>
  bindC (loopO (fun (S9 : List UInt8 × Int) => if (decide (S9.2 < ((e.Drop.length : Nat) : Int))) = true then ((idx e.Drop S9.2).bind fun E14 =>
  (spec_Var E14).bind fun R16 =>
  (cat S9.1 R16).bind fun E19 =>
  some (.go (E19, IntKind.i64.wrap (S9.2 + (1 : Int)))))
  else (some (.done (.go S9.1))))
  (R6, (0 : Int)))
  (fun (T11 : List UInt8) => (spec_Var ((e.Add.length : Nat) : Int)).bind fun R21 =>
  (cat T11 R21).bind fun E24 =>
  bindC (loopO (fun (S26 : List UInt8 × Int) => if (decide (S26.2 < ((e.Add.length : Nat) : Int))) = true then ((idx e.Add S26.2).bind fun E31 =>
  (spec_Var E31.No).bind fun R34 =>
  (cat S26.1 R34).bind fun E37 =>
  (spec_Var E31.Level).bind fun R39 =>
  (cat E37 R39).bind fun E42 =>
  (spec_l6Piece E31.Lo).bind fun R44 =>
  (cat E42 R44).bind fun E47 =>
  (spec_l6Piece E31.Hi).bind fun R49 =>
  (cat E47 R49).bind fun E52 =>
  some (.go (E52, IntKind.i64.wrap (S26.2 + (1 : Int)))))
  else (some (.done (.go S26.1))))
  (E24, (0 : Int)))
  (fun (T28 : List UInt8) => (spec_Crc T28).bind fun R54 =>
  (spec_Fixed R54 (4 : Int)).bind fun R57 =>
  (cat R57 T28).bind fun E60 =>
  some E60)))

theorem spec_ShowEdit_con (e : Edit) (V_e0 : Value) (V_e1 : Value) (r : List UInt8) (hm : spec_ShowEdit e = some r) :
    Con Try.prog 7 [.agg #[V_e0, V_e1]] [] [(V_e0, lc e.Add), (V_e1, lc e.Drop)] (fun _ : Unit => strV r) (fun _ => []) := by
  refine Con.intro (args := [.agg #[V_e0, V_e1]]) (n := 69) (val := fun r (_ : Unit) => strV r) (post := fun _ _ => []) (m := spec_ShowEdit e) Try.func7 rfl rfl rfl hm ?_
  intro w S hrd
  have HB_V_e0 := hrd _ (.head _)
  have HB_V_e1 := hrd _ (.tail _ (.head _))
  clear hrd
  unfold spec_ShowEdit
  refine TW.seq ?_
  refine TW.region ?_
  refine TO.ef (Ef.box rfl (Cel.agg ⟨(One.can (Base.can HB_V_e0)), (One.can (Base.can HB_V_e1)), trivial⟩)) rfl rfl rfl (fun B1 => ?_)
  refine TO.y (Y.assign rfl) rfl rfl rfl ?_
  refine TO.nil ?_
  refine TE.next ?_
  refine TW.seq ?_
  refine TW.seq ?_
  refine TW.region ?_
  refine TO.y (Y.load_box (v := .agg #[V_e0, V_e1]) 0 kk30 rfl rfl rfl) rfl rfl rfl ?_
  refine TO.bind fun R2 H3 => ?_
  refine TO.ef (Ef.call (rest := [.box B1 30 [V_e0, V_e1]]) [0] (spec_l17Ok_con e V_e0 V_e1 R2 H3) kc26 rfl rfl ⟨(Base.can HB_V_e0), (Base.can HB_V_e1), trivial⟩) rfl rfl rfl (fun _ => ?_)
  refine TO.y (Y.not rfl) rfl rfl rfl ?_
  refine TO.nil ?_
  refine TE.next ?_
  refine TW.cond rfl (fun H5 => ?_) (fun H5 => ?_)
  · refine TW.seq ?_
    refine TW.region ?_
    refine TO.y (Y.assign rfl) rfl rfl rfl ?_
    refine TO.nil ?_
    refine TE.next ?_
    refine TW.ret ?_
    refine TE.then_ret ?_
    exact TE.leaf fun _ _ hf_ hs_ => ret_any (rs := [.tmp 2]) (vs := [strV ([])]) (.inl rfl) rfl ⟨rfl, trivial⟩ hf_ hs_ ⟨(), rfl, hs_.pulls [] rfl⟩
  · refine TW.skip ?_
    refine TE.next ?_
    refine TW.seq ?_
    refine TW.region ?_
    refine TO.y (Y.field_box kf30_1 rfl rfl) rfl rfl rfl ?_
    refine TO.y (Y.load_box (v := V_e1) 0 kk23 rfl rfl rfl) rfl rfl rfl ?_
    refine TO.y (Y.len (l := e.Drop) ke23 (Base.can HB_V_e1) rfl) rfl rfl rfl ?_
    refine TO.bind fun R6 H7 => ?_
    refine TO.ef (Ef.call (rest := [.box B1 30 [V_e0, V_e1]]) [0] (spec_Var_con ((e.Drop.length : Nat) : Int)  R6 H7) kc27 rfl rfl trivial) rfl rfl rfl (fun _ => ?_)
    refine TO.y (Y.assign rfl) rfl rfl rfl ?_
    refine TO.nil ?_
    refine TE.next ?_
    refine TW.seq ?_
    refine TW.seq ?_
    refine TW.region ?_
    refine TO.y (Y.assign rfl) rfl rfl rfl ?_
    refine TO.nil ?_
    refine TE.next ?_
    refine TW.joinX (τ := List UInt8) (X := Unit) (fun T _ => [(1, .pointer (some ⟨B1, 0, none⟩)), (3, strV T)]) (fun _ _ => [.box B1 30 [V_e0, V_e1]]) ?_ (fun T11 X12 => ?_)
    · refine TW.block ?_
      refine TW.loopX (σ := List UInt8 × Int) (X := Unit) (fun T _ => [(1, .pointer (some ⟨B1, 0, none⟩)), (3, strV T.1), (4, .int .i64 T.2)]) (fun _ _ => [.box B1 30 [V_e0, V_e1]]) () [0] ⟨rfl, rfl, rfl, trivial⟩ rfl (fun S9 X10 => ?_)
      refine TW.seq ?_
      refine TW.seq ?_
      refine TW.region ?_
      refine TO.y (Y.move rfl) rfl rfl rfl ?_
      refine TO.y (Y.field_box kf30_1 rfl rfl) rfl rfl rfl ?_
      refine TO.y (Y.load_box (v := V_e1) 0 kk23 rfl rfl rfl) rfl rfl rfl ?_
      refine TO.y (Y.len (l := e.Drop) ke23 (Base.can HB_V_e1) rfl) rfl rfl rfl ?_
      refine TO.y (Y.lss rfl rfl) rfl rfl rfl ?_
      refine TO.nil ?_
      refine TE.next ?_
      refine TW.cond rfl (fun H13 => ?_) (fun H13 => ?_)
      · refine TW.skip ?_
        refine TE.next ?_
        refine TW.seq ?_
        refine TW.block ?_
        refine TW.region ?_
        refine TO.y (Y.move rfl) rfl rfl rfl ?_
        refine TO.y (Y.field_box kf30_1 rfl rfl) rfl rfl rfl ?_
        refine TO.y (Y.load_box (v := V_e1) 0 kk23 rfl rfl rfl) rfl rfl rfl ?_
        refine TO.y (Y.move rfl) rfl rfl rfl ?_
        refine TO.bind fun E14 H15 => ?_
        refine TO.y (Y.index ke23 (Base.can HB_V_e1) H15 rfl rfl) rfl rfl rfl ?_
        refine TO.y (Y.load_el (us := [.int .i64 E14]) (u := .int .i64 E14) kk3 rfl (Base.can HB_V_e1) (idx_get H15).2.2 rfl rfl rfl rfl rfl) rfl rfl rfl ?_
        refine TO.bind fun R16 H17 => ?_
        refine TO.ef (Ef.call (rest := [.box B1 30 [V_e0, V_e1]]) [0] (spec_Var_con E14  R16 H17) kc27 rfl rfl trivial) rfl rfl rfl (fun _ => ?_)
        refine TO.bind fun E19 H20 => ?_
        refine TO.y (Y.cat H20 rfl rfl) rfl rfl rfl ?_
        refine TO.y (Y.assign rfl) rfl rfl rfl ?_
        refine TO.nil ?_
        refine TE.block_normal ?_
        refine TE.next ?_
        refine TW.region ?_
        refine TO.y (Y.move rfl) rfl rfl rfl ?_
        refine TO.y (Y.add rfl rfl) rfl rfl rfl ?_
        refine TO.y (Y.assign rfl) rfl rfl rfl ?_
        refine TO.nil ?_
        exact TE.lp_go () [0] ⟨rfl, rfl, rfl, trivial⟩ rfl
      · refine TW.exit ?_
        refine TE.then_exit ?_
        refine TE.lp_exit ?_
        refine TE.block_exit ?_
        exact TE.jn_go () [0] ⟨rfl, rfl, trivial⟩ rfl
    · refine TE.next ?_
      refine TW.seq ?_
      refine TW.region ?_
      refine TO.y (Y.move rfl) rfl rfl rfl ?_
      refine TO.y (Y.field_box kf30_0 rfl rfl) rfl rfl rfl ?_
      refine TO.y (Y.load_box (v := V_e0) 0 kk28 rfl rfl rfl) rfl rfl rfl ?_
      refine TO.y (Y.len (l := e.Add) ke28 (Base.can HB_V_e0) rfl) rfl rfl rfl ?_
      refine TO.bind fun R21 H22 => ?_
      refine TO.ef (Ef.call (rest := [.box B1 30 [V_e0, V_e1]]) [0] (spec_Var_con ((e.Add.length : Nat) : Int)  R21 H22) kc27 rfl rfl trivial) rfl rfl rfl (fun _ => ?_)
      refine TO.bind fun E24 H25 => ?_
      refine TO.y (Y.cat H25 rfl rfl) rfl rfl rfl ?_
      refine TO.y (Y.assign rfl) rfl rfl rfl ?_
      refine TO.nil ?_
      refine TE.next ?_
      refine TW.seq ?_
      refine TW.seq ?_
      refine TW.region ?_
      refine TO.y (Y.assign rfl) rfl rfl rfl ?_
      refine TO.nil ?_
      refine TE.next ?_
      refine TW.joinX (τ := List UInt8) (X := Unit) (fun T _ => [(3, strV T)]) (fun _ _ => []) ?_ (fun T28 X29 => ?_)
      · refine TW.block ?_
        refine TW.loopX (σ := List UInt8 × Int) (X := Unit) (fun T _ => [(1, .pointer (some ⟨B1, 0, none⟩)), (3, strV T.1), (5, .int .i64 T.2)]) (fun _ _ => [.box B1 30 [V_e0, V_e1]]) () [0] ⟨rfl, rfl, rfl, trivial⟩ rfl (fun S26 X27 => ?_)
        refine TW.seq ?_
        refine TW.seq ?_
        refine TW.region ?_
        refine TO.y (Y.move rfl) rfl rfl rfl ?_
        refine TO.y (Y.field_box kf30_0 rfl rfl) rfl rfl rfl ?_
        refine TO.y (Y.load_box (v := V_e0) 0 kk28 rfl rfl rfl) rfl rfl rfl ?_
        refine TO.y (Y.len (l := e.Add) ke28 (Base.can HB_V_e0) rfl) rfl rfl rfl ?_
        refine TO.y (Y.lss rfl rfl) rfl rfl rfl ?_
        refine TO.nil ?_
        refine TE.next ?_
        refine TW.cond rfl (fun H30 => ?_) (fun H30 => ?_)
        · refine TW.skip ?_
          refine TE.next ?_
          refine TW.seq ?_
          refine TW.block ?_
          refine TW.seq ?_
          refine TW.region ?_
          refine TO.y (Y.field_box kf30_0 rfl rfl) rfl rfl rfl ?_
          refine TO.y (Y.load_box (v := V_e0) 0 kk28 rfl rfl rfl) rfl rfl rfl ?_
          refine TO.y (Y.move rfl) rfl rfl rfl ?_
          refine TO.bind fun E31 H32 => ?_
          refine TO.y (Y.index ke28 (Base.can HB_V_e0) H32 rfl rfl) rfl rfl rfl ?_
          refine TO.y (Y.load_el (us := [.int .i64 E31.No, .int .i64 E31.Level, strV E31.Lo, strV E31.Hi]) (u := .agg #[.int .i64 E31.No, .int .i64 E31.Level, strV E31.Lo, strV E31.Hi]) kk52 rfl (Base.can HB_V_e0) (idx_get H32).2.2 rfl rfl rfl rfl rfl) rfl rfl rfl ?_
          refine TO.ef (Ef.alloc kz52 rfl) rfl rfl rfl (fun B33 => ?_)
          refine TO.ef0 (Ef.store_box (us := [.int .i64 E31.No, .int .i64 E31.Level, strV E31.Lo, strV E31.Hi]) (vs' := [.int .i64 E31.No, .int .i64 E31.Level, strV E31.Lo, strV E31.Hi]) (is' := [.box B33 52 [.int .i64 E31.No, .int .i64 E31.Level, strV E31.Lo, strV E31.Hi], .box B1 30 [V_e0, V_e1]]) 0 kk52 rfl rfl rfl (Cel.plain rfl rfl) rfl rfl rfl rfl) rfl rfl (fun _ => ?_)
          refine TO.nil ?_
          refine TE.next ?_
          refine TW.draw (isH := [.box B33 52 [.int .i64 E31.No, .int .i64 E31.Level, strV E31.Lo, strV E31.Hi], .box B1 30 [V_e0, V_e1]]) hMix ?_
          refine TA.y (listed' := #[true, false, false, false, false, false, false, false, false, false, false, false, false, false, false, false, false, false]) 0 [0, 0] rfl (Y.move rfl) rfl rfl rfl (by kernel_rfl) (by kernel_rfl) (by kernel_rfl) rfl rfl ?_
          refine TA.y (listed' := #[true, true, false, false, false, false, false, false, false, false, false, false, false, false, false, false, false, false]) 1 [0, 0] rfl (Y.field_box kf52_0 rfl rfl) rfl rfl rfl (by kernel_rfl) (by kernel_rfl) (by kernel_rfl) rfl rfl ?_
          refine TA.y (listed' := #[true, true, true, false, false, false, false, false, false, false, false, false, false, false, false, false, false, false]) 2 [0, 0] rfl (Y.load_box (v := .int .i64 E31.No) 0 kk3 rfl rfl rfl) rfl rfl rfl (by kernel_rfl) (by kernel_rfl) (by kernel_rfl) rfl rfl ?_
          refine TA.y (listed' := #[true, true, true, false, false, true, false, false, false, false, false, false, false, false, false, false, false, false]) 5 [0, 0] rfl (Y.field_box kf52_1 rfl rfl) rfl rfl rfl (by kernel_rfl) (by kernel_rfl) (by kernel_rfl) rfl rfl ?_
          refine TA.y (listed' := #[true, true, true, false, false, true, true, false, false, false, false, false, false, false, false, false, false, false]) 6 [0, 0] rfl (Y.load_box (v := .int .i64 E31.Level) 0 kk3 rfl rfl rfl) rfl rfl rfl (by kernel_rfl) (by kernel_rfl) (by kernel_rfl) rfl rfl ?_
          refine TA.y (listed' := #[true, true, true, false, false, true, true, false, false, true, false, false, false, false, false, false, false, false]) 9 [0, 0] rfl (Y.field_box kf52_2 rfl rfl) rfl rfl rfl (by kernel_rfl) (by kernel_rfl) (by kernel_rfl) rfl rfl ?_
          refine TA.y (listed' := #[true, true, true, false, false, true, true, false, false, true, true, false, false, false, false, false, false, false]) 10 [0, 0] rfl (Y.load_box (v := strV E31.Lo) 0 kk9 rfl rfl rfl) rfl rfl rfl (by kernel_rfl) (by kernel_rfl) (by kernel_rfl) rfl rfl ?_
          refine TA.y (listed' := #[true, true, true, false, false, true, true, false, false, true, true, false, false, true, false, false, false, false]) 13 [0, 0] rfl (Y.field_box kf52_3 rfl rfl) rfl rfl rfl (by kernel_rfl) (by kernel_rfl) (by kernel_rfl) rfl rfl ?_
          refine TA.y (listed' := #[true, true, true, false, false, true, true, false, false, true, true, false, false, true, true, false, false, false]) 14 [0, 0] rfl (Y.load_box (v := strV E31.Hi) 0 kk9 rfl rfl rfl) rfl rfl rfl (by kernel_rfl) (by kernel_rfl) (by kernel_rfl) rfl rfl ?_
          refine TA.bind fun R34 H35 => ?_
          refine TA.one 3 (by kernel_rfl) ?_
          refine TX.ef (listed' := #[true, true, true, true, false, true, true, false, false, true, true, false, false, true, true, false, false, false]) [0, 0] rfl (Ef.call (rest := [.box B33 52 [.int .i64 E31.No, .int .i64 E31.Level, strV E31.Lo, strV E31.Hi], .box B1 30 [V_e0, V_e1]]) [0, 0] (spec_Var_con E31.No  R34 H35) kc27 rfl rfl trivial) rfl rfl rfl rfl (fun _ => rfl) (fun _ => ?_)
          refine TA.bind fun E37 H38 => ?_
          refine TA.y (listed' := #[true, true, true, true, true, true, true, false, false, true, true, false, false, true, true, false, false, false]) 4 [0, 0] rfl (Y.cat H38 rfl rfl) rfl rfl rfl (by kernel_rfl) (by kernel_rfl) (by kernel_rfl) rfl rfl ?_
          refine TA.bind fun R39 H40 => ?_
          refine TA.one 7 (by kernel_rfl) ?_
          refine TX.ef (listed' := #[true, true, true, true, true, true, true, true, false, true, true, false, false, true, true, false, false, false]) [0, 0] rfl (Ef.call (rest := [.box B33 52 [.int .i64 E31.No, .int .i64 E31.Level, strV E31.Lo, strV E31.Hi], .box B1 30 [V_e0, V_e1]]) [0, 0] (spec_Var_con E31.Level  R39 H40) kc27 rfl rfl trivial) rfl rfl rfl rfl (fun _ => rfl) (fun _ => ?_)
          refine TA.bind fun E42 H43 => ?_
          refine TA.y (listed' := #[true, true, true, true, true, true, true, true, true, true, true, false, false, true, true, false, false, false]) 8 [0, 0] rfl (Y.cat H43 rfl rfl) rfl rfl rfl (by kernel_rfl) (by kernel_rfl) (by kernel_rfl) rfl rfl ?_
          refine TA.bind fun R44 H45 => ?_
          refine TA.one 11 (by kernel_rfl) ?_
          refine TX.ef (listed' := #[true, true, true, true, true, true, true, true, true, true, true, true, false, true, true, false, false, false]) [0, 0] rfl (Ef.call (rest := [.box B33 52 [.int .i64 E31.No, .int .i64 E31.Level, strV E31.Lo, strV E31.Hi], .box B1 30 [V_e0, V_e1]]) [0, 0] (spec_l6Piece_con E31.Lo  R44 H45) kc28 rfl rfl trivial) rfl rfl rfl rfl (fun _ => rfl) (fun _ => ?_)
          refine TA.bind fun E47 H48 => ?_
          refine TA.y (listed' := #[true, true, true, true, true, true, true, true, true, true, true, true, true, true, true, false, false, false]) 12 [0, 0] rfl (Y.cat H48 rfl rfl) rfl rfl rfl (by kernel_rfl) (by kernel_rfl) (by kernel_rfl) rfl rfl ?_
          refine TA.bind fun R49 H50 => ?_
          refine TA.one 15 (by kernel_rfl) ?_
          refine TX.ef (listed' := #[true, true, true, true, true, true, true, true, true, true, true, true, true, true, true, true, false, false]) [0, 0] rfl (Ef.call (rest := [.box B33 52 [.int .i64 E31.No, .int .i64 E31.Level, strV E31.Lo, strV E31.Hi], .box B1 30 [V_e0, V_e1]]) [0, 0] (spec_l6Piece_con E31.Hi  R49 H50) kc28 rfl rfl trivial) rfl rfl rfl rfl (fun _ => rfl) (fun _ => ?_)
          refine TA.bind fun E52 H53 => ?_
          refine TA.y (listed' := #[true, true, true, true, true, true, true, true, true, true, true, true, true, true, true, true, true, false]) 16 [0, 0] rfl (Y.cat H53 rfl rfl) rfl rfl rfl (by kernel_rfl) (by kernel_rfl) (by kernel_rfl) rfl rfl ?_
          refine TA.y (listed' := #[true, true, true, true, true, true, true, true, true, true, true, true, true, true, true, true, true, true]) 17 [0, 0] rfl (Y.assign rfl) rfl rfl rfl (by kernel_rfl) (by kernel_rfl) (by kernel_rfl) rfl rfl ?_
          refine TA.nil (by kernel_rfl) ?_
          refine TE.block_normal ?_
          refine TE.next ?_
          refine TW.region ?_
          refine TO.y (Y.move rfl) rfl rfl rfl ?_
          refine TO.y (Y.add rfl rfl) rfl rfl rfl ?_
          refine TO.y (Y.assign rfl) rfl rfl rfl ?_
          refine TO.nil ?_
          exact TE.lp_go () [1] ⟨rfl, rfl, rfl, trivial⟩ rfl
        · refine TW.exit ?_
          refine TE.then_exit ?_
          refine TE.lp_exit ?_
          refine TE.block_exit ?_
          exact TE.jn_go () [] ⟨rfl, trivial⟩ rfl
      · refine TE.next ?_
        refine TW.seq ?_
        refine TW.region ?_
        refine TO.y (Y.move rfl) rfl rfl rfl ?_
        refine TO.bind fun R54 H55 => ?_
        refine TO.ef (Ef.call (rest := []) [] (spec_Crc_con T28  R54 H55) kc30 rfl rfl trivial) rfl rfl rfl (fun _ => ?_)
        refine TO.bind fun R57 H58 => ?_
        refine TO.ef (Ef.call (rest := []) [] (spec_Fixed_con R54 (4 : Int)  R57 H58) kc29 rfl rfl trivial) rfl rfl rfl (fun _ => ?_)
        refine TO.y (Y.move rfl) rfl rfl rfl ?_
        refine TO.bind fun E60 H61 => ?_
        refine TO.y (Y.cat H61 rfl rfl) rfl rfl rfl ?_
        refine TO.y (Y.assign rfl) rfl rfl rfl ?_
        refine TO.nil ?_
        refine TE.next ?_
        refine TW.ret ?_
        exact TE.leaf fun _ _ hf_ hs_ => ret_any (rs := [.tmp 2]) (vs := [strV E60]) (.inl rfl) rfl ⟨rfl, trivial⟩ hf_ hs_ ⟨(), rfl, hs_.pulls [] rfl⟩

/-- loop.example/g00950/spec.ReadEdit -/
noncomputable def spec_ReadEdit (s : List UInt8) : Option (Edit × Bool) :=
  (spec_l6Vars s (4 : Int) (1 : Int)).bind fun R3 =>
  (if (decide (R3.2 < (0 : Int))) = true then (some true)
  else ((idx R3.1 (0 : Int)).bind fun E9 =>
  some (decide (E9 > (12 : Int))))).bind (fun (T6 : Bool) =>
  if T6 = true then (some ({ Add := ([] : List File), Drop := ([] : List Int) : Edit }, false))
  else ((idx R3.1 (0 : Int)).bind fun E14 =>
  (spec_l6Vars s R3.2 E14).bind fun R16 =>
  (spec_l6Vars s R16.2 (1 : Int)).bind fun R19 =>
  (if (decide (R19.2 < (0 : Int))) = true then (some true)
  else ((idx R19.1 (0 : Int)).bind fun E25 =>
  some (decide (E25 > (12 : Int))))).bind (fun (T22 : Bool) =>
  if T22 = true then (some ({ Add := ([] : List File), Drop := ([] : List Int) : Edit }, false))
  else (bindC (loopO (fun (S30 : Int × Int × List File) => (idx R19.1 (0 : Int)).bind fun E34 =>
  if (decide (S30.2.1 < E34)) = true then ((spec_l6Vars s S30.1 (2 : Int)).bind fun R37 =>
  (spec_l6Take s R37.2).bind fun R40 =>
  (spec_l6Take s R40.2).bind fun R43 =>
  if (decide (R43.2 < (0 : Int))) = true then (some (.done (.done ({ Add := ([] : List File), Drop := ([] : List Int) : Edit }, false))))
  else ((idx R37.1 (0 : Int)).bind fun E49 =>
  (idx R37.1 (1 : Int)).bind fun E51 =>
  (app 48 S30.2.2 ([{ No := E49, Level := E51, Lo := R40.1, Hi := R43.1 : File }])).bind fun E56 =>
  some (.go (R43.2, IntKind.i64.wrap (S30.2.1 + (1 : Int)), E56))))
  else (some (.done (.go S30.2.2))))
  (R19.2, (0 : Int), ([] : List File)))
  (fun (T32 : List File) => (spec_ShowEdit ({ Add := T32, Drop := R16.1 : Edit })).bind fun R61 =>
  if (!(decide (R61 = s))) = true then (some ({ Add := ([] : List File), Drop := ([] : List Int) : Edit }, false))
  else (some ({ Add := T32, Drop := R16.1 : Edit }, true)))))))

theorem spec_ReadEdit_con (s : List UInt8)  (r : Edit × Bool) (hm : spec_ReadEdit s = some r) :
    Con Try.prog 11 [strV s] [] [] (fun X : Value × Value => .tuple #[.agg #[X.1, X.2], .bool r.2]) (fun X => [.own X.1 (lc r.1.Add), .own X.2 (lc r.1.Drop)]) := by
  refine Con.intro (args := [strV s]) (n := 104) (val := fun r (X : Value × Value) => .tuple #[.agg #[X.1, X.2], .bool r.2]) (post := fun r X => [.own X.1 (lc r.1.Add), .own X.2 (lc r.1.Drop)]) (m := spec_ReadEdit s) Try.func11 rfl rfl rfl hm ?_
  intro w S _
  unfold spec_ReadEdit
  refine TW.seq ?_
  refine TW.region ?_
  refine TO.ef (Ef.alloc kz30 rfl) rfl rfl rfl (fun B1 => ?_)
  refine TO.y (Y.assign rfl) rfl rfl rfl ?_
  refine TO.nil ?_
  refine TE.next ?_
  refine TW.seq ?_
  refine TW.region ?_
  refine TO.y (Y.build (cells := [.slice none 0 0, .slice none 0 0]) [] kp30 kz30 trivial rfl) rfl rfl rfl ?_
  refine TO.ef (Ef.alloc kz30 rfl) rfl rfl rfl (fun B2 => ?_)
  refine TO.ef0 (Ef.store_box (us := [.slice none 0 0, .slice none 0 0]) (vs' := [.slice none 0 0, .slice none 0 0]) (is' := [.box B2 30 [.slice none 0 0, .slice none 0 0], .box B1 30 [.slice none 0 0, .slice none 0 0]]) 0 kk30 rfl rfl rfl (Cel.plain rfl rfl) rfl rfl rfl rfl) rfl rfl (fun _ => ?_)
  refine TO.nil ?_
  refine TE.next ?_
  refine TW.seq ?_
  refine TW.region ?_
  refine TO.y (Y.move rfl) rfl rfl rfl ?_
  refine TO.bind fun R3 H4 => ?_
  refine TO.ef (Ef.call (rest := [.box B2 30 [.slice none 0 0, .slice none 0 0], .box B1 30 [.slice none 0 0, .slice none 0 0]]) [0, 0] (spec_l6Vars_con s (4 : Int) (1 : Int)  R3 H4) kc40 rfl rfl trivial) rfl rfl rfl (fun Y5 => ?_)
  refine TO.y (Y.move rfl) rfl rfl rfl ?_
  refine TO.y (Y.extract rfl rfl) rfl rfl rfl ?_
  refine TO.y (Y.extract rfl rfl) rfl rfl rfl ?_
  refine TO.y (Y.assign rfl) rfl rfl rfl ?_
  refine TO.y (Y.assign rfl) rfl rfl rfl ?_
  refine TO.nil ?_
  refine TE.next ?_
  refine TW.seq ?_
  refine TW.seq ?_
  refine TW.joinBX (τ := Bool) (X := Unit) (fun T _ => [(0, strV s), (2, .pointer (some ⟨B1, 0, none⟩)), (4, .pointer (some ⟨B2, 0, none⟩)), (5, Y5), (6, .int .i64 R3.2), (27, .bool T)]) (fun _ _ => [.box B1 30 [.slice none 0 0, .slice none 0 0], .box B2 30 [.slice none 0 0, .slice none 0 0], .own Y5 (lc R3.1)]) ?_ (fun T6 X7 => ?_)
  · refine TW.region ?_
    refine TO.y (Y.move rfl) rfl rfl rfl ?_
    refine TO.y (Y.lss rfl rfl) rfl rfl rfl ?_
    refine TO.y (Y.move rfl) rfl rfl rfl ?_
    refine TO.ite (b := decide (R3.2 < (0 : Int))) (fun H8 => ?_) (fun H8 => ?_)
    · refine TO.off (Gd.at 2 false 22 (decide (R3.2 < (0 : Int))) rfl rfl rfl (beq_tf H8)) rfl rfl ?_
      refine TO.off (Gd.at 2 false 22 (decide (R3.2 < (0 : Int))) rfl rfl rfl (beq_tf H8)) rfl rfl ?_
      refine TO.off (Gd.at 2 false 22 (decide (R3.2 < (0 : Int))) rfl rfl rfl (beq_tf H8)) rfl rfl ?_
      refine TO.off (Gd.at 2 false 22 (decide (R3.2 < (0 : Int))) rfl rfl rfl (beq_tf H8)) rfl rfl ?_
      refine TO.y (Y.pick_t H8 rfl rfl) rfl rfl rfl ?_
      refine TO.nil ?_
      exact TE.jb_go () [2, 1, 0] ⟨rfl, rfl, rfl, rfl, rfl, rfl, trivial⟩ rfl
    · refine TO.y (Y.move rfl) (Gd.at 2 false 22 (decide (R3.2 < (0 : Int))) rfl rfl rfl (beq_ff H8)) rfl rfl ?_
      refine TO.bind fun E9 H10 => ?_
      refine TO.y (Y.index ke23 (Can.own 0 rfl) H10 rfl rfl) (Gd.at 2 false 22 (decide (R3.2 < (0 : Int))) rfl rfl rfl (beq_ff H8)) rfl rfl ?_
      refine TO.y (Y.load_el (us := [.int .i64 E9]) (u := .int .i64 E9) kk3 rfl (Can.own 0 rfl) (idx_get H10).2.2 rfl rfl rfl rfl rfl) (Gd.at 2 false 22 (decide (R3.2 < (0 : Int))) rfl rfl rfl (beq_ff H8)) rfl rfl ?_
      refine TO.y (Y.gtr rfl rfl) (Gd.at 2 false 22 (decide (R3.2 < (0 : Int))) rfl rfl rfl (beq_ff H8)) rfl rfl ?_
      refine TO.y (Y.pick_f H8 rfl rfl) rfl rfl rfl ?_
      refine TO.nil ?_
      exact TE.jb_go () [2, 1, 0] ⟨rfl, rfl, rfl, rfl, rfl, rfl, trivial⟩ rfl
  · refine TE.next ?_
    refine TW.cond rfl (fun H11 => ?_) (fun H11 => ?_)
    · refine TW.seq ?_
      refine TW.region ?_
      refine TO.y (Y.load_box (v := .agg #[.slice none 0 0, .slice none 0 0]) 1 kk30 rfl rfl rfl) rfl rfl rfl ?_
      refine TO.ef0 (Ef.store_box (us := [.slice none 0 0, .slice none 0 0]) (vs' := [.slice none 0 0, .slice none 0 0]) (is' := [.box B1 30 [.slice none 0 0, .slice none 0 0], .box B2 30 [.slice none 0 0, .slice none 0 0], .own Y5 (lc R3.1)]) 0 kk30 rfl rfl rfl (Cel.plain rfl rfl) rfl rfl rfl rfl) rfl rfl (fun _ => ?_)
      refine TO.y (Y.assign rfl) rfl rfl rfl ?_
      refine TO.nil ?_
      refine TE.next ?_
      refine TW.ret ?_
      refine TE.then_ret ?_
      exact TE.leaf fun _ _ hf_ hs_ => ret_any (rs := [.cell 2 30, .tmp 3]) (vs := [.agg #[.slice none 0 0, .slice none 0 0], .bool false]) (.inl rfl) rfl (RV.cell 0 rfl rfl kk30 rfl ⟨rfl, trivial⟩) hf_ hs_ ⟨((.slice none 0 0), (.slice none 0 0)), rfl, ((hs_.nilItem 4).nilItem 1).pulls [1, 0] rfl⟩
    · refine TW.skip ?_
      refine TE.next ?_
      refine TW.seq ?_
      refine TW.region ?_
      refine TO.y (Y.move rfl) rfl rfl rfl ?_
      refine TO.y (Y.move rfl) rfl rfl rfl ?_
      refine TO.y (Y.move rfl) rfl rfl rfl ?_
      refine TO.bind fun E14 H15 => ?_
      refine TO.y (Y.index ke23 (Can.own 2 rfl) H15 rfl rfl) rfl rfl rfl ?_
      refine TO.y (Y.load_el (us := [.int .i64 E14]) (u := .int .i64 E14) kk3 rfl (Can.own 2 rfl) (idx_get H15).2.2 rfl rfl rfl rfl rfl) rfl rfl rfl ?_
      refine TO.bind fun R16 H17 => ?_
      refine TO.ef (Ef.call (rest := [.box B1 30 [.slice none 0 0, .slice none 0 0], .box B2 30 [.slice none 0 0, .slice none 0 0], .own Y5 (lc R3.1)]) [0, 0, 0] (spec_l6Vars_con s R3.2 E14  R16 H17) kc40 rfl rfl trivial) rfl rfl rfl (fun Y18 => ?_)
      refine TO.y (Y.move rfl) rfl rfl rfl ?_
      refine TO.y (Y.extract rfl rfl) rfl rfl rfl ?_
      refine TO.y (Y.extract rfl rfl) rfl rfl rfl ?_
      refine TO.y (Y.assign rfl) rfl rfl rfl ?_
      refine TO.y (Y.assign rfl) rfl rfl rfl ?_
      refine TO.nil ?_
      refine TE.next ?_
      refine TW.seq ?_
      refine TW.region ?_
      refine TO.y (Y.move rfl) rfl rfl rfl ?_
      refine TO.y (Y.move rfl) rfl rfl rfl ?_
      refine TO.bind fun R19 H20 => ?_
      refine TO.ef (Ef.call (rest := [.own Y18 (lc R16.1), .box B1 30 [.slice none 0 0, .slice none 0 0], .box B2 30 [.slice none 0 0, .slice none 0 0], .own Y5 (lc R3.1)]) [0, 0, 0, 0] (spec_l6Vars_con s R16.2 (1 : Int)  R19 H20) kc40 rfl rfl trivial) rfl rfl rfl (fun Y21 => ?_)
      refine TO.y (Y.move rfl) rfl rfl rfl ?_
      refine TO.y (Y.extract rfl rfl) rfl rfl rfl ?_
      refine TO.y (Y.extract rfl rfl) rfl rfl rfl ?_
      refine TO.y (Y.assign rfl) rfl rfl rfl ?_
      refine TO.y (Y.assign rfl) rfl rfl rfl ?_
      refine TO.nil ?_
      refine TE.next ?_
      refine TW.seq ?_
      refine TW.seq ?_
      refine TW.joinBX (τ := Bool) (X := Unit) (fun T _ => [(0, strV s), (2, .pointer (some ⟨B1, 0, none⟩)), (4, .pointer (some ⟨B2, 0, none⟩)), (6, .int .i64 R19.2), (7, Y18), (8, Y21), (51, .bool T)]) (fun _ _ => [.box B1 30 [.slice none 0 0, .slice none 0 0], .box B2 30 [.slice none 0 0, .slice none 0 0], .own Y18 (lc R16.1), .own Y21 (lc R19.1)]) ?_ (fun T22 X23 => ?_)
      · refine TW.region ?_
        refine TO.y (Y.move rfl) rfl rfl rfl ?_
        refine TO.y (Y.lss rfl rfl) rfl rfl rfl ?_
        refine TO.y (Y.move rfl) rfl rfl rfl ?_
        refine TO.ite (b := decide (R19.2 < (0 : Int))) (fun H24 => ?_) (fun H24 => ?_)
        · refine TO.off (Gd.at 2 false 46 (decide (R19.2 < (0 : Int))) rfl rfl rfl (beq_tf H24)) rfl rfl ?_
          refine TO.off (Gd.at 2 false 46 (decide (R19.2 < (0 : Int))) rfl rfl rfl (beq_tf H24)) rfl rfl ?_
          refine TO.off (Gd.at 2 false 46 (decide (R19.2 < (0 : Int))) rfl rfl rfl (beq_tf H24)) rfl rfl ?_
          refine TO.off (Gd.at 2 false 46 (decide (R19.2 < (0 : Int))) rfl rfl rfl (beq_tf H24)) rfl rfl ?_
          refine TO.y (Y.pick_t H24 rfl rfl) rfl rfl rfl ?_
          refine TO.nil ?_
          exact TE.jb_go () [2, 2, 1, 0] ⟨rfl, rfl, rfl, rfl, rfl, rfl, rfl, trivial⟩ rfl
        · refine TO.y (Y.move rfl) (Gd.at 2 false 46 (decide (R19.2 < (0 : Int))) rfl rfl rfl (beq_ff H24)) rfl rfl ?_
          refine TO.bind fun E25 H26 => ?_
          refine TO.y (Y.index ke23 (Can.own 0 rfl) H26 rfl rfl) (Gd.at 2 false 46 (decide (R19.2 < (0 : Int))) rfl rfl rfl (beq_ff H24)) rfl rfl ?_
          refine TO.y (Y.load_el (us := [.int .i64 E25]) (u := .int .i64 E25) kk3 rfl (Can.own 0 rfl) (idx_get H26).2.2 rfl rfl rfl rfl rfl) (Gd.at 2 false 46 (decide (R19.2 < (0 : Int))) rfl rfl rfl (beq_ff H24)) rfl rfl ?_
          refine TO.y (Y.gtr rfl rfl) (Gd.at 2 false 46 (decide (R19.2 < (0 : Int))) rfl rfl rfl (beq_ff H24)) rfl rfl ?_
          refine TO.y (Y.pick_f H24 rfl rfl) rfl rfl rfl ?_
          refine TO.nil ?_
          exact TE.jb_go () [2, 2, 1, 0] ⟨rfl, rfl, rfl, rfl, rfl, rfl, rfl, trivial⟩ rfl
      · refine TE.next ?_
        refine TW.cond rfl (fun H27 => ?_) (fun H27 => ?_)
        · refine TW.seq ?_
          refine TW.region ?_
          refine TO.y (Y.load_box (v := .agg #[.slice none 0 0, .slice none 0 0]) 1 kk30 rfl rfl rfl) rfl rfl rfl ?_
          refine TO.ef0 (Ef.store_box (us := [.slice none 0 0, .slice none 0 0]) (vs' := [.slice none 0 0, .slice none 0 0]) (is' := [.box B1 30 [.slice none 0 0, .slice none 0 0], .box B2 30 [.slice none 0 0, .slice none 0 0], .own Y18 (lc R16.1), .own Y21 (lc R19.1)]) 0 kk30 rfl rfl rfl (Cel.plain rfl rfl) rfl rfl rfl rfl) rfl rfl (fun _ => ?_)
          refine TO.y (Y.assign rfl) rfl rfl rfl ?_
          refine TO.nil ?_
          refine TE.next ?_
          refine TW.ret ?_
          refine TE.then_ret ?_
          exact TE.leaf fun _ _ hf_ hs_ => ret_any (rs := [.cell 2 30, .tmp 3]) (vs := [.agg #[.slice none 0 0, .slice none 0 0], .bool false]) (.inl rfl) rfl (RV.cell 0 rfl rfl kk30 rfl ⟨rfl, trivial⟩) hf_ hs_ ⟨((.slice none 0 0), (.slice none 0 0)), rfl, ((hs_.nilItem 4).nilItem 1).pulls [1, 0] rfl⟩
        · refine TW.skip ?_
          refine TE.next ?_
          refine TW.seq ?_
          refine TW.region ?_
          refine TO.y (Y.move rfl) rfl rfl rfl ?_
          refine TO.y (Y.field_box kf30_1 rfl rfl) rfl rfl rfl ?_
          refine TO.ef0 (Ef.store_box (us := [Y18]) (vs' := [.slice none 0 0, Y18]) (is' := [.box B1 30 [.slice none 0 0, .slice none 0 0], .box B2 30 [.slice none 0 0, Y18], .own Y18 (lc R16.1), .own Y21 (lc R19.1)]) 1 kk23 rfl rfl rfl (Cel.one (One.can (Can.own 2 rfl))) rfl rfl rfl rfl) rfl rfl (fun _ => ?_)
          refine TO.nil ?_
          refine TE.next ?_
          refine TW.seq ?_
          refine TW.seq ?_
          refine TW.region ?_
          refine TO.y (Y.assign rfl) rfl rfl rfl ?_
          refine TO.nil ?_
          refine TE.next ?_
          refine TW.joinX (τ := List File) (X := Value) (fun _ _ => [(0, strV s), (2, .pointer (some ⟨B1, 0, none⟩)), (4, .pointer (some ⟨B2, 0, none⟩))]) (fun T X => [.box B1 30 [.slice none 0 0, .slice none 0 0], .box B2 30 [X, Y18], .own X (lc T), .own Y18 (lc R16.1)]) ?_ (fun T32 X33 => ?_)
          · refine TW.block ?_
            refine TW.nilItem 4 ?_
            refine TW.loopX (σ := Int × Int × List File) (X := Value) (fun T _ => [(0, strV s), (2, .pointer (some ⟨B1, 0, none⟩)), (4, .pointer (some ⟨B2, 0, none⟩)), (6, .int .i64 T.1), (8, Y21), (9, .int .i64 T.2.1)]) (fun T X => [.box B1 30 [.slice none 0 0, .slice none 0 0], .box B2 30 [X, Y18], .own X (lc T.2.2), .own Y18 (lc R16.1), .own Y21 (lc R19.1)]) (.slice none 0 0) [1, 1, 0, 0, 0] ⟨rfl, rfl, rfl, rfl, rfl, rfl, trivial⟩ rfl (fun S30 X31 => ?_)
            refine TW.seq ?_
            refine TW.seq ?_
            refine TW.region ?_
            refine TO.y (Y.move rfl) rfl rfl rfl ?_
            refine TO.y (Y.move rfl) rfl rfl rfl ?_
            refine TO.bind fun E34 H35 => ?_
            refine TO.y (Y.index ke23 (Can.own 4 rfl) H35 rfl rfl) rfl rfl rfl ?_
            refine TO.y (Y.load_el (us := [.int .i64 E34]) (u := .int .i64 E34) kk3 rfl (Can.own 4 rfl) (idx_get H35).2.2 rfl rfl rfl rfl rfl) rfl rfl rfl ?_
            refine TO.y (Y.lss rfl rfl) rfl rfl rfl ?_
            refine TO.nil ?_
            refine TE.next ?_
            refine TW.cond rfl (fun H36 => ?_) (fun H36 => ?_)
            · refine TW.skip ?_
              refine TE.next ?_
              refine TW.seq ?_
              refine TW.block ?_
              refine TW.seq ?_
              refine TW.region ?_
              refine TO.y (Y.move rfl) rfl rfl rfl ?_
              refine TO.y (Y.move rfl) rfl rfl rfl ?_
              refine TO.bind fun R37 H38 => ?_
              refine TO.ef (Ef.call (rest := [.box B1 30 [.slice none 0 0, .slice none 0 0], .box B2 30 [X31, Y18], .own X31 (lc S30.2.2), .own Y18 (lc R16.1), .own Y21 (lc R19.1)]) [0, 0, 0, 0, 0] (spec_l6Vars_con s S30.1 (2 : Int)  R37 H38) kc40 rfl rfl trivial) rfl rfl rfl (fun Y39 => ?_)
              refine TO.y (Y.move rfl) rfl rfl rfl ?_
              refine TO.y (Y.extract rfl rfl) rfl rfl rfl ?_
              refine TO.y (Y.extract rfl rfl) rfl rfl rfl ?_
              refine TO.y (Y.assign rfl) rfl rfl rfl ?_
              refine TO.y (Y.assign rfl) rfl rfl rfl ?_
              refine TO.nil ?_
              refine TE.next ?_
              refine TW.seq ?_
              refine TW.region ?_
              refine TO.y (Y.move rfl) rfl rfl rfl ?_
              refine TO.y (Y.move rfl) rfl rfl rfl ?_
              refine TO.bind fun R40 H41 => ?_
              refine TO.ef (Ef.call (rest := [.own Y39 (lc R37.1), .box B1 30 [.slice none 0 0, .slice none 0 0], .box B2 30 [X31, Y18], .own X31 (lc S30.2.2), .own Y18 (lc R16.1), .own Y21 (lc R19.1)]) [0, 0, 0, 0, 0, 0] (spec_l6Take_con s R37.2  R40 H41) kc41 rfl rfl trivial) rfl rfl rfl (fun _ => ?_)
              refine TO.y (Y.move rfl) rfl rfl rfl ?_
              refine TO.y (Y.extract rfl rfl) rfl rfl rfl ?_
              refine TO.y (Y.extract rfl rfl) rfl rfl rfl ?_
              refine TO.y (Y.assign rfl) rfl rfl rfl ?_
              refine TO.y (Y.assign rfl) rfl rfl rfl ?_
              refine TO.nil ?_
              refine TE.next ?_
              refine TW.seq ?_
              refine TW.region ?_
              refine TO.y (Y.move rfl) rfl rfl rfl ?_
              refine TO.y (Y.move rfl) rfl rfl rfl ?_
              refine TO.bind fun R43 H44 => ?_
              refine TO.ef (Ef.call (rest := [.own Y39 (lc R37.1), .box B1 30 [.slice none 0 0, .slice none 0 0], .box B2 30 [X31, Y18], .own X31 (lc S30.2.2), .own Y18 (lc R16.1), .own Y21 (lc R19.1)]) [0, 0, 0, 0, 0, 0] (spec_l6Take_con s R40.2  R43 H44) kc41 rfl rfl trivial) rfl rfl rfl (fun _ => ?_)
              refine TO.y (Y.move rfl) rfl rfl rfl ?_
              refine TO.y (Y.extract rfl rfl) rfl rfl rfl ?_
              refine TO.y (Y.extract rfl rfl) rfl rfl rfl ?_
              refine TO.y (Y.assign rfl) rfl rfl rfl ?_
              refine TO.y (Y.assign rfl) rfl rfl rfl ?_
              refine TO.nil ?_
              refine TE.next ?_
              refine TW.seq ?_
              refine TW.seq ?_
              refine TW.region ?_
              refine TO.y (Y.move rfl) rfl rfl rfl ?_
              refine TO.y (Y.lss rfl rfl) rfl rfl rfl ?_
              refine TO.nil ?_
              refine TE.next ?_
              refine TW.cond rfl (fun H46 => ?_) (fun H46 => ?_)
              · refine TW.seq ?_
                refine TW.region ?_
                refine TO.y (Y.build (cells := [.slice none 0 0, .slice none 0 0]) [] kp30 kz30 trivial rfl) rfl rfl rfl ?_
                refine TO.ef0 (Ef.store_box (us := [.slice none 0 0, .slice none 0 0]) (vs' := [.slice none 0 0, .slice none 0 0]) (is' := [.own Y39 (lc R37.1), .box B1 30 [.slice none 0 0, .slice none 0 0], .box B2 30 [X31, Y18], .own X31 (lc S30.2.2), .own Y18 (lc R16.1), .own Y21 (lc R19.1)]) 1 kk30 rfl rfl rfl (Cel.plain rfl rfl) rfl rfl rfl rfl) rfl rfl (fun _ => ?_)
                refine TO.y (Y.assign rfl) rfl rfl rfl ?_
                refine TO.nil ?_
                refine TE.next ?_
                refine TW.ret ?_
                refine TE.then_ret ?_
                refine TE.block_ret ?_
                refine TE.then_ret ?_
                refine TE.lp_ret ?_
                refine TE.block_ret ?_
                refine TE.jn_done ?_
                refine TE.then_ret ?_
                exact TE.leaf fun _ _ hf_ hs_ => ret_any (rs := [.cell 2 30, .tmp 3]) (vs := [.agg #[.slice none 0 0, .slice none 0 0], .bool false]) (.inl rfl) rfl (RV.cell 1 rfl rfl kk30 rfl ⟨rfl, trivial⟩) hf_ hs_ ⟨((.slice none 0 0), (.slice none 0 0)), rfl, ((hs_.nilItem 4).nilItem 1).pulls [1, 0] rfl⟩
              · refine TW.skip ?_
                refine TE.next ?_
                refine TW.seq ?_
                refine TW.bind fun E49 H50 => ?_
                refine TW.bind fun E51 H52 => ?_
                refine TW.bind fun E56 H57 => ?_
                refine TW.joinU (X := Value) (fun _ _ => [(0, strV s), (2, .pointer (some ⟨B1, 0, none⟩)), (4, .pointer (some ⟨B2, 0, none⟩)), (8, Y21), (9, .int .i64 S30.2.1), (11, .int .i64 R43.2)]) (fun _ X => [.box B1 30 [.slice none 0 0, .slice none 0 0], .box B2 30 [X, Y18], .own X (lc E56), .own Y18 (lc R16.1), .own Y21 (lc R19.1)]) ?_ (fun _ X59 => ?_)
                · refine TW.draw (isH := [.own Y39 (lc R37.1), .box B1 30 [.slice none 0 0, .slice none 0 0], .own Y18 (lc R16.1), .own Y21 (lc R19.1)]) hMix ?_
                  refine TA.y (listed' := #[true, false, false, false, false, false, false, false, false, false, false, false, false, false, false]) 0 [0, 0, 2, 2] rfl (Y.field_box kf30_0 rfl rfl) rfl rfl rfl (by kernel_rfl) (by kernel_rfl) (by kernel_rfl) rfl rfl ?_
                  refine TA.y (listed' := #[true, false, true, false, false, false, false, false, false, false, false, false, false, false, false]) 2 [0, 0, 2, 2] rfl (Y.move rfl) rfl rfl rfl (by kernel_rfl) (by kernel_rfl) (by kernel_rfl) rfl rfl ?_
                  refine TA.y (listed' := #[true, false, true, true, false, false, false, false, false, false, false, false, false, false, false]) 3 [0, 0, 2, 2] rfl (Y.index ke23 (Can.own 0 rfl) H50 rfl rfl) rfl rfl rfl (by kernel_rfl) (by kernel_rfl) (by kernel_rfl) rfl rfl ?_
                  refine TA.y (listed' := #[true, false, true, true, true, false, false, false, false, false, false, false, false, false, false]) 4 [0, 0, 2, 2] rfl (Y.load_el (us := [.int .i64 E49]) (u := .int .i64 E49) kk3 rfl (Can.own 0 rfl) (idx_get H50).2.2 rfl rfl rfl rfl rfl) rfl rfl rfl (by kernel_rfl) (by kernel_rfl) (by kernel_rfl) rfl rfl ?_
                  refine TA.y (listed' := #[true, false, true, true, true, true, false, false, false, false, false, false, false, false, false]) 5 [0, 0, 2, 2] rfl (Y.move rfl) rfl rfl rfl (by kernel_rfl) (by kernel_rfl) (by kernel_rfl) rfl rfl ?_
                  refine TA.y (listed' := #[true, false, true, true, true, true, true, false, false, false, false, false, false, false, false]) 6 [0, 0, 2, 2] rfl (Y.index ke23 (Can.own 0 rfl) H52 rfl rfl) rfl rfl rfl (by kernel_rfl) (by kernel_rfl) (by kernel_rfl) rfl rfl ?_
                  refine TA.y (listed' := #[true, false, true, true, true, true, true, true, false, false, false, false, false, false, false]) 7 [0, 0, 2, 2] rfl (Y.load_el (us := [.int .i64 E51]) (u := .int .i64 E51) kk3 rfl (Can.own 0 rfl) (idx_get H52).2.2 rfl rfl rfl rfl rfl) rfl rfl rfl (by kernel_rfl) (by kernel_rfl) (by kernel_rfl) rfl rfl ?_
                  refine TA.y (listed' := #[true, false, true, true, true, true, true, true, true, false, false, false, false, false, false]) 8 [0, 0, 2, 2] rfl (Y.move rfl) rfl rfl rfl (by kernel_rfl) (by kernel_rfl) (by kernel_rfl) rfl rfl ?_
                  refine TA.y (listed' := #[true, false, true, true, true, true, true, true, true, true, false, false, false, false, false]) 9 [0, 0, 2, 2] rfl (Y.move rfl) rfl rfl rfl (by kernel_rfl) (by kernel_rfl) (by kernel_rfl) rfl rfl ?_
                  refine TA.y (listed' := #[true, false, true, true, true, true, true, true, true, true, true, false, false, false, false]) 10 [0, 0, 2, 2] rfl (Y.build (cells := [.int .i64 E49, .int .i64 E51, strV R40.1, strV R43.1]) [(0, [.int .i64 E49]), (1, [.int .i64 E51]), (2, [strV R40.1]), (3, [strV R43.1])] kp52 kz52 ⟨rfl, ⟨_, rfl, (Cel.plain rfl rfl)⟩, ⟨rfl, ⟨_, rfl, (Cel.plain rfl rfl)⟩, ⟨rfl, ⟨_, rfl, (Cel.plain rfl rfl)⟩, ⟨rfl, ⟨_, rfl, (Cel.plain rfl rfl)⟩, trivial⟩⟩⟩⟩ rfl) rfl rfl rfl (by kernel_rfl) (by kernel_rfl) (by kernel_rfl) rfl rfl ?_
                  refine TA.two 1 11 (by kernel_rfl) ?_ ?_
                  · refine TX.y (listed' := #[true, true, true, true, true, true, true, true, true, true, true, false, false, false, false]) [0, 0, 2, 2] rfl (Y.load_box (v := X31) 2 kk28 rfl rfl rfl) rfl rfl rfl rfl rfl ?_
                    refine TA.one 11 (by kernel_rfl) ?_
                    refine TX.ef (listed' := #[true, true, true, true, true, true, true, true, true, true, true, true, false, false, false]) [1, 1, 3, 3] rfl (Ef.buildSlice (α := File) (Vs := [.agg #[.int .i64 E49, .int .i64 E51, strV R40.1, strV R43.1]]) [{ No := E49, Level := E51, Lo := R40.1, Hi := R43.1 : File }] ke28 kz52 rfl rfl rfl rfl rfl) rfl rfl rfl rfl (fun _ => rfl) (fun B61 => ?_)
                    refine TA.one 12 (by kernel_rfl) ?_
                    refine TX.ef (listed' := #[true, true, true, true, true, true, true, true, true, true, true, true, true, false, false]) [2, 2, 3, 3] rfl (Ef.append (α := File) (is' := [.own (.slice (some ⟨B61, 0, none⟩) 1 1) (lc ([{ No := E49, Level := E51, Lo := R40.1, Hi := R43.1 : File }])), .own Y39 (lc R37.1), .box B1 30 [.slice none 0 0, .slice none 0 0], .box B2 30 [X31, Y18], .own Y18 (lc R16.1), .own Y21 (lc R19.1)]) [4, 0, 0, 0, 0, 0, 0] H57 ke28 kz52 rfl rfl rfl rfl rfl (Can.own 0 rfl)) rfl rfl rfl rfl (fun _ => rfl) (fun V62 => ?_)
                    refine TA.y (listed' := #[true, true, true, true, true, true, true, true, true, true, true, true, true, true, false]) 13 [2, 2, 3, 3] rfl (Y.field_box kf30_0 rfl rfl) rfl rfl rfl (by kernel_rfl) (by kernel_rfl) (by kernel_rfl) rfl rfl ?_
                    refine TA.one 14 (by kernel_rfl) ?_
                    refine TX.ef0 (listed' := #[true, true, true, true, true, true, true, true, true, true, true, true, true, true, true]) [2, 2, 3, 3] rfl (Ef.store_box (us := [V62]) (vs' := [V62, Y18]) (is' := [.own V62 (lc E56), .own (.slice (some ⟨B61, 0, none⟩) 1 1) (lc ([{ No := E49, Level := E51, Lo := R40.1, Hi := R43.1 : File }])), .own Y39 (lc R37.1), .box B1 30 [.slice none 0 0, .slice none 0 0], .box B2 30 [V62, Y18], .own Y18 (lc R16.1), .own Y21 (lc R19.1)]) 4 kk28 rfl rfl rfl (Cel.one (One.can (Can.own 0 rfl))) rfl rfl rfl rfl) rfl rfl rfl (fun _ => rfl) (fun _ => ?_)
                    refine TA.nil (by kernel_rfl) ?_
                    exact TE.jb_go V62 [3, 3, 0, 2, 2] ⟨rfl, rfl, rfl, rfl, rfl, rfl, trivial⟩ rfl
                  · refine TX.ef (listed' := #[true, false, true, true, true, true, true, true, true, true, true, true, false, false, false]) [1, 1, 3, 3] rfl (Ef.buildSlice (α := File) (Vs := [.agg #[.int .i64 E49, .int .i64 E51, strV R40.1, strV R43.1]]) [{ No := E49, Level := E51, Lo := R40.1, Hi := R43.1 : File }] ke28 kz52 rfl rfl rfl rfl rfl) rfl rfl rfl rfl (fun _ => rfl) (fun B60 => ?_)
                    refine TA.one 1 (by kernel_rfl) ?_
                    refine TX.y (listed' := #[true, true, true, true, true, true, true, true, true, true, true, true, false, false, false]) [1, 1, 3, 3] rfl (Y.load_box (v := X31) 3 kk28 rfl rfl rfl) rfl rfl rfl rfl rfl ?_
                    refine TA.one 12 (by kernel_rfl) ?_
                    refine TX.ef (listed' := #[true, true, true, true, true, true, true, true, true, true, true, true, true, false, false]) [2, 2, 3, 3] rfl (Ef.append (α := File) (is' := [.own (.slice (some ⟨B60, 0, none⟩) 1 1) (lc ([{ No := E49, Level := E51, Lo := R40.1, Hi := R43.1 : File }])), .own Y39 (lc R37.1), .box B1 30 [.slice none 0 0, .slice none 0 0], .box B2 30 [X31, Y18], .own Y18 (lc R16.1), .own Y21 (lc R19.1)]) [4, 0, 0, 0, 0, 0, 0] H57 ke28 kz52 rfl rfl rfl rfl rfl (Can.own 0 rfl)) rfl rfl rfl rfl (fun _ => rfl) (fun V61 => ?_)
                    refine TA.y (listed' := #[true, true, true, true, true, true, true, true, true, true, true, true, true, true, false]) 13 [2, 2, 3, 3] rfl (Y.field_box kf30_0 rfl rfl) rfl rfl rfl (by kernel_rfl) (by kernel_rfl) (by kernel_rfl) rfl rfl ?_
                    refine TA.one 14 (by kernel_rfl) ?_
                    refine TX.ef0 (listed' := #[true, true, true, true, true, true, true, true, true, true, true, true, true, true, true]) [2, 2, 3, 3] rfl (Ef.store_box (us := [V61]) (vs' := [V61, Y18]) (is' := [.own V61 (lc E56), .own (.slice (some ⟨B60, 0, none⟩) 1 1) (lc ([{ No := E49, Level := E51, Lo := R40.1, Hi := R43.1 : File }])), .own Y39 (lc R37.1), .box B1 30 [.slice none 0 0, .slice none 0 0], .box B2 30 [V61, Y18], .own Y18 (lc R16.1), .own Y21 (lc R19.1)]) 4 kk28 rfl rfl rfl (Cel.one (One.can (Can.own 0 rfl))) rfl rfl rfl rfl) rfl rfl rfl (fun _ => rfl) (fun _ => ?_)
                    refine TA.nil (by kernel_rfl) ?_
                    exact TE.jb_go V61 [3, 3, 0, 2, 2] ⟨rfl, rfl, rfl, rfl, rfl, rfl, trivial⟩ rfl
                · refine TE.next ?_
                  refine TW.region ?_
                  refine TO.y (Y.move rfl) rfl rfl rfl ?_
                  refine TO.y (Y.assign rfl) rfl rfl rfl ?_
                  refine TO.nil ?_
                  refine TE.block_normal ?_
                  refine TE.next ?_
                  refine TW.region ?_
                  refine TO.y (Y.move rfl) rfl rfl rfl ?_
                  refine TO.y (Y.add rfl rfl) rfl rfl rfl ?_
                  refine TO.y (Y.assign rfl) rfl rfl rfl ?_
                  refine TO.nil ?_
                  exact TE.lp_go X59 [0, 0, 0, 0, 0] ⟨rfl, rfl, rfl, rfl, rfl, rfl, trivial⟩ rfl
            · refine TW.exit ?_
              refine TE.then_exit ?_
              refine TE.lp_exit ?_
              refine TE.block_exit ?_
              exact TE.jn_go X31 [0, 0, 0, 0] ⟨rfl, rfl, rfl, trivial⟩ rfl
          · refine TE.next ?_
            refine TW.seq ?_
            refine TW.seq ?_
            refine TW.region ?_
            refine TO.y (Y.load_box (v := .agg #[X33, Y18]) 1 kk30 rfl rfl rfl) rfl rfl rfl ?_
            refine TO.bind fun R61 H62 => ?_
            refine TO.ef (Ef.call (rest := [.box B1 30 [.slice none 0 0, .slice none 0 0], .box B2 30 [X33, Y18], .own X33 (lc T32), .own Y18 (lc R16.1)]) [0, 0, 0, 0] (spec_ShowEdit_con ({ Add := T32, Drop := R16.1 : Edit }) X33 Y18 R61 H62) kc7 rfl rfl ⟨(Can.own 2 rfl), (Can.own 3 rfl), trivial⟩) rfl rfl rfl (fun _ => ?_)
            refine TO.y (Y.move rfl) rfl rfl rfl ?_
            refine TO.y (Y.sneq rfl rfl) rfl rfl rfl ?_
            refine TO.nil ?_
            refine TE.next ?_
            refine TW.cond rfl (fun H64 => ?_) (fun H64 => ?_)
            · refine TW.seq ?_
              refine TW.region ?_
              refine TO.y (Y.build (cells := [.slice none 0 0, .slice none 0 0]) [] kp30 kz30 trivial rfl) rfl rfl rfl ?_
              refine TO.ef0 (Ef.store_box (us := [.slice none 0 0, .slice none 0 0]) (vs' := [.slice none 0 0, .slice none 0 0]) (is' := [.box B1 30 [.slice none 0 0, .slice none 0 0], .box B2 30 [X33, Y18], .own X33 (lc T32), .own Y18 (lc R16.1)]) 0 kk30 rfl rfl rfl (Cel.plain rfl rfl) rfl rfl rfl rfl) rfl rfl (fun _ => ?_)
              refine TO.y (Y.assign rfl) rfl rfl rfl ?_
              refine TO.nil ?_
              refine TE.next ?_
              refine TW.ret ?_
              refine TE.then_ret ?_
              exact TE.leaf fun _ _ hf_ hs_ => ret_any (rs := [.cell 2 30, .tmp 3]) (vs := [.agg #[.slice none 0 0, .slice none 0 0], .bool false]) (.inl rfl) rfl (RV.cell 0 rfl rfl kk30 rfl ⟨rfl, trivial⟩) hf_ hs_ ⟨((.slice none 0 0), (.slice none 0 0)), rfl, ((hs_.nilItem 4).nilItem 1).pulls [1, 0] rfl⟩
            · refine TW.skip ?_
              refine TE.next ?_
              refine TW.seq ?_
              refine TW.region ?_
              refine TO.y (Y.load_box (v := .agg #[X33, Y18]) 1 kk30 rfl rfl rfl) rfl rfl rfl ?_
              refine TO.ef0 (Ef.store_box (us := [X33, Y18]) (vs' := [X33, Y18]) (is' := [.box B1 30 [X33, Y18], .box B2 30 [X33, Y18], .own X33 (lc T32), .own Y18 (lc R16.1)]) 0 kk30 rfl rfl rfl (Cel.agg ⟨(One.can (Can.own 2 rfl)), (One.can (Can.own 3 rfl)), trivial⟩) rfl rfl rfl rfl) rfl rfl (fun _ => ?_)
              refine TO.y (Y.assign rfl) rfl rfl rfl ?_
              refine TO.nil ?_
              refine TE.next ?_
              refine TW.ret ?_
              exact TE.leaf fun _ _ hf_ hs_ => ret_any (rs := [.cell 2 30, .tmp 3]) (vs := [.agg #[X33, Y18], .bool true]) (.inl rfl) rfl (RV.cell 0 rfl rfl kk30 rfl ⟨rfl, trivial⟩) hf_ hs_ ⟨(X33, Y18), rfl, hs_.pulls [2, 2] rfl⟩

/-- loop.example/g00950/spec.l16Text -/
noncomputable def spec_l16Text (s : List UInt8) : Option Bool :=
  (spec_l1In ((s.length : Nat) : Int) (1 : Int) (10 : Int)).bind fun R1 =>
  some R1

theorem spec_l16Text_con (s : List UInt8)  (r : Bool) (hm : spec_l16Text s = some r) :
    Con Try.prog 71 [strV s] [] [] (fun _ : Unit => .bool r) (fun _ => []) := by
  refine Con.intro (args := [strV s]) (n := 6) (val := fun r (_ : Unit) => .bool r) (post := fun _ _ => []) (m := spec_l16Text s) Try.func71 rfl rfl rfl hm ?_
  intro w S _
  unfold spec_l16Text
  refine TW.seq ?_
  refine TW.region ?_
  refine TO.y (Y.assign rfl) rfl rfl rfl ?_
  refine TO.nil ?_
  refine TE.next ?_
  refine TW.seq ?_
  refine TW.region ?_
  refine TO.y (Y.move rfl) rfl rfl rfl ?_
  refine TO.y (Y.slen ks9 rfl) rfl rfl rfl ?_
  refine TO.bind fun R1 H2 => ?_
  refine TO.ef (Ef.call (rest := []) [] (spec_l1In_con ((s.length : Nat) : Int) (1 : Int) (10 : Int)  R1 H2) kc53 rfl rfl trivial) rfl rfl rfl (fun _ => ?_)
  refine TO.y (Y.assign rfl) rfl rfl rfl ?_
  refine TO.nil ?_
  refine TE.next ?_
  refine TW.ret ?_
  exact TE.leaf fun _ _ hf_ hs_ => ret_any (rs := [.tmp 2]) (vs := [.bool R1]) (.inl rfl) rfl ⟨rfl, trivial⟩ hf_ hs_ ⟨(), rfl, hs_.pulls [] rfl⟩

/-- loop.example/g00950/spec.l16Ahead -/
noncomputable def spec_l16Ahead (a : File) (b : File) : Option Bool :=
  if (!(decide (a.Level = b.Level))) = true then (some (decide (a.Level < b.Level)))
  else (if (decide (a.Level = (0 : Int))) = true then (some (decide (a.No > b.No)))
  else (some (sLt a.Lo b.Lo)))

theorem spec_l16Ahead_con (a : File) (b : File)  (r : Bool) (hm : spec_l16Ahead a b = some r) :
    Con Try.prog 72 [.agg #[.int .i64 a.No, .int .i64 a.Level, strV a.Lo, strV a.Hi], .agg #[.int .i64 b.No, .int .i64 b.Level, strV b.Lo, strV b.Hi]] [] [] (fun _ : Unit => .bool r) (fun _ => []) := by
  refine Con.intro (args := [.agg #[.int .i64 a.No, .int .i64 a.Level, strV a.Lo, strV a.Hi], .agg #[.int .i64 b.No, .int .i64 b.Level, strV b.Lo, strV b.Hi]]) (n := 28) (val := fun r (_ : Unit) => .bool r) (post := fun _ _ => []) (m := spec_l16Ahead a b) Try.func72 rfl rfl rfl hm ?_
  intro w S _
  unfold spec_l16Ahead
  refine TW.seq ?_
  refine TW.region ?_
  refine TO.ef (Ef.box rfl (Cel.plain rfl rfl)) rfl rfl rfl (fun B1 => ?_)
  refine TO.ef (Ef.box rfl (Cel.plain rfl rfl)) rfl rfl rfl (fun B2 => ?_)
  refine TO.y (Y.assign rfl) rfl rfl rfl ?_
  refine TO.nil ?_
  refine TE.next ?_
  refine TW.seq ?_
  refine TW.seq ?_
  refine TW.region ?_
  refine TO.y (Y.field_box kf52_1 rfl rfl) rfl rfl rfl ?_
  refine TO.y (Y.load_box (v := .int .i64 a.Level) 1 kk3 rfl rfl rfl) rfl rfl rfl ?_
  refine TO.y (Y.field_box kf52_1 rfl rfl) rfl rfl rfl ?_
  refine TO.y (Y.load_box (v := .int .i64 b.Level) 0 kk3 rfl rfl rfl) rfl rfl rfl ?_
  refine TO.y (Y.neq rfl rfl) rfl rfl rfl ?_
  refine TO.nil ?_
  refine TE.next ?_
  refine TW.cond rfl (fun H3 => ?_) (fun H3 => ?_)
  · refine TW.seq ?_
    refine TW.region ?_
    refine TO.y (Y.field_box kf52_1 rfl rfl) rfl rfl rfl ?_
    refine TO.y (Y.load_box (v := .int .i64 a.Level) 1 kk3 rfl rfl rfl) rfl rfl rfl ?_
    refine TO.y (Y.field_box kf52_1 rfl rfl) rfl rfl rfl ?_
    refine TO.y (Y.load_box (v := .int .i64 b.Level) 0 kk3 rfl rfl rfl) rfl rfl rfl ?_
    refine TO.y (Y.lss rfl rfl) rfl rfl rfl ?_
    refine TO.y (Y.assign rfl) rfl rfl rfl ?_
    refine TO.nil ?_
    refine TE.next ?_
    refine TW.ret ?_
    refine TE.then_ret ?_
    exact TE.leaf fun _ _ hf_ hs_ => ret_any (rs := [.tmp 4]) (vs := [.bool (decide (a.Level < b.Level))]) (.inl rfl) rfl ⟨rfl, trivial⟩ hf_ hs_ ⟨(), rfl, hs_.pulls [] rfl⟩
  · refine TW.skip ?_
    refine TE.next ?_
    refine TW.seq ?_
    refine TW.seq ?_
    refine TW.region ?_
    refine TO.y (Y.field_box kf52_1 rfl rfl) rfl rfl rfl ?_
    refine TO.y (Y.load_box (v := .int .i64 a.Level) 1 kk3 rfl rfl rfl) rfl rfl rfl ?_
    refine TO.y (Y.eql rfl rfl) rfl rfl rfl ?_
    refine TO.nil ?_
    refine TE.next ?_
    refine TW.cond rfl (fun H4 => ?_) (fun H4 => ?_)
    · refine TW.seq ?_
      refine TW.region ?_
      refine TO.y (Y.field_box kf52_0 rfl rfl) rfl rfl rfl ?_
      refine TO.y (Y.load_box (v := .int .i64 a.No) 1 kk3 rfl rfl rfl) rfl rfl rfl ?_
      refine TO.y (Y.field_box kf52_0 rfl rfl) rfl rfl rfl ?_
      refine TO.y (Y.load_box (v := .int .i64 b.No) 0 kk3 rfl rfl rfl) rfl rfl rfl ?_
      refine TO.y (Y.gtr rfl rfl) rfl rfl rfl ?_
      refine TO.y (Y.assign rfl) rfl rfl rfl ?_
      refine TO.nil ?_
      refine TE.next ?_
      refine TW.ret ?_
      refine TE.then_ret ?_
      exact TE.leaf fun _ _ hf_ hs_ => ret_any (rs := [.tmp 4]) (vs := [.bool (decide (a.No > b.No))]) (.inl rfl) rfl ⟨rfl, trivial⟩ hf_ hs_ ⟨(), rfl, hs_.pulls [] rfl⟩
    · refine TW.skip ?_
      refine TE.next ?_
      refine TW.seq ?_
      refine TW.region ?_
      refine TO.y (Y.field_box kf52_2 rfl rfl) rfl rfl rfl ?_
      refine TO.y (Y.load_box (v := strV a.Lo) 1 kk9 rfl rfl rfl) rfl rfl rfl ?_
      refine TO.y (Y.field_box kf52_2 rfl rfl) rfl rfl rfl ?_
      refine TO.y (Y.load_box (v := strV b.Lo) 0 kk9 rfl rfl rfl) rfl rfl rfl ?_
      refine TO.y (Y.slss rfl rfl) rfl rfl rfl ?_
      refine TO.y (Y.assign rfl) rfl rfl rfl ?_
      refine TO.nil ?_
      refine TE.next ?_
      refine TW.ret ?_
      exact TE.leaf fun _ _ hf_ hs_ => ret_any (rs := [.tmp 4]) (vs := [.bool (sLt a.Lo b.Lo)]) (.inl rfl) rfl ⟨rfl, trivial⟩ hf_ hs_ ⟨(), rfl, hs_.pulls [] rfl⟩

end Go.Proofs.Ythlnhpkdccojcaa
