/-
  The functions that a law reaches, each as a pure function, with the proof that the program computes it, and the step from a pure law to the given statement. Conditions: none.
-/
import Derived.Test.YtnfejohfdkoibaaSw
import Derived.Test.YtnfejohfdkoibaaRows
set_option linter.unusedVariables false
set_option maxRecDepth 100000
set_option maxHeartbeats 4000000
namespace Go.Proofs.Ytnfejohfdkoibaa
open Go Sl

structure Ent where
  Key : List UInt8
  Seq : Int
  Del : Bool
  Val : List UInt8
  deriving DecidableEq
instance : Enc Ent := ⟨4, fun x => [.str x.Key, .int .i64 x.Seq, .bool x.Del, .str x.Val], fun _ => rfl, by decide⟩
instance : Dec Ent where
  sh := [.str, .int .i64, .bool, .str]
  ok x := x.Key.length ≤ 9223372036854775807 ∧ okI x.Seq ∧ True ∧ x.Val.length ≤ 9223372036854775807
  dec cs h := by
    obtain ⟨c0, r0, rfl, h0, h⟩ := h.cons_inv
    obtain ⟨c1, r1, rfl, h1, h⟩ := h.cons_inv
    obtain ⟨c2, r2, rfl, h2, h⟩ := h.cons_inv
    obtain ⟨c3, r3, rfl, h3, h⟩ := h.cons_inv
    obtain rfl := h.nil_inv
    obtain ⟨y0, rfl, w0⟩ := h0.str_inv
    obtain ⟨y1, rfl, w1_⟩ := h1.int_inv
    have w1 := okI_of w1_
    obtain ⟨y2, rfl⟩ := h2.bool_inv
    have w2 := True.intro
    obtain ⟨y3, rfl, w3⟩ := h3.str_inv
    exact ⟨{ Key := y0, Seq := y1, Del := y2, Val := y3 : Ent }, rfl, w0, w1, w2, w3⟩
instance : Flat Ent := { vals := fun x => [strV x.Key, .int .i64 x.Seq, .bool x.Del, strV x.Val], flat := fun _ => rfl }
instance : Enc (List Ent) := ⟨1, fun l => [lc l], fun _ => rfl, Nat.one_pos⟩
instance : Dec (List Ent) where
  sh := [.sl 4 (Dec.sh Ent)]
  ok l := okl l
  dec cs h := by
    obtain ⟨c0, r0, rfl, h0, h⟩ := h.cons_inv
    obtain rfl := h.nil_inv
    obtain ⟨y0, rfl, w0⟩ := h0.sl_inv (α := Ent) rfl
    exact ⟨y0, rfl, w0⟩
structure Eng where
  Mem : List Ent
  Tables : List (List Ent)
  Seq : Int
  Snaps : List Int
  deriving DecidableEq
instance : Enc Eng := ⟨4, fun x => [lc x.Mem, lc x.Tables, .int .i64 x.Seq, lc x.Snaps], fun _ => rfl, by decide⟩
instance : Dec Eng where
  sh := [.sl 4 (Dec.sh Ent), .sl 1 (Dec.sh (List Ent)), .int .i64, .sl 1 (Dec.sh Int)]
  ok x := okl x.Mem ∧ okl x.Tables ∧ okI x.Seq ∧ okl x.Snaps
  dec cs h := by
    obtain ⟨c0, r0, rfl, h0, h⟩ := h.cons_inv
    obtain ⟨c1, r1, rfl, h1, h⟩ := h.cons_inv
    obtain ⟨c2, r2, rfl, h2, h⟩ := h.cons_inv
    obtain ⟨c3, r3, rfl, h3, h⟩ := h.cons_inv
    obtain rfl := h.nil_inv
    obtain ⟨y0, rfl, w0⟩ := h0.sl_inv (α := Ent) rfl
    obtain ⟨y1, rfl, w1⟩ := h1.sl_inv (α := List Ent) rfl
    obtain ⟨y2, rfl, w2_⟩ := h2.int_inv
    have w2 := okI_of w2_
    obtain ⟨y3, rfl, w3⟩ := h3.sl_inv (α := Int) rfl
    exact ⟨{ Mem := y0, Tables := y1, Seq := y2, Snaps := y3 : Eng }, rfl, w0, w1, w2, w3⟩
structure Op where
  Key : List UInt8
  Del : Bool
  Val : List UInt8
  deriving DecidableEq
instance : Enc Op := ⟨3, fun x => [.str x.Key, .bool x.Del, .str x.Val], fun _ => rfl, by decide⟩
instance : Dec Op where
  sh := [.str, .bool, .str]
  ok x := x.Key.length ≤ 9223372036854775807 ∧ True ∧ x.Val.length ≤ 9223372036854775807
  dec cs h := by
    obtain ⟨c0, r0, rfl, h0, h⟩ := h.cons_inv
    obtain ⟨c1, r1, rfl, h1, h⟩ := h.cons_inv
    obtain ⟨c2, r2, rfl, h2, h⟩ := h.cons_inv
    obtain rfl := h.nil_inv
    obtain ⟨y0, rfl, w0⟩ := h0.str_inv
    obtain ⟨y1, rfl⟩ := h1.bool_inv
    have w1 := True.intro
    obtain ⟨y2, rfl, w2⟩ := h2.str_inv
    exact ⟨{ Key := y0, Del := y1, Val := y2 : Op }, rfl, w0, w1, w2⟩
instance : Flat Op := { vals := fun x => [strV x.Key, .bool x.Del, strV x.Val], flat := fun _ => rfl }
structure KV where
  Key : List UInt8
  Val : List UInt8
  deriving DecidableEq
instance : Enc KV := ⟨2, fun x => [.str x.Key, .str x.Val], fun _ => rfl, by decide⟩
instance : Dec KV where
  sh := [.str, .str]
  ok x := x.Key.length ≤ 9223372036854775807 ∧ x.Val.length ≤ 9223372036854775807
  dec cs h := by
    obtain ⟨c0, r0, rfl, h0, h⟩ := h.cons_inv
    obtain ⟨c1, r1, rfl, h1, h⟩ := h.cons_inv
    obtain rfl := h.nil_inv
    obtain ⟨y0, rfl, w0⟩ := h0.str_inv
    obtain ⟨y1, rfl, w1⟩ := h1.str_inv
    exact ⟨{ Key := y0, Val := y1 : KV }, rfl, w0, w1⟩
instance : Flat KV := { vals := fun x => [strV x.Key, strV x.Val], flat := fun _ => rfl }

theorem hMix : Try.prog.follows .mixedOrders = true := by kernel_rfl
theorem kf68_0 : fieldB Try.prog 68 0 = some 0 := by kernel_rfl
theorem kk9 : kindB Try.prog 9 = some (false, 1) := by kernel_rfl
theorem ks9 : isStrB Try.prog 9 = true := by kernel_rfl
theorem kf68_3 : fieldB Try.prog 68 3 = some 3 := by kernel_rfl
theorem ke22 : elemB Try.prog 22 = some (68, 4, 48) := by kernel_rfl
theorem kk68 : kindB Try.prog 68 = some (true, 4) := by kernel_rfl
theorem kc38 : callB Try.prog 38 = true := by kernel_rfl
theorem ke23 : elemB Try.prog 23 = some (22, 1, 24) := by kernel_rfl
theorem kk22 : kindB Try.prog 22 = some (false, 1) := by kernel_rfl
theorem kc16 : callB Try.prog 16 = true := by kernel_rfl
theorem ke24 : elemB Try.prog 24 = some (3, 1, 8) := by kernel_rfl
theorem kf26_0 : fieldB Try.prog 26 0 = some 0 := by kernel_rfl
theorem kf26_1 : fieldB Try.prog 26 1 = some 1 := by kernel_rfl
theorem kk23 : kindB Try.prog 23 = some (false, 1) := by kernel_rfl
theorem kc17 : callB Try.prog 17 = true := by kernel_rfl
theorem kf26_3 : fieldB Try.prog 26 3 = some 3 := by kernel_rfl
theorem kk24 : kindB Try.prog 24 = some (false, 1) := by kernel_rfl
theorem kc18 : callB Try.prog 18 = true := by kernel_rfl
theorem kz48 : zeroB Try.prog 48 = some (.agg #[strV ([]), .int .i64 (0 : Int), .bool false, strV ([])]) := by kernel_rfl
theorem kf48_0 : fieldB Try.prog 48 0 = some 0 := by kernel_rfl
theorem kf68_1 : fieldB Try.prog 68 1 = some 1 := by kernel_rfl
theorem kk3 : kindB Try.prog 3 = some (false, 1) := by kernel_rfl
theorem kf48_1 : fieldB Try.prog 48 1 = some 1 := by kernel_rfl
theorem kf68_2 : fieldB Try.prog 68 2 = some 2 := by kernel_rfl
theorem kk4 : kindB Try.prog 4 = some (false, 1) := by kernel_rfl
theorem kf48_2 : fieldB Try.prog 48 2 = some 2 := by kernel_rfl
theorem kf48_3 : fieldB Try.prog 48 3 = some 3 := by kernel_rfl
theorem kk48 : kindB Try.prog 48 = some (true, 4) := by kernel_rfl
theorem ke30 : elemB Try.prog 30 = some (48, 4, 48) := by kernel_rfl
theorem kc44 : callB Try.prog 44 = true := by kernel_rfl
theorem kz30 : zeroB Try.prog 30 = some (.slice none 0 0) := by kernel_rfl
theorem ke31 : elemB Try.prog 31 = some (30, 1, 24) := by kernel_rfl
theorem kc22 : callB Try.prog 22 = true := by kernel_rfl
theorem kk30 : kindB Try.prog 30 = some (false, 1) := by kernel_rfl
theorem kz3 : zeroB Try.prog 3 = some (.int .i64 (0 : Int)) := by kernel_rfl
theorem kz33 : zeroB Try.prog 33 = some (.agg #[.slice none 0 0, .slice none 0 0, .int .i64 (0 : Int), .slice none 0 0]) := by kernel_rfl
theorem kf33_0 : fieldB Try.prog 33 0 = some 0 := by kernel_rfl
theorem kc23 : callB Try.prog 23 = true := by kernel_rfl
theorem kf33_1 : fieldB Try.prog 33 1 = some 1 := by kernel_rfl
theorem kk31 : kindB Try.prog 31 = some (false, 1) := by kernel_rfl
theorem kf26_2 : fieldB Try.prog 26 2 = some 2 := by kernel_rfl
theorem kf33_2 : fieldB Try.prog 33 2 = some 2 := by kernel_rfl
theorem kc24 : callB Try.prog 24 = true := by kernel_rfl
theorem kf33_3 : fieldB Try.prog 33 3 = some 3 := by kernel_rfl
theorem kk33 : kindB Try.prog 33 = some (true, 4) := by kernel_rfl
theorem kf88_0 : fieldB Try.prog 88 0 = some 0 := by kernel_rfl
theorem kc40 : callB Try.prog 40 = true := by kernel_rfl
theorem kf88_2 : fieldB Try.prog 88 2 = some 2 := by kernel_rfl
theorem kf88_1 : fieldB Try.prog 88 1 = some 1 := by kernel_rfl
theorem kz88 : zeroB Try.prog 88 = some (.agg #[strV ([]), .bool false, strV ([])]) := by kernel_rfl
theorem kp88 : placesB Try.prog 88 = some [(0, 1), (1, 1), (2, 1)] := by kernel_rfl
theorem kc63 : callB Try.prog 63 = true := by kernel_rfl
theorem kc51 : callB Try.prog 51 = true := by kernel_rfl
theorem kc52 : callB Try.prog 52 = true := by kernel_rfl
theorem kc42 : callB Try.prog 42 = true := by kernel_rfl
theorem kc39 : callB Try.prog 39 = true := by kernel_rfl
theorem kc41 : callB Try.prog 41 = true := by kernel_rfl
theorem kc43 : callB Try.prog 43 = true := by kernel_rfl
theorem kp48 : placesB Try.prog 48 = some [(0, 1), (1, 1), (2, 1), (3, 1)] := by kernel_rfl
theorem kz63 : zeroB Try.prog 63 = some (.agg #[strV ([]), strV ([])]) := by kernel_rfl
theorem ke37 : elemB Try.prog 37 = some (63, 2, 32) := by kernel_rfl
theorem kc20 : callB Try.prog 20 = true := by kernel_rfl
theorem kp63 : placesB Try.prog 63 = some [(0, 1), (1, 1)] := by kernel_rfl
theorem kc19 : callB Try.prog 19 = true := by kernel_rfl
theorem kc21 : callB Try.prog 21 = true := by kernel_rfl
theorem kc30 : callB Try.prog 30 = true := by kernel_rfl
theorem kc47 : callB Try.prog 47 = true := by kernel_rfl
theorem kc70 : callB Try.prog 70 = true := by kernel_rfl
theorem kc45 : callB Try.prog 45 = true := by kernel_rfl
theorem kc71 : callB Try.prog 71 = true := by kernel_rfl
theorem kc74 : callB Try.prog 74 = true := by kernel_rfl
theorem kc75 : callB Try.prog 75 = true := by kernel_rfl
theorem kc68 : callB Try.prog 68 = true := by kernel_rfl
theorem kc69 : callB Try.prog 69 = true := by kernel_rfl
theorem kc67 : callB Try.prog 67 = true := by kernel_rfl
theorem kc64 : callB Try.prog 64 = true := by kernel_rfl
theorem kc59 : callB Try.prog 59 = true := by kernel_rfl
theorem kc56 : callB Try.prog 56 = true := by kernel_rfl
theorem kc53 : callB Try.prog 53 = true := by kernel_rfl
theorem kc54 : callB Try.prog 54 = true := by kernel_rfl
theorem kc55 : callB Try.prog 55 = true := by kernel_rfl
theorem kc46 : callB Try.prog 46 = true := by kernel_rfl
theorem ki3 : intB Try.prog 3 = some .i64 := by kernel_rfl
theorem kc65 : callB Try.prog 65 = true := by kernel_rfl
theorem kc57 : callB Try.prog 57 = true := by kernel_rfl
theorem kc72 : callB Try.prog 72 = true := by kernel_rfl
theorem ki98 : intB Try.prog 98 = some .u64 := by kernel_rfl
theorem kc77 : callB Try.prog 77 = true := by kernel_rfl
theorem kc76 : callB Try.prog 76 = true := by kernel_rfl
theorem kc73 : callB Try.prog 73 = true := by kernel_rfl
theorem kc66 : callB Try.prog 66 = true := by kernel_rfl
theorem kc58 : callB Try.prog 58 = true := by kernel_rfl
theorem kc62 : callB Try.prog 62 = true := by kernel_rfl
theorem kc61 : callB Try.prog 61 = true := by kernel_rfl
theorem kc60 : callB Try.prog 60 = true := by kernel_rfl
theorem kc50 : callB Try.prog 50 = true := by kernel_rfl
theorem kc25 : callB Try.prog 25 = true := by kernel_rfl
theorem kc32 : callB Try.prog 32 = true := by kernel_rfl
theorem kc31 : callB Try.prog 31 = true := by kernel_rfl
theorem kf63_0 : fieldB Try.prog 63 0 = some 0 := by kernel_rfl
theorem kf63_1 : fieldB Try.prog 63 1 = some 1 := by kernel_rfl
theorem kk63 : kindB Try.prog 63 = some (true, 2) := by kernel_rfl
theorem kc33 : callB Try.prog 33 = true := by kernel_rfl
theorem kb4 : Try.prog.underlying 4 = some .bool := by kernel_rfl
theorem kc49 : callB Try.prog 49 = true := by kernel_rfl
theorem kc27 : callB Try.prog 27 = true := by kernel_rfl
theorem kc28 : callB Try.prog 28 = true := by kernel_rfl
theorem kc29 : callB Try.prog 29 = true := by kernel_rfl
theorem ki5 : intB Try.prog 5 = some .u8 := by kernel_rfl
theorem kz5 : zeroB Try.prog 5 = some (.int .u8 (0 : Int)) := by kernel_rfl
theorem ke78 : elemB Try.prog 78 = some (5, 1, 1) := by kernel_rfl
theorem kc37 : callB Try.prog 37 = true := by kernel_rfl
theorem kc34 : callB Try.prog 34 = true := by kernel_rfl
theorem kc35 : callB Try.prog 35 = true := by kernel_rfl
theorem kc36 : callB Try.prog 36 = true := by kernel_rfl
theorem kk26 : kindB Try.prog 26 = some (true, 4) := by kernel_rfl
theorem kc5 : callB Try.prog 5 = true := by kernel_rfl
theorem kc7 : callB Try.prog 7 = true := by kernel_rfl
theorem kc10 : callB Try.prog 10 = true := by kernel_rfl
theorem kc11 : callB Try.prog 11 = true := by kernel_rfl
theorem kc12 : callB Try.prog 12 = true := by kernel_rfl
theorem kc9 : callB Try.prog 9 = true := by kernel_rfl
theorem kc13 : callB Try.prog 13 = true := by kernel_rfl
theorem kc14 : callB Try.prog 14 = true := by kernel_rfl
theorem kc15 : callB Try.prog 15 = true := by kernel_rfl
theorem hu26 : Try.prog.underlying 26 = some (.struct #[⟨ "Mem", 22, 0, Bool.false, "", "", 0⟩, ⟨ "Tables", 23, 1, Bool.false, "", "", 24⟩, ⟨ "Seq", 3, 2, Bool.false, "", "", 48⟩, ⟨ "Snaps", 24, 3, Bool.false, "", "", 56⟩]) := by kernel_rfl
theorem hs26 : shB Try.prog 20 26 = some (Dec.sh Eng) := by kernel_rfl
theorem hu3 : Try.prog.underlying 3 = some (.int .i64) := by kernel_rfl
theorem hs3 : shB Try.prog 20 3 = some ([.int .i64]) := by kernel_rfl

/-- loop.example/g00950/laws.szEnt -/
noncomputable def laws_szEnt (a : Ent) (left : Int) : Option Int :=
  if (decide (IntKind.i64.wrap (left - ((a.Key.length : Nat) : Int)) < (0 : Int))) = true then (some (-1 : Int))
  else (if (decide (IntKind.i64.wrap (IntKind.i64.wrap (left - ((a.Key.length : Nat) : Int)) - ((a.Val.length : Nat) : Int)) < (0 : Int))) = true then (some (-1 : Int))
  else (some (IntKind.i64.wrap (IntKind.i64.wrap (left - ((a.Key.length : Nat) : Int)) - ((a.Val.length : Nat) : Int)))))

theorem laws_szEnt_con (a : Ent) (left : Int)  (r : Int) (hm : laws_szEnt a left = some r) :
    Con Try.prog 38 [.agg #[strV a.Key, .int .i64 a.Seq, .bool a.Del, strV a.Val], .int .i64 left] [] [] (fun _ : Unit => .int .i64 r) (fun _ => []) := by
  refine Con.intro (args := [.agg #[strV a.Key, .int .i64 a.Seq, .bool a.Del, strV a.Val], .int .i64 left]) (n := 20) (val := fun r (_ : Unit) => .int .i64 r) (post := fun _ _ => []) (m := laws_szEnt a left) Try.func38 rfl rfl rfl hm ?_
  intro w S _
  unfold laws_szEnt
  refine TW.seq ?_
  refine TW.region ?_
  refine TO.ef (Ef.box rfl (Cel.plain rfl rfl)) rfl rfl rfl (fun B1 => ?_)
  refine TO.y (Y.assign rfl) rfl rfl rfl ?_
  refine TO.nil ?_
  refine TE.next ?_
  refine TW.seq ?_
  refine TW.region ?_
  refine TO.y (Y.move rfl) rfl rfl rfl ?_
  refine TO.y (Y.field_box kf68_0 rfl rfl) rfl rfl rfl ?_
  refine TO.y (Y.load_box (v := strV a.Key) 0 kk9 rfl rfl rfl) rfl rfl rfl ?_
  refine TO.y (Y.slen ks9 rfl) rfl rfl rfl ?_
  refine TO.y (Y.sub rfl rfl) rfl rfl rfl ?_
  refine TO.y (Y.assign rfl) rfl rfl rfl ?_
  refine TO.nil ?_
  refine TE.next ?_
  refine TW.seq ?_
  refine TW.seq ?_
  refine TW.region ?_
  refine TO.y (Y.move rfl) rfl rfl rfl ?_
  refine TO.y (Y.lss rfl rfl) rfl rfl rfl ?_
  refine TO.nil ?_
  refine TE.next ?_
  refine TW.cond rfl (fun H2 => ?_) (fun H2 => ?_)
  ·refine TW.seq ?_
   refine TW.region ?_
   refine TO.y (Y.assign rfl) rfl rfl rfl ?_
   refine TO.nil ?_
   refine TE.next ?_
   refine TW.ret ?_
   refine TE.then_ret ?_
   exact TE.leaf fun _ _ hf_ hs_ => ret_any (rs := [.tmp 4]) (vs := [.int .i64 (-1 : Int)]) (.inl rfl) rfl ⟨rfl, trivial⟩ hf_ hs_ ⟨(), rfl, hs_.pulls [] rfl⟩
  refine TW.skip ?_
  refine TE.next ?_
  refine TW.seq ?_
  refine TW.region ?_
  refine TO.y (Y.move rfl) rfl rfl rfl ?_
  refine TO.y (Y.field_box kf68_3 rfl rfl) rfl rfl rfl ?_
  refine TO.y (Y.load_box (v := strV a.Val) 0 kk9 rfl rfl rfl) rfl rfl rfl ?_
  refine TO.y (Y.slen ks9 rfl) rfl rfl rfl ?_
  refine TO.y (Y.sub rfl rfl) rfl rfl rfl ?_
  refine TO.y (Y.assign rfl) rfl rfl rfl ?_
  refine TO.nil ?_
  refine TE.next ?_
  refine TW.seq ?_
  refine TW.seq ?_
  refine TW.region ?_
  refine TO.y (Y.move rfl) rfl rfl rfl ?_
  refine TO.y (Y.lss rfl rfl) rfl rfl rfl ?_
  refine TO.nil ?_
  refine TE.next ?_
  refine TW.cond rfl (fun H3 => ?_) (fun H3 => ?_)
  ·refine TW.seq ?_
   refine TW.region ?_
   refine TO.y (Y.assign rfl) rfl rfl rfl ?_
   refine TO.nil ?_
   refine TE.next ?_
   refine TW.ret ?_
   refine TE.then_ret ?_
   exact TE.leaf fun _ _ hf_ hs_ => ret_any (rs := [.tmp 4]) (vs := [.int .i64 (-1 : Int)]) (.inl rfl) rfl ⟨rfl, trivial⟩ hf_ hs_ ⟨(), rfl, hs_.pulls [] rfl⟩
  refine TW.skip ?_
  refine TE.next ?_
  refine TW.seq ?_
  refine TW.region ?_
  refine TO.y (Y.move rfl) rfl rfl rfl ?_
  refine TO.y (Y.assign rfl) rfl rfl rfl ?_
  refine TO.nil ?_
  refine TE.next ?_
  refine TW.ret ?_
  exact TE.leaf fun _ _ hf_ hs_ => ret_any (rs := [.tmp 4]) (vs := [.int .i64 (IntKind.i64.wrap (IntKind.i64.wrap (left - ((a.Key.length : Nat) : Int)) - ((a.Val.length : Nat) : Int)))]) (.inl rfl) rfl ⟨rfl, trivial⟩ hf_ hs_ ⟨(), rfl, hs_.pulls [] rfl⟩

/-- loop.example/g00950/laws.szEntS -/
noncomputable def laws_szEntS (a : List Ent) (left : Int) : Option Int :=
  if (decide (IntKind.i64.wrap (left - ((a.length : Nat) : Int)) < (0 : Int))) = true then (some (-1 : Int))
  else (bindC (loopO (fun (S2 : Int × Int) => if (decide (S2.2 < ((a.length : Nat) : Int))) = true then ((idx a S2.2).bind fun E7 =>
  (laws_szEnt E7 S2.1).bind fun R9 =>
  if (decide (R9 < (0 : Int))) = true then (some (.done (.done (-1 : Int))))
  else (some (.go (R9, IntKind.i64.wrap (S2.2 + (1 : Int))))))
  else (some (.done (.go S2.1))))
  (IntKind.i64.wrap (left - ((a.length : Nat) : Int)), (0 : Int)))
  (fun (T4 : Int) => some T4))

theorem laws_szEntS_con (a : List Ent) (left : Int) (V_a0 : Value) (r : Int) (hm : laws_szEntS a left = some r) :
    Con Try.prog 16 [V_a0, .int .i64 left] [] [(V_a0, lc a)] (fun _ : Unit => .int .i64 r) (fun _ => []) := by
  refine Con.intro (args := [V_a0, .int .i64 left]) (n := 27) (val := fun r (_ : Unit) => .int .i64 r) (post := fun _ _ => []) (m := laws_szEntS a left) Try.func16 rfl rfl rfl hm ?_
  intro w S hrd
  have HB_V_a0 := hrd _ (.head _)
  clear hrd
  unfold laws_szEntS
  refine TW.seq ?_
  refine TW.region ?_
  refine TO.y (Y.assign rfl) rfl rfl rfl ?_
  refine TO.nil ?_
  refine TE.next ?_
  refine TW.seq ?_
  refine TW.region ?_
  refine TO.y (Y.move rfl) rfl rfl rfl ?_
  refine TO.y (Y.move rfl) rfl rfl rfl ?_
  refine TO.y (Y.len (l := a) ke22 (Base.can HB_V_a0) rfl) rfl rfl rfl ?_
  refine TO.y (Y.sub rfl rfl) rfl rfl rfl ?_
  refine TO.y (Y.assign rfl) rfl rfl rfl ?_
  refine TO.nil ?_
  refine TE.next ?_
  refine TW.seq ?_
  refine TW.seq ?_
  refine TW.region ?_
  refine TO.y (Y.move rfl) rfl rfl rfl ?_
  refine TO.y (Y.lss rfl rfl) rfl rfl rfl ?_
  refine TO.nil ?_
  refine TE.next ?_
  refine TW.cond rfl (fun H1 => ?_) (fun H1 => ?_)
  ·refine TW.seq ?_
   refine TW.region ?_
   refine TO.y (Y.assign rfl) rfl rfl rfl ?_
   refine TO.nil ?_
   refine TE.next ?_
   refine TW.ret ?_
   refine TE.then_ret ?_
   exact TE.leaf fun _ _ hf_ hs_ => ret_any (rs := [.tmp 4]) (vs := [.int .i64 (-1 : Int)]) (.inl rfl) rfl ⟨rfl, trivial⟩ hf_ hs_ ⟨(), rfl, hs_.pulls [] rfl⟩
  refine TW.skip ?_
  refine TE.next ?_
  refine TW.seq ?_
  refine TW.seq ?_
  refine TW.region ?_
  refine TO.y (Y.assign rfl) rfl rfl rfl ?_
  refine TO.nil ?_
  refine TE.next ?_
  refine TW.joinX (τ := Int) (X := Unit) (fun T _ => [(1, .int .i64 T)]) (fun _ _ => []) ?_ (fun T4 X5 => ?_)
  ·refine TW.block ?_
   refine TW.loopX (σ := Int × Int) (X := Unit) (fun T _ => [(0, V_a0), (1, .int .i64 T.1), (5, .int .i64 T.2)]) (fun _ _ => []) () [] ⟨rfl, rfl, rfl, trivial⟩ rfl (fun S2 X3 => ?_)
   refine TW.seq ?_
   refine TW.seq ?_
   refine TW.region ?_
   refine TO.y (Y.move rfl) rfl rfl rfl ?_
   refine TO.y (Y.move rfl) rfl rfl rfl ?_
   refine TO.y (Y.len (l := a) ke22 (Base.can HB_V_a0) rfl) rfl rfl rfl ?_
   refine TO.y (Y.lss rfl rfl) rfl rfl rfl ?_
   refine TO.nil ?_
   refine TE.next ?_
   refine TW.cond rfl (fun H6 => ?_) (fun H6 => ?_)
   ·refine TW.skip ?_
    refine TE.next ?_
    refine TW.seq ?_
    refine TW.block ?_
    refine TW.seq ?_
    refine TW.region ?_
    refine TO.y (Y.move rfl) rfl rfl rfl ?_
    refine TO.y (Y.move rfl) rfl rfl rfl ?_
    refine TO.bind fun E7 H8 => ?_
    refine TO.y (Y.index ke22 (Base.can HB_V_a0) H8 rfl rfl) rfl rfl rfl ?_
    refine TO.y (Y.load_el (us := [strV E7.Key, .int .i64 E7.Seq, .bool E7.Del, strV E7.Val]) (u := .agg #[strV E7.Key, .int .i64 E7.Seq, .bool E7.Del, strV E7.Val]) kk68 rfl (Base.can HB_V_a0) (idx_get H8).2.2 rfl rfl rfl rfl rfl) rfl rfl rfl ?_
    refine TO.y (Y.move rfl) rfl rfl rfl ?_
    refine TO.bind fun R9 H10 => ?_
    refine TO.ef (Ef.call (rest := []) [] (laws_szEnt_con E7 S2.1  R9 H10) kc38 rfl rfl trivial) rfl rfl rfl (fun _ => ?_)
    refine TO.y (Y.assign rfl) rfl rfl rfl ?_
    refine TO.nil ?_
    refine TE.next ?_
    refine TW.seq ?_
    refine TW.region ?_
    refine TO.y (Y.move rfl) rfl rfl rfl ?_
    refine TO.y (Y.lss rfl rfl) rfl rfl rfl ?_
    refine TO.nil ?_
    refine TE.next ?_
    refine TW.cond rfl (fun H12 => ?_) (fun H12 => ?_)
    ·refine TW.seq ?_
     refine TW.region ?_
     refine TO.y (Y.assign rfl) rfl rfl rfl ?_
     refine TO.nil ?_
     refine TE.next ?_
     refine TW.ret ?_
     refine TE.block_ret ?_
     refine TE.then_ret ?_
     refine TE.lp_ret ?_
     refine TE.block_ret ?_
     refine TE.jn_done ?_
     refine TE.then_ret ?_
     exact TE.leaf fun _ _ hf_ hs_ => ret_any (rs := [.tmp 4]) (vs := [.int .i64 (-1 : Int)]) (.inl rfl) rfl ⟨rfl, trivial⟩ hf_ hs_ ⟨(), rfl, hs_.pulls [] rfl⟩
    refine TW.skip ?_
    refine TE.block_normal ?_
    refine TE.next ?_
    refine TW.region ?_
    refine TO.y (Y.move rfl) rfl rfl rfl ?_
    refine TO.y (Y.add rfl rfl) rfl rfl rfl ?_
    refine TO.y (Y.assign rfl) rfl rfl rfl ?_
    refine TO.nil ?_
    exact TE.lp_go () [] ⟨rfl, rfl, rfl, trivial⟩ rfl
   refine TW.exit ?_
   refine TE.then_exit ?_
   refine TE.lp_exit ?_
   refine TE.block_exit ?_
   exact TE.jn_go () [] ⟨rfl, trivial⟩ rfl
  refine TE.next ?_
  refine TW.seq ?_
  refine TW.region ?_
  refine TO.y (Y.move rfl) rfl rfl rfl ?_
  refine TO.y (Y.assign rfl) rfl rfl rfl ?_
  refine TO.nil ?_
  refine TE.next ?_
  refine TW.ret ?_
  exact TE.leaf fun _ _ hf_ hs_ => ret_any (rs := [.tmp 4]) (vs := [.int .i64 T4]) (.inl rfl) rfl ⟨rfl, trivial⟩ hf_ hs_ ⟨(), rfl, hs_.pulls [] rfl⟩

/-- loop.example/g00950/laws.szEntSS -/
noncomputable def laws_szEntSS (a : List (List Ent)) (left : Int) : Option Int :=
  if (decide (IntKind.i64.wrap (left - ((a.length : Nat) : Int)) < (0 : Int))) = true then (some (-1 : Int))
  else (bindC (loopO (fun (S2 : Int × Int) => if (decide (S2.2 < ((a.length : Nat) : Int))) = true then ((idx a S2.2).bind fun E7 =>
  (laws_szEntS E7 S2.1).bind fun R10 =>
  if (decide (R10 < (0 : Int))) = true then (some (.done (.done (-1 : Int))))
  else (some (.go (R10, IntKind.i64.wrap (S2.2 + (1 : Int))))))
  else (some (.done (.go S2.1))))
  (IntKind.i64.wrap (left - ((a.length : Nat) : Int)), (0 : Int)))
  (fun (T4 : Int) => some T4))

theorem laws_szEntSS_con (a : List (List Ent)) (left : Int) (V_a0 : Value) (r : Int) (hm : laws_szEntSS a left = some r) :
    Con Try.prog 17 [V_a0, .int .i64 left] [] [(V_a0, lc a)] (fun _ : Unit => .int .i64 r) (fun _ => []) := by
  refine Con.intro (args := [V_a0, .int .i64 left]) (n := 27) (val := fun r (_ : Unit) => .int .i64 r) (post := fun _ _ => []) (m := laws_szEntSS a left) Try.func17 rfl rfl rfl hm ?_
  intro w S hrd
  have HB_V_a0 := hrd _ (.head _)
  clear hrd
  unfold laws_szEntSS
  refine TW.seq ?_
  refine TW.region ?_
  refine TO.y (Y.assign rfl) rfl rfl rfl ?_
  refine TO.nil ?_
  refine TE.next ?_
  refine TW.seq ?_
  refine TW.region ?_
  refine TO.y (Y.move rfl) rfl rfl rfl ?_
  refine TO.y (Y.move rfl) rfl rfl rfl ?_
  refine TO.y (Y.len (l := a) ke23 (Base.can HB_V_a0) rfl) rfl rfl rfl ?_
  refine TO.y (Y.sub rfl rfl) rfl rfl rfl ?_
  refine TO.y (Y.assign rfl) rfl rfl rfl ?_
  refine TO.nil ?_
  refine TE.next ?_
  refine TW.seq ?_
  refine TW.seq ?_
  refine TW.region ?_
  refine TO.y (Y.move rfl) rfl rfl rfl ?_
  refine TO.y (Y.lss rfl rfl) rfl rfl rfl ?_
  refine TO.nil ?_
  refine TE.next ?_
  refine TW.cond rfl (fun H1 => ?_) (fun H1 => ?_)
  ·refine TW.seq ?_
   refine TW.region ?_
   refine TO.y (Y.assign rfl) rfl rfl rfl ?_
   refine TO.nil ?_
   refine TE.next ?_
   refine TW.ret ?_
   refine TE.then_ret ?_
   exact TE.leaf fun _ _ hf_ hs_ => ret_any (rs := [.tmp 4]) (vs := [.int .i64 (-1 : Int)]) (.inl rfl) rfl ⟨rfl, trivial⟩ hf_ hs_ ⟨(), rfl, hs_.pulls [] rfl⟩
  refine TW.skip ?_
  refine TE.next ?_
  refine TW.seq ?_
  refine TW.seq ?_
  refine TW.region ?_
  refine TO.y (Y.assign rfl) rfl rfl rfl ?_
  refine TO.nil ?_
  refine TE.next ?_
  refine TW.joinX (τ := Int) (X := Unit) (fun T _ => [(1, .int .i64 T)]) (fun _ _ => []) ?_ (fun T4 X5 => ?_)
  ·refine TW.block ?_
   refine TW.loopX (σ := Int × Int) (X := Unit) (fun T _ => [(0, V_a0), (1, .int .i64 T.1), (5, .int .i64 T.2)]) (fun _ _ => []) () [] ⟨rfl, rfl, rfl, trivial⟩ rfl (fun S2 X3 => ?_)
   refine TW.seq ?_
   refine TW.seq ?_
   refine TW.region ?_
   refine TO.y (Y.move rfl) rfl rfl rfl ?_
   refine TO.y (Y.move rfl) rfl rfl rfl ?_
   refine TO.y (Y.len (l := a) ke23 (Base.can HB_V_a0) rfl) rfl rfl rfl ?_
   refine TO.y (Y.lss rfl rfl) rfl rfl rfl ?_
   refine TO.nil ?_
   refine TE.next ?_
   refine TW.cond rfl (fun H6 => ?_) (fun H6 => ?_)
   ·refine TW.skip ?_
    refine TE.next ?_
    refine TW.seq ?_
    refine TW.block ?_
    refine TW.seq ?_
    refine TW.region ?_
    refine TO.y (Y.move rfl) rfl rfl rfl ?_
    refine TO.y (Y.move rfl) rfl rfl rfl ?_
    refine TO.bind fun E7 H8 => ?_
    refine TO.y (Y.index ke23 (Base.can HB_V_a0) H8 rfl rfl) rfl rfl rfl ?_
    have Q9 : Base w S (elv w V_a0 (S2.2.toNat * 1 + 0)) (lc E7) := Base.el HB_V_a0 (idx_get H8).2.2 rfl rfl
    refine TO.y (Y.load_base (α := List Ent) (u := (elv w V_a0 (S2.2.toNat * 1 + 0))) kk22 rfl HB_V_a0 (idx_get H8).2.2 rfl rfl rfl rfl rfl) rfl rfl rfl ?_
    refine TO.y (Y.move rfl) rfl rfl rfl ?_
    refine TO.bind fun R10 H11 => ?_
    refine TO.ef (Ef.call (rest := []) [] (laws_szEntS_con E7 S2.1 (elv w V_a0 (S2.2.toNat * 1 + 0)) R10 H11) kc16 rfl rfl ⟨(Base.can Q9), trivial⟩) rfl rfl rfl (fun _ => ?_)
    refine TO.y (Y.assign rfl) rfl rfl rfl ?_
    refine TO.nil ?_
    refine TE.next ?_
    refine TW.seq ?_
    refine TW.region ?_
    refine TO.y (Y.move rfl) rfl rfl rfl ?_
    refine TO.y (Y.lss rfl rfl) rfl rfl rfl ?_
    refine TO.nil ?_
    refine TE.next ?_
    refine TW.cond rfl (fun H13 => ?_) (fun H13 => ?_)
    ·refine TW.seq ?_
     refine TW.region ?_
     refine TO.y (Y.assign rfl) rfl rfl rfl ?_
     refine TO.nil ?_
     refine TE.next ?_
     refine TW.ret ?_
     refine TE.block_ret ?_
     refine TE.then_ret ?_
     refine TE.lp_ret ?_
     refine TE.block_ret ?_
     refine TE.jn_done ?_
     refine TE.then_ret ?_
     exact TE.leaf fun _ _ hf_ hs_ => ret_any (rs := [.tmp 4]) (vs := [.int .i64 (-1 : Int)]) (.inl rfl) rfl ⟨rfl, trivial⟩ hf_ hs_ ⟨(), rfl, hs_.pulls [] rfl⟩
    refine TW.skip ?_
    refine TE.block_normal ?_
    refine TE.next ?_
    refine TW.region ?_
    refine TO.y (Y.move rfl) rfl rfl rfl ?_
    refine TO.y (Y.add rfl rfl) rfl rfl rfl ?_
    refine TO.y (Y.assign rfl) rfl rfl rfl ?_
    refine TO.nil ?_
    exact TE.lp_go () [] ⟨rfl, rfl, rfl, trivial⟩ rfl
   refine TW.exit ?_
   refine TE.then_exit ?_
   refine TE.lp_exit ?_
   refine TE.block_exit ?_
   exact TE.jn_go () [] ⟨rfl, trivial⟩ rfl
  refine TE.next ?_
  refine TW.seq ?_
  refine TW.region ?_
  refine TO.y (Y.move rfl) rfl rfl rfl ?_
  refine TO.y (Y.assign rfl) rfl rfl rfl ?_
  refine TO.nil ?_
  refine TE.next ?_
  refine TW.ret ?_
  exact TE.leaf fun _ _ hf_ hs_ => ret_any (rs := [.tmp 4]) (vs := [.int .i64 T4]) (.inl rfl) rfl ⟨rfl, trivial⟩ hf_ hs_ ⟨(), rfl, hs_.pulls [] rfl⟩

/-- loop.example/g00950/laws.szIntS -/
noncomputable def laws_szIntS (a : List Int) (left : Int) : Option Int :=
  if (decide (IntKind.i64.wrap (left - ((a.length : Nat) : Int)) < (0 : Int))) = true then (some (-1 : Int))
  else (some (IntKind.i64.wrap (left - ((a.length : Nat) : Int))))

theorem laws_szIntS_con (a : List Int) (left : Int) (V_a0 : Value) (r : Int) (hm : laws_szIntS a left = some r) :
    Con Try.prog 18 [V_a0, .int .i64 left] [] [(V_a0, lc a)] (fun _ : Unit => .int .i64 r) (fun _ => []) := by
  refine Con.intro (args := [V_a0, .int .i64 left]) (n := 12) (val := fun r (_ : Unit) => .int .i64 r) (post := fun _ _ => []) (m := laws_szIntS a left) Try.func18 rfl rfl rfl hm ?_
  intro w S hrd
  have HB_V_a0 := hrd _ (.head _)
  clear hrd
  unfold laws_szIntS
  refine TW.seq ?_
  refine TW.region ?_
  refine TO.y (Y.assign rfl) rfl rfl rfl ?_
  refine TO.nil ?_
  refine TE.next ?_
  refine TW.seq ?_
  refine TW.region ?_
  refine TO.y (Y.move rfl) rfl rfl rfl ?_
  refine TO.y (Y.move rfl) rfl rfl rfl ?_
  refine TO.y (Y.len (l := a) ke24 (Base.can HB_V_a0) rfl) rfl rfl rfl ?_
  refine TO.y (Y.sub rfl rfl) rfl rfl rfl ?_
  refine TO.y (Y.assign rfl) rfl rfl rfl ?_
  refine TO.nil ?_
  refine TE.next ?_
  refine TW.seq ?_
  refine TW.seq ?_
  refine TW.region ?_
  refine TO.y (Y.move rfl) rfl rfl rfl ?_
  refine TO.y (Y.lss rfl rfl) rfl rfl rfl ?_
  refine TO.nil ?_
  refine TE.next ?_
  refine TW.cond rfl (fun H1 => ?_) (fun H1 => ?_)
  ·refine TW.seq ?_
   refine TW.region ?_
   refine TO.y (Y.assign rfl) rfl rfl rfl ?_
   refine TO.nil ?_
   refine TE.next ?_
   refine TW.ret ?_
   refine TE.then_ret ?_
   exact TE.leaf fun _ _ hf_ hs_ => ret_any (rs := [.tmp 4]) (vs := [.int .i64 (-1 : Int)]) (.inl rfl) rfl ⟨rfl, trivial⟩ hf_ hs_ ⟨(), rfl, hs_.pulls [] rfl⟩
  refine TW.skip ?_
  refine TE.next ?_
  refine TW.seq ?_
  refine TW.region ?_
  refine TO.y (Y.move rfl) rfl rfl rfl ?_
  refine TO.y (Y.assign rfl) rfl rfl rfl ?_
  refine TO.nil ?_
  refine TE.next ?_
  refine TW.ret ?_
  exact TE.leaf fun _ _ hf_ hs_ => ret_any (rs := [.tmp 4]) (vs := [.int .i64 (IntKind.i64.wrap (left - ((a.length : Nat) : Int)))]) (.inl rfl) rfl ⟨rfl, trivial⟩ hf_ hs_ ⟨(), rfl, hs_.pulls [] rfl⟩

/-- loop.example/g00950/laws.szEng -/
noncomputable def laws_szEng (a : Eng) (left : Int) : Option Int :=
  (laws_szEntS a.Mem left).bind fun R2 =>
  if (decide (R2 < (0 : Int))) = true then (some (-1 : Int))
  else ((laws_szEntSS a.Tables R2).bind fun R6 =>
  if (decide (R6 < (0 : Int))) = true then (some (-1 : Int))
  else ((laws_szIntS a.Snaps R6).bind fun R10 =>
  if (decide (R10 < (0 : Int))) = true then (some (-1 : Int))
  else (some R10)))

theorem laws_szEng_con (a : Eng) (left : Int) (V_a0 : Value) (V_a1 : Value) (V_a3 : Value) (r : Int) (hm : laws_szEng a left = some r) :
    Con Try.prog 5 [.agg #[V_a0, V_a1, .int .i64 a.Seq, V_a3], .int .i64 left] [] [(V_a0, lc a.Mem), (V_a1, lc a.Tables), (V_a3, lc a.Snaps)] (fun _ : Unit => .int .i64 r) (fun _ => []) := by
  refine Con.intro (args := [.agg #[V_a0, V_a1, .int .i64 a.Seq, V_a3], .int .i64 left]) (n := 24) (val := fun r (_ : Unit) => .int .i64 r) (post := fun _ _ => []) (m := laws_szEng a left) Try.func5 rfl rfl rfl hm ?_
  intro w S hrd
  have HB_V_a0 := hrd _ (.head _)
  have HB_V_a1 := hrd _ (.tail _ (.head _))
  have HB_V_a3 := hrd _ (.tail _ (.tail _ (.head _)))
  clear hrd
  unfold laws_szEng
  refine TW.seq ?_
  refine TW.region ?_
  refine TO.ef (Ef.box rfl (Cel.agg ⟨(One.can (Base.can HB_V_a0)), (One.can (Base.can HB_V_a1)), (One.plain rfl), (One.can (Base.can HB_V_a3)), trivial⟩)) rfl rfl rfl (fun B1 => ?_)
  refine TO.y (Y.assign rfl) rfl rfl rfl ?_
  refine TO.nil ?_
  refine TE.next ?_
  refine TW.seq ?_
  refine TW.region ?_
  refine TO.y (Y.field_box kf26_0 rfl rfl) rfl rfl rfl ?_
  refine TO.y (Y.load_box (v := V_a0) 0 kk22 rfl rfl rfl) rfl rfl rfl ?_
  refine TO.y (Y.move rfl) rfl rfl rfl ?_
  refine TO.bind fun R2 H3 => ?_
  refine TO.ef (Ef.call (rest := [.box B1 26 [V_a0, V_a1, .int .i64 a.Seq, V_a3]]) [0] (laws_szEntS_con a.Mem left V_a0 R2 H3) kc16 rfl rfl ⟨(Base.can HB_V_a0), trivial⟩) rfl rfl rfl (fun _ => ?_)
  refine TO.y (Y.assign rfl) rfl rfl rfl ?_
  refine TO.nil ?_
  refine TE.next ?_
  refine TW.seq ?_
  refine TW.seq ?_
  refine TW.region ?_
  refine TO.y (Y.move rfl) rfl rfl rfl ?_
  refine TO.y (Y.lss rfl rfl) rfl rfl rfl ?_
  refine TO.nil ?_
  refine TE.next ?_
  refine TW.cond rfl (fun H5 => ?_) (fun H5 => ?_)
  ·refine TW.seq ?_
   refine TW.region ?_
   refine TO.y (Y.assign rfl) rfl rfl rfl ?_
   refine TO.nil ?_
   refine TE.next ?_
   refine TW.ret ?_
   refine TE.then_ret ?_
   exact TE.leaf fun _ _ hf_ hs_ => ret_any (rs := [.tmp 4]) (vs := [.int .i64 (-1 : Int)]) (.inl rfl) rfl ⟨rfl, trivial⟩ hf_ hs_ ⟨(), rfl, hs_.pulls [] rfl⟩
  refine TW.skip ?_
  refine TE.next ?_
  refine TW.seq ?_
  refine TW.region ?_
  refine TO.y (Y.field_box kf26_1 rfl rfl) rfl rfl rfl ?_
  refine TO.y (Y.load_box (v := V_a1) 0 kk23 rfl rfl rfl) rfl rfl rfl ?_
  refine TO.y (Y.move rfl) rfl rfl rfl ?_
  refine TO.bind fun R6 H7 => ?_
  refine TO.ef (Ef.call (rest := [.box B1 26 [V_a0, V_a1, .int .i64 a.Seq, V_a3]]) [0] (laws_szEntSS_con a.Tables R2 V_a1 R6 H7) kc17 rfl rfl ⟨(Base.can HB_V_a1), trivial⟩) rfl rfl rfl (fun _ => ?_)
  refine TO.y (Y.assign rfl) rfl rfl rfl ?_
  refine TO.nil ?_
  refine TE.next ?_
  refine TW.seq ?_
  refine TW.seq ?_
  refine TW.region ?_
  refine TO.y (Y.move rfl) rfl rfl rfl ?_
  refine TO.y (Y.lss rfl rfl) rfl rfl rfl ?_
  refine TO.nil ?_
  refine TE.next ?_
  refine TW.cond rfl (fun H9 => ?_) (fun H9 => ?_)
  ·refine TW.seq ?_
   refine TW.region ?_
   refine TO.y (Y.assign rfl) rfl rfl rfl ?_
   refine TO.nil ?_
   refine TE.next ?_
   refine TW.ret ?_
   refine TE.then_ret ?_
   exact TE.leaf fun _ _ hf_ hs_ => ret_any (rs := [.tmp 4]) (vs := [.int .i64 (-1 : Int)]) (.inl rfl) rfl ⟨rfl, trivial⟩ hf_ hs_ ⟨(), rfl, hs_.pulls [] rfl⟩
  refine TW.skip ?_
  refine TE.next ?_
  refine TW.seq ?_
  refine TW.region ?_
  refine TO.y (Y.field_box kf26_3 rfl rfl) rfl rfl rfl ?_
  refine TO.y (Y.load_box (v := V_a3) 0 kk24 rfl rfl rfl) rfl rfl rfl ?_
  refine TO.y (Y.move rfl) rfl rfl rfl ?_
  refine TO.bind fun R10 H11 => ?_
  refine TO.ef (Ef.call (rest := [.box B1 26 [V_a0, V_a1, .int .i64 a.Seq, V_a3]]) [0] (laws_szIntS_con a.Snaps R6 V_a3 R10 H11) kc18 rfl rfl ⟨(Base.can HB_V_a3), trivial⟩) rfl rfl rfl (fun _ => ?_)
  refine TO.y (Y.assign rfl) rfl rfl rfl ?_
  refine TO.nil ?_
  refine TE.next ?_
  refine TW.seq ?_
  refine TW.seq ?_
  refine TW.region ?_
  refine TO.y (Y.move rfl) rfl rfl rfl ?_
  refine TO.y (Y.lss rfl rfl) rfl rfl rfl ?_
  refine TO.nil ?_
  refine TE.next ?_
  refine TW.cond rfl (fun H13 => ?_) (fun H13 => ?_)
  ·refine TW.seq ?_
   refine TW.region ?_
   refine TO.y (Y.assign rfl) rfl rfl rfl ?_
   refine TO.nil ?_
   refine TE.next ?_
   refine TW.ret ?_
   refine TE.then_ret ?_
   exact TE.leaf fun _ _ hf_ hs_ => ret_any (rs := [.tmp 4]) (vs := [.int .i64 (-1 : Int)]) (.inl rfl) rfl ⟨rfl, trivial⟩ hf_ hs_ ⟨(), rfl, hs_.pulls [] rfl⟩
  refine TW.skip ?_
  refine TE.next ?_
  refine TW.seq ?_
  refine TW.region ?_
  refine TO.y (Y.move rfl) rfl rfl rfl ?_
  refine TO.y (Y.assign rfl) rfl rfl rfl ?_
  refine TO.nil ?_
  refine TE.next ?_
  refine TW.ret ?_
  exact TE.leaf fun _ _ hf_ hs_ => ret_any (rs := [.tmp 4]) (vs := [.int .i64 R10]) (.inl rfl) rfl ⟨rfl, trivial⟩ hf_ hs_ ⟨(), rfl, hs_.pulls [] rfl⟩

/-- loop.example/g00950/laws.toEnt -/
noncomputable def laws_toEnt (a : Ent) : Option Ent :=
  some a

theorem laws_toEnt_con (a : Ent)  (r : Ent) (hm : laws_toEnt a = some r) :
    Con Try.prog 44 [.agg #[strV a.Key, .int .i64 a.Seq, .bool a.Del, strV a.Val]] [] [] (fun _ : Unit => .agg #[strV r.Key, .int .i64 r.Seq, .bool r.Del, strV r.Val]) (fun _ => []) := by
  refine Con.intro (args := [.agg #[strV a.Key, .int .i64 a.Seq, .bool a.Del, strV a.Val]]) (n := 17) (val := fun r (_ : Unit) => .agg #[strV r.Key, .int .i64 r.Seq, .bool r.Del, strV r.Val]) (post := fun _ _ => []) (m := laws_toEnt a) Try.func44 rfl rfl rfl hm ?_
  intro w S _
  unfold laws_toEnt
  refine TW.seq ?_
  refine TW.region ?_
  refine TO.ef (Ef.box rfl (Cel.plain rfl rfl)) rfl rfl rfl (fun B1 => ?_)
  refine TO.ef (Ef.alloc kz48 rfl) rfl rfl rfl (fun B2 => ?_)
  refine TO.nil ?_
  refine TE.next ?_
  refine TW.seq ?_
  refine TW.region ?_
  refine TO.ef (Ef.alloc kz48 rfl) rfl rfl rfl (fun B3 => ?_)
  refine TO.nil ?_
  refine TE.next ?_
  refine TW.seq ?_
  refine TW.region ?_
  refine TO.y (Y.field_box kf68_0 rfl rfl) rfl rfl rfl ?_
  refine TO.y (Y.load_box (v := strV a.Key) 2 kk9 rfl rfl rfl) rfl rfl rfl ?_
  refine TO.y (Y.field_box kf48_0 rfl rfl) rfl rfl rfl ?_
  refine TO.ef0 (Ef.store_box (us := [strV a.Key]) (vs' := [strV a.Key, .int .i64 (0 : Int), .bool false, strV ([])]) (is' := [.box B3 48 [strV a.Key, .int .i64 (0 : Int), .bool false, strV ([])], .box B2 48 [strV ([]), .int .i64 (0 : Int), .bool false, strV ([])], .box B1 68 [strV a.Key, .int .i64 a.Seq, .bool a.Del, strV a.Val]]) 0 kk9 rfl rfl rfl (Cel.plain rfl rfl) rfl rfl rfl rfl) rfl rfl (fun _ => ?_)
  refine TO.nil ?_
  refine TE.next ?_
  refine TW.seq ?_
  refine TW.region ?_
  refine TO.y (Y.field_box kf68_1 rfl rfl) rfl rfl rfl ?_
  refine TO.y (Y.load_box (v := .int .i64 a.Seq) 2 kk3 rfl rfl rfl) rfl rfl rfl ?_
  refine TO.y (Y.field_box kf48_1 rfl rfl) rfl rfl rfl ?_
  refine TO.ef0 (Ef.store_box (us := [.int .i64 a.Seq]) (vs' := [strV a.Key, .int .i64 a.Seq, .bool false, strV ([])]) (is' := [.box B3 48 [strV a.Key, .int .i64 a.Seq, .bool false, strV ([])], .box B2 48 [strV ([]), .int .i64 (0 : Int), .bool false, strV ([])], .box B1 68 [strV a.Key, .int .i64 a.Seq, .bool a.Del, strV a.Val]]) 0 kk3 rfl rfl rfl (Cel.plain rfl rfl) rfl rfl rfl rfl) rfl rfl (fun _ => ?_)
  refine TO.nil ?_
  refine TE.next ?_
  refine TW.seq ?_
  refine TW.region ?_
  refine TO.y (Y.field_box kf68_2 rfl rfl) rfl rfl rfl ?_
  refine TO.y (Y.load_box (v := .bool a.Del) 2 kk4 rfl rfl rfl) rfl rfl rfl ?_
  refine TO.y (Y.field_box kf48_2 rfl rfl) rfl rfl rfl ?_
  refine TO.ef0 (Ef.store_box (us := [.bool a.Del]) (vs' := [strV a.Key, .int .i64 a.Seq, .bool a.Del, strV ([])]) (is' := [.box B3 48 [strV a.Key, .int .i64 a.Seq, .bool a.Del, strV ([])], .box B2 48 [strV ([]), .int .i64 (0 : Int), .bool false, strV ([])], .box B1 68 [strV a.Key, .int .i64 a.Seq, .bool a.Del, strV a.Val]]) 0 kk4 rfl rfl rfl (Cel.plain rfl rfl) rfl rfl rfl rfl) rfl rfl (fun _ => ?_)
  refine TO.nil ?_
  refine TE.next ?_
  refine TW.seq ?_
  refine TW.region ?_
  refine TO.y (Y.field_box kf68_3 rfl rfl) rfl rfl rfl ?_
  refine TO.y (Y.load_box (v := strV a.Val) 2 kk9 rfl rfl rfl) rfl rfl rfl ?_
  refine TO.y (Y.field_box kf48_3 rfl rfl) rfl rfl rfl ?_
  refine TO.ef0 (Ef.store_box (us := [strV a.Val]) (vs' := [strV a.Key, .int .i64 a.Seq, .bool a.Del, strV a.Val]) (is' := [.box B3 48 [strV a.Key, .int .i64 a.Seq, .bool a.Del, strV a.Val], .box B2 48 [strV ([]), .int .i64 (0 : Int), .bool false, strV ([])], .box B1 68 [strV a.Key, .int .i64 a.Seq, .bool a.Del, strV a.Val]]) 0 kk9 rfl rfl rfl (Cel.plain rfl rfl) rfl rfl rfl rfl) rfl rfl (fun _ => ?_)
  refine TO.nil ?_
  refine TE.next ?_
  refine TW.seq ?_
  refine TW.region ?_
  refine TO.y (Y.load_box (v := .agg #[strV a.Key, .int .i64 a.Seq, .bool a.Del, strV a.Val]) 0 kk48 rfl rfl rfl) rfl rfl rfl ?_
  refine TO.ef0 (Ef.store_box (us := [strV a.Key, .int .i64 a.Seq, .bool a.Del, strV a.Val]) (vs' := [strV a.Key, .int .i64 a.Seq, .bool a.Del, strV a.Val]) (is' := [.box B3 48 [strV a.Key, .int .i64 a.Seq, .bool a.Del, strV a.Val], .box B2 48 [strV a.Key, .int .i64 a.Seq, .bool a.Del, strV a.Val], .box B1 68 [strV a.Key, .int .i64 a.Seq, .bool a.Del, strV a.Val]]) 1 kk48 rfl rfl rfl (Cel.plain rfl rfl) rfl rfl rfl rfl) rfl rfl (fun _ => ?_)
  refine TO.nil ?_
  refine TE.next ?_
  refine TW.ret ?_
  exact TE.leaf fun _ _ hf_ hs_ => ret_any (rs := [.cell 2 48]) (vs := [.agg #[strV a.Key, .int .i64 a.Seq, .bool a.Del, strV a.Val]]) (.inl rfl) rfl (RV.cell 1 rfl rfl kk48 rfl trivial) hf_ hs_ ⟨(), rfl, hs_.pulls [] rfl⟩

/-- loop.example/g00950/laws.toEntS -/
noncomputable def laws_toEntS (a : List Ent) : Option (List Ent) :=
  (mkLen 48 ((a.length : Nat) : Int)).bind fun E2 =>
  bindC (loopO (fun (S4 : Int × List Ent) => if (decide (S4.1 < ((a.length : Nat) : Int))) = true then ((idx a S4.1).bind fun E9 =>
  (laws_toEnt E9).bind fun R11 =>
  (idx S4.2 S4.1).bind fun E14 =>
  some (.go (IntKind.i64.wrap (S4.1 + (1 : Int)), (S4.2.set S4.1.toNat R11))))
  else (some (.done (.go S4.2))))
  ((0 : Int), (List.replicate E2 ({ Key := [], Seq := (0 : Int), Del := false, Val := [] : Ent } : Ent))))
  (fun (T6 : List Ent) => some T6)

theorem laws_toEntS_con (a : List Ent) (V_a0 : Value) (r : List Ent) (hm : laws_toEntS a = some r) :
    Con Try.prog 22 [V_a0] [] [(V_a0, lc a)] (fun X : Value => X) (fun X => [.own X (lc r)]) := by
  refine Con.intro (args := [V_a0]) (n := 23) (val := fun _ (X : Value) => X) (post := fun r X => [.own X (lc r)]) (m := laws_toEntS a) Try.func22 rfl rfl rfl hm ?_
  intro w S hrd
  have HB_V_a0 := hrd _ (.head _)
  clear hrd
  unfold laws_toEntS
  refine TW.seq ?_
  refine TW.region ?_
  refine TO.y (Y.assign rfl) rfl rfl rfl ?_
  refine TO.nil ?_
  refine TE.next ?_
  refine TW.seq ?_
  refine TW.region ?_
  refine TO.y (Y.move rfl) rfl rfl rfl ?_
  refine TO.y (Y.len (l := a) ke22 (Base.can HB_V_a0) rfl) rfl rfl rfl ?_
  refine TO.bind fun E2 H3 => ?_
  refine TO.ef (Ef.make (α := Ent) (z := ({ Key := [], Seq := (0 : Int), Del := false, Val := [] : Ent } : Ent)) H3 ke30 kz48 rfl rfl rfl rfl) rfl rfl rfl (fun V1 => ?_)
  refine TO.y (Y.assign rfl) rfl rfl rfl ?_
  refine TO.nil ?_
  refine TE.next ?_
  refine TW.seq ?_
  refine TW.seq ?_
  refine TW.region ?_
  refine TO.y (Y.assign rfl) rfl rfl rfl ?_
  refine TO.nil ?_
  refine TE.next ?_
  refine TW.joinX (τ := List Ent) (X := Unit) (fun _ _ => [(3, V1)]) (fun T _ => [.own V1 (lc T)]) ?_ (fun T6 X7 => ?_)
  ·refine TW.block ?_
   refine TW.loopX (σ := Int × List Ent) (X := Unit) (fun T _ => [(0, V_a0), (3, V1), (4, .int .i64 T.1)]) (fun T _ => [.own V1 (lc T.2)]) () [0] ⟨rfl, rfl, rfl, trivial⟩ rfl (fun S4 X5 => ?_)
   refine TW.seq ?_
   refine TW.seq ?_
   refine TW.region ?_
   refine TO.y (Y.move rfl) rfl rfl rfl ?_
   refine TO.y (Y.move rfl) rfl rfl rfl ?_
   refine TO.y (Y.len (l := a) ke22 (Base.can HB_V_a0) rfl) rfl rfl rfl ?_
   refine TO.y (Y.lss rfl rfl) rfl rfl rfl ?_
   refine TO.nil ?_
   refine TE.next ?_
   refine TW.cond rfl (fun H8 => ?_) (fun H8 => ?_)
   ·refine TW.skip ?_
    refine TE.next ?_
    refine TW.seq ?_
    refine TW.block ?_
    refine TW.region ?_
    refine TO.y (Y.move rfl) rfl rfl rfl ?_
    refine TO.y (Y.move rfl) rfl rfl rfl ?_
    refine TO.y (Y.move rfl) rfl rfl rfl ?_
    refine TO.y (Y.move rfl) rfl rfl rfl ?_
    refine TO.bind fun E9 H10 => ?_
    refine TO.y (Y.index ke22 (Base.can HB_V_a0) H10 rfl rfl) rfl rfl rfl ?_
    refine TO.y (Y.load_el (us := [strV E9.Key, .int .i64 E9.Seq, .bool E9.Del, strV E9.Val]) (u := .agg #[strV E9.Key, .int .i64 E9.Seq, .bool E9.Del, strV E9.Val]) kk68 rfl (Base.can HB_V_a0) (idx_get H10).2.2 rfl rfl rfl rfl rfl) rfl rfl rfl ?_
    refine TO.bind fun R11 H12 => ?_
    refine TO.ef (Ef.call (rest := [.own V1 (lc S4.2)]) [0] (laws_toEnt_con E9  R11 H12) kc44 rfl rfl trivial) rfl rfl rfl (fun _ => ?_)
    refine TO.bind fun E14 H15 => ?_
    refine TO.y (Y.index ke30 (Can.own 0 rfl) H15 rfl rfl) rfl rfl rfl ?_
    refine TO.ef0 (Ef.store_el (us := [strV R11.Key, .int .i64 R11.Seq, .bool R11.Del, strV R11.Val]) (is' := [.own V1 (lc (S4.2.set S4.1.toNat R11))]) R11 0 kk48 rfl rfl (idx_get H15).2.2 rfl rfl (Cel.plain rfl rfl) rfl rfl rfl rfl) rfl rfl (fun _ => ?_)
    refine TO.nil ?_
    refine TE.block_normal ?_
    refine TE.next ?_
    refine TW.region ?_
    refine TO.y (Y.move rfl) rfl rfl rfl ?_
    refine TO.y (Y.add rfl rfl) rfl rfl rfl ?_
    refine TO.y (Y.assign rfl) rfl rfl rfl ?_
    refine TO.nil ?_
    exact TE.lp_go () [0] ⟨rfl, rfl, rfl, trivial⟩ rfl
   refine TW.exit ?_
   refine TE.then_exit ?_
   refine TE.lp_exit ?_
   refine TE.block_exit ?_
   exact TE.jn_go () [0] ⟨rfl, trivial⟩ rfl
  refine TE.next ?_
  refine TW.seq ?_
  refine TW.region ?_
  refine TO.y (Y.move rfl) rfl rfl rfl ?_
  refine TO.y (Y.assign rfl) rfl rfl rfl ?_
  refine TO.nil ?_
  refine TE.next ?_
  refine TW.ret ?_
  exact TE.leaf fun _ _ hf_ hs_ => ret_any (rs := [.tmp 2]) (vs := [V1]) (.inl rfl) rfl ⟨rfl, trivial⟩ hf_ hs_ ⟨V1, rfl, hs_.pulls [0] rfl⟩

/-- loop.example/g00950/laws.toEntSS -/
noncomputable def laws_toEntSS (a : List (List Ent)) : Option (List (List Ent)) :=
  (mkLen 24 ((a.length : Nat) : Int)).bind fun E2 =>
  bindC (loopO (fun (S4 : Int × List (List Ent)) => if (decide (S4.1 < ((a.length : Nat) : Int))) = true then ((idx a S4.1).bind fun E9 =>
  (laws_toEntS E9).bind fun R12 =>
  (idx S4.2 S4.1).bind fun E15 =>
  some (.go (IntKind.i64.wrap (S4.1 + (1 : Int)), (S4.2.set S4.1.toNat R12))))
  else (some (.done (.go S4.2))))
  ((0 : Int), (List.replicate E2 ([] : List Ent))))
  (fun (T6 : List (List Ent)) => some T6)

theorem laws_toEntSS_con (a : List (List Ent)) (V_a0 : Value) (r : List (List Ent)) (hm : laws_toEntSS a = some r) :
    Con Try.prog 23 [V_a0] [] [(V_a0, lc a)] (fun X : Value => X) (fun X => [.own X (lc r)]) := by
  refine Con.intro (args := [V_a0]) (n := 23) (val := fun _ (X : Value) => X) (post := fun r X => [.own X (lc r)]) (m := laws_toEntSS a) Try.func23 rfl rfl rfl hm ?_
  intro w S hrd
  have HB_V_a0 := hrd _ (.head _)
  clear hrd
  unfold laws_toEntSS
  refine TW.seq ?_
  refine TW.region ?_
  refine TO.y (Y.assign rfl) rfl rfl rfl ?_
  refine TO.nil ?_
  refine TE.next ?_
  refine TW.seq ?_
  refine TW.region ?_
  refine TO.y (Y.move rfl) rfl rfl rfl ?_
  refine TO.y (Y.len (l := a) ke23 (Base.can HB_V_a0) rfl) rfl rfl rfl ?_
  refine TO.bind fun E2 H3 => ?_
  refine TO.ef (Ef.makeN (α := List Ent) (z := ([] : List Ent)) (zs := [.slice none 0 0]) H3 ke31 kz30 rfl rfl rfl rfl rfl) rfl rfl rfl (fun V1 => ?_)
  refine TO.y (Y.assign rfl) rfl rfl rfl ?_
  refine TO.nil ?_
  refine TE.next ?_
  refine TW.seq ?_
  refine TW.seq ?_
  refine TW.region ?_
  refine TO.y (Y.assign rfl) rfl rfl rfl ?_
  refine TO.nil ?_
  refine TE.next ?_
  refine TW.joinX (τ := List (List Ent)) (X := Unit) (fun _ _ => [(3, V1)]) (fun T _ => [.own V1 (lc T)]) ?_ (fun T6 X7 => ?_)
  ·refine TW.block ?_
   refine TW.loopX (σ := Int × List (List Ent)) (X := Unit) (fun T _ => [(0, V_a0), (3, V1), (4, .int .i64 T.1)]) (fun T _ => [.own V1 (lc T.2)]) () [0] ⟨rfl, rfl, rfl, trivial⟩ rfl (fun S4 X5 => ?_)
   refine TW.seq ?_
   refine TW.seq ?_
   refine TW.region ?_
   refine TO.y (Y.move rfl) rfl rfl rfl ?_
   refine TO.y (Y.move rfl) rfl rfl rfl ?_
   refine TO.y (Y.len (l := a) ke23 (Base.can HB_V_a0) rfl) rfl rfl rfl ?_
   refine TO.y (Y.lss rfl rfl) rfl rfl rfl ?_
   refine TO.nil ?_
   refine TE.next ?_
   refine TW.cond rfl (fun H8 => ?_) (fun H8 => ?_)
   ·refine TW.skip ?_
    refine TE.next ?_
    refine TW.seq ?_
    refine TW.block ?_
    refine TW.region ?_
    refine TO.y (Y.move rfl) rfl rfl rfl ?_
    refine TO.y (Y.move rfl) rfl rfl rfl ?_
    refine TO.y (Y.move rfl) rfl rfl rfl ?_
    refine TO.y (Y.move rfl) rfl rfl rfl ?_
    refine TO.bind fun E9 H10 => ?_
    refine TO.y (Y.index ke23 (Base.can HB_V_a0) H10 rfl rfl) rfl rfl rfl ?_
    have Q11 : Base w S (elv w V_a0 (S4.1.toNat * 1 + 0)) (lc E9) := Base.el HB_V_a0 (idx_get H10).2.2 rfl rfl
    refine TO.y (Y.load_base (α := List Ent) (u := (elv w V_a0 (S4.1.toNat * 1 + 0))) kk22 rfl HB_V_a0 (idx_get H10).2.2 rfl rfl rfl rfl rfl) rfl rfl rfl ?_
    refine TO.bind fun R12 H13 => ?_
    refine TO.ef (Ef.call (rest := [.own V1 (lc S4.2)]) [0] (laws_toEntS_con E9 (elv w V_a0 (S4.1.toNat * 1 + 0)) R12 H13) kc22 rfl rfl ⟨(Base.can Q11), trivial⟩) rfl rfl rfl (fun Y14 => ?_)
    refine TO.bind fun E15 H16 => ?_
    refine TO.y (Y.index ke31 (Can.own 1 rfl) H16 rfl rfl) rfl rfl rfl ?_
    refine TO.ghost (X := Value) (is' := fun X17 => [.own V1 (hl S4.2 S4.1.toNat [.raw X17]), .own X17 (lc E15), .own Y14 (lc R12)]) (Gh.open 1 S4.1.toNat [1, 0] rfl (idx_get H16).2.2 rfl) (fun X17 => ?_)
    refine TO.ef0 (Ef.store_hole (α := List Ent) (us := [Y14]) (zs' := [.raw Y14]) (is' := [.own V1 (hl S4.2 S4.1.toNat [.raw Y14]), .own X17 (lc E15), .own Y14 (lc R12)]) 0 kk30 rfl rfl (idx_get H16).2.2 rfl rfl (Cel.one (One.can (Can.own 2 rfl))) rfl rfl rfl rfl rfl rfl) rfl rfl (fun _ => ?_)
    refine TO.nil ?_
    refine TE.block_normal ?_
    refine TE.next ?_
    refine TW.region ?_
    refine TO.y (Y.move rfl) rfl rfl rfl ?_
    refine TO.y (Y.add rfl rfl) rfl rfl rfl ?_
    refine TO.y (Y.assign rfl) rfl rfl rfl ?_
    refine TO.nil ?_
    refine TE.ghost (is' := fun _ => [.own V1 (lc (S4.2.set S4.1.toNat R12)), .own X17 (lc E15)]) (Gh.close (y := R12) (js := [.own Y14 (lc R12)]) (r := [.own X17 (lc E15)]) [0, 1, 0] rfl (idx_get H16).2.2 (Cls.fill Cls.nil) rfl) (fun _ => ?_)
    exact TE.lp_go () [0] ⟨rfl, rfl, rfl, trivial⟩ rfl
   refine TW.exit ?_
   refine TE.then_exit ?_
   refine TE.lp_exit ?_
   refine TE.block_exit ?_
   exact TE.jn_go () [0] ⟨rfl, trivial⟩ rfl
  refine TE.next ?_
  refine TW.seq ?_
  refine TW.region ?_
  refine TO.y (Y.move rfl) rfl rfl rfl ?_
  refine TO.y (Y.assign rfl) rfl rfl rfl ?_
  refine TO.nil ?_
  refine TE.next ?_
  refine TW.ret ?_
  exact TE.leaf fun _ _ hf_ hs_ => ret_any (rs := [.tmp 2]) (vs := [V1]) (.inl rfl) rfl ⟨rfl, trivial⟩ hf_ hs_ ⟨V1, rfl, hs_.pulls [0] rfl⟩

/-- loop.example/g00950/laws.toIntS -/
noncomputable def laws_toIntS (a : List Int) : Option (List Int) :=
  (mkLen 8 ((a.length : Nat) : Int)).bind fun E2 =>
  bindC (loopO (fun (S4 : Int × List Int) => if (decide (S4.1 < ((a.length : Nat) : Int))) = true then ((idx a S4.1).bind fun E9 =>
  (idx S4.2 S4.1).bind fun E11 =>
  some (.go (IntKind.i64.wrap (S4.1 + (1 : Int)), (S4.2.set S4.1.toNat E9))))
  else (some (.done (.go S4.2))))
  ((0 : Int), (List.replicate E2 (0 : Int))))
  (fun (T6 : List Int) => some T6)

theorem laws_toIntS_con (a : List Int) (V_a0 : Value) (r : List Int) (hm : laws_toIntS a = some r) :
    Con Try.prog 24 [V_a0] [] [(V_a0, lc a)] (fun X : Value => X) (fun X => [.own X (lc r)]) := by
  refine Con.intro (args := [V_a0]) (n := 22) (val := fun _ (X : Value) => X) (post := fun r X => [.own X (lc r)]) (m := laws_toIntS a) Try.func24 rfl rfl rfl hm ?_
  intro w S hrd
  have HB_V_a0 := hrd _ (.head _)
  clear hrd
  unfold laws_toIntS
  refine TW.seq ?_
  refine TW.region ?_
  refine TO.y (Y.assign rfl) rfl rfl rfl ?_
  refine TO.nil ?_
  refine TE.next ?_
  refine TW.seq ?_
  refine TW.region ?_
  refine TO.y (Y.move rfl) rfl rfl rfl ?_
  refine TO.y (Y.len (l := a) ke24 (Base.can HB_V_a0) rfl) rfl rfl rfl ?_
  refine TO.bind fun E2 H3 => ?_
  refine TO.ef (Ef.make (α := Int) (z := (0 : Int)) H3 ke24 kz3 rfl rfl rfl rfl) rfl rfl rfl (fun V1 => ?_)
  refine TO.y (Y.assign rfl) rfl rfl rfl ?_
  refine TO.nil ?_
  refine TE.next ?_
  refine TW.seq ?_
  refine TW.seq ?_
  refine TW.region ?_
  refine TO.y (Y.assign rfl) rfl rfl rfl ?_
  refine TO.nil ?_
  refine TE.next ?_
  refine TW.joinX (τ := List Int) (X := Unit) (fun _ _ => [(3, V1)]) (fun T _ => [.own V1 (lc T)]) ?_ (fun T6 X7 => ?_)
  ·refine TW.block ?_
   refine TW.loopX (σ := Int × List Int) (X := Unit) (fun T _ => [(0, V_a0), (3, V1), (4, .int .i64 T.1)]) (fun T _ => [.own V1 (lc T.2)]) () [0] ⟨rfl, rfl, rfl, trivial⟩ rfl (fun S4 X5 => ?_)
   refine TW.seq ?_
   refine TW.seq ?_
   refine TW.region ?_
   refine TO.y (Y.move rfl) rfl rfl rfl ?_
   refine TO.y (Y.move rfl) rfl rfl rfl ?_
   refine TO.y (Y.len (l := a) ke24 (Base.can HB_V_a0) rfl) rfl rfl rfl ?_
   refine TO.y (Y.lss rfl rfl) rfl rfl rfl ?_
   refine TO.nil ?_
   refine TE.next ?_
   refine TW.cond rfl (fun H8 => ?_) (fun H8 => ?_)
   ·refine TW.skip ?_
    refine TE.next ?_
    refine TW.seq ?_
    refine TW.block ?_
    refine TW.region ?_
    refine TO.y (Y.move rfl) rfl rfl rfl ?_
    refine TO.y (Y.move rfl) rfl rfl rfl ?_
    refine TO.y (Y.move rfl) rfl rfl rfl ?_
    refine TO.y (Y.move rfl) rfl rfl rfl ?_
    refine TO.bind fun E9 H10 => ?_
    refine TO.y (Y.index ke24 (Base.can HB_V_a0) H10 rfl rfl) rfl rfl rfl ?_
    refine TO.y (Y.load_el (us := [.int .i64 E9]) (u := .int .i64 E9) kk3 rfl (Base.can HB_V_a0) (idx_get H10).2.2 rfl rfl rfl rfl rfl) rfl rfl rfl ?_
    refine TO.bind fun E11 H12 => ?_
    refine TO.y (Y.index ke24 (Can.own 0 rfl) H12 rfl rfl) rfl rfl rfl ?_
    refine TO.ef0 (Ef.store_el (us := [.int .i64 E9]) (is' := [.own V1 (lc (S4.2.set S4.1.toNat E9))]) E9 0 kk3 rfl rfl (idx_get H12).2.2 rfl rfl (Cel.plain rfl rfl) rfl rfl rfl rfl) rfl rfl (fun _ => ?_)
    refine TO.nil ?_
    refine TE.block_normal ?_
    refine TE.next ?_
    refine TW.region ?_
    refine TO.y (Y.move rfl) rfl rfl rfl ?_
    refine TO.y (Y.add rfl rfl) rfl rfl rfl ?_
    refine TO.y (Y.assign rfl) rfl rfl rfl ?_
    refine TO.nil ?_
    exact TE.lp_go () [0] ⟨rfl, rfl, rfl, trivial⟩ rfl
   refine TW.exit ?_
   refine TE.then_exit ?_
   refine TE.lp_exit ?_
   refine TE.block_exit ?_
   exact TE.jn_go () [0] ⟨rfl, trivial⟩ rfl
  refine TE.next ?_
  refine TW.seq ?_
  refine TW.region ?_
  refine TO.y (Y.move rfl) rfl rfl rfl ?_
  refine TO.y (Y.assign rfl) rfl rfl rfl ?_
  refine TO.nil ?_
  refine TE.next ?_
  refine TW.ret ?_
  exact TE.leaf fun _ _ hf_ hs_ => ret_any (rs := [.tmp 2]) (vs := [V1]) (.inl rfl) rfl ⟨rfl, trivial⟩ hf_ hs_ ⟨V1, rfl, hs_.pulls [0] rfl⟩

/-- loop.example/g00950/laws.toEng -/
noncomputable def laws_toEng (a : Eng) : Option Eng :=
  (laws_toEntS a.Mem).bind fun R4 =>
  (laws_toEntSS a.Tables).bind fun R7 =>
  (laws_toIntS a.Snaps).bind fun R10 =>
  some ({ Mem := R4, Tables := R7, Seq := a.Seq, Snaps := R10 : Eng })

theorem laws_toEng_con (a : Eng) (V_a0 : Value) (V_a1 : Value) (V_a3 : Value) (r : Eng) (hm : laws_toEng a = some r) :
    Con Try.prog 7 [.agg #[V_a0, V_a1, .int .i64 a.Seq, V_a3]] [] [(V_a0, lc a.Mem), (V_a1, lc a.Tables), (V_a3, lc a.Snaps)] (fun X : Value × Value × Value => .agg #[X.1, X.2.1, .int .i64 r.Seq, X.2.2]) (fun X => [.own X.1 (lc r.Mem), .own X.2.1 (lc r.Tables), .own X.2.2 (lc r.Snaps)]) := by
  refine Con.intro (args := [.agg #[V_a0, V_a1, .int .i64 a.Seq, V_a3]]) (n := 20) (val := fun r (X : Value × Value × Value) => .agg #[X.1, X.2.1, .int .i64 r.Seq, X.2.2]) (post := fun r X => [.own X.1 (lc r.Mem), .own X.2.1 (lc r.Tables), .own X.2.2 (lc r.Snaps)]) (m := laws_toEng a) Try.func7 rfl rfl rfl hm ?_
  intro w S hrd
  have HB_V_a0 := hrd _ (.head _)
  have HB_V_a1 := hrd _ (.tail _ (.head _))
  have HB_V_a3 := hrd _ (.tail _ (.tail _ (.head _)))
  clear hrd
  unfold laws_toEng
  refine TW.seq ?_
  refine TW.region ?_
  refine TO.ef (Ef.box rfl (Cel.agg ⟨(One.can (Base.can HB_V_a0)), (One.can (Base.can HB_V_a1)), (One.plain rfl), (One.can (Base.can HB_V_a3)), trivial⟩)) rfl rfl rfl (fun B1 => ?_)
  refine TO.ef (Ef.alloc kz33 rfl) rfl rfl rfl (fun B2 => ?_)
  refine TO.nil ?_
  refine TE.next ?_
  refine TW.seq ?_
  refine TW.region ?_
  refine TO.ef (Ef.alloc kz33 rfl) rfl rfl rfl (fun B3 => ?_)
  refine TO.nil ?_
  refine TE.next ?_
  refine TW.seq ?_
  refine TW.region ?_
  refine TO.y (Y.field_box kf26_0 rfl rfl) rfl rfl rfl ?_
  refine TO.y (Y.load_box (v := V_a0) 2 kk22 rfl rfl rfl) rfl rfl rfl ?_
  refine TO.bind fun R4 H5 => ?_
  refine TO.ef (Ef.call (rest := [.box B3 33 [.slice none 0 0, .slice none 0 0, .int .i64 (0 : Int), .slice none 0 0], .box B2 33 [.slice none 0 0, .slice none 0 0, .int .i64 (0 : Int), .slice none 0 0], .box B1 26 [V_a0, V_a1, .int .i64 a.Seq, V_a3]]) [0, 0, 0] (laws_toEntS_con a.Mem V_a0 R4 H5) kc22 rfl rfl ⟨(Base.can HB_V_a0), trivial⟩) rfl rfl rfl (fun Y6 => ?_)
  refine TO.y (Y.field_box kf33_0 rfl rfl) rfl rfl rfl ?_
  refine TO.ef0 (Ef.store_box (us := [Y6]) (vs' := [Y6, .slice none 0 0, .int .i64 (0 : Int), .slice none 0 0]) (is' := [.own Y6 (lc R4), .box B3 33 [Y6, .slice none 0 0, .int .i64 (0 : Int), .slice none 0 0], .box B2 33 [.slice none 0 0, .slice none 0 0, .int .i64 (0 : Int), .slice none 0 0], .box B1 26 [V_a0, V_a1, .int .i64 a.Seq, V_a3]]) 1 kk30 rfl rfl rfl (Cel.one (One.can (Can.own 0 rfl))) rfl rfl rfl rfl) rfl rfl (fun _ => ?_)
  refine TO.nil ?_
  refine TE.next ?_
  refine TW.seq ?_
  refine TW.region ?_
  refine TO.y (Y.field_box kf26_1 rfl rfl) rfl rfl rfl ?_
  refine TO.y (Y.load_box (v := V_a1) 3 kk23 rfl rfl rfl) rfl rfl rfl ?_
  refine TO.bind fun R7 H8 => ?_
  refine TO.ef (Ef.call (rest := [.own Y6 (lc R4), .box B3 33 [Y6, .slice none 0 0, .int .i64 (0 : Int), .slice none 0 0], .box B2 33 [.slice none 0 0, .slice none 0 0, .int .i64 (0 : Int), .slice none 0 0], .box B1 26 [V_a0, V_a1, .int .i64 a.Seq, V_a3]]) [0, 0, 0, 0] (laws_toEntSS_con a.Tables V_a1 R7 H8) kc23 rfl rfl ⟨(Base.can HB_V_a1), trivial⟩) rfl rfl rfl (fun Y9 => ?_)
  refine TO.y (Y.field_box kf33_1 rfl rfl) rfl rfl rfl ?_
  refine TO.ef0 (Ef.store_box (us := [Y9]) (vs' := [Y6, Y9, .int .i64 (0 : Int), .slice none 0 0]) (is' := [.own Y9 (lc R7), .own Y6 (lc R4), .box B3 33 [Y6, Y9, .int .i64 (0 : Int), .slice none 0 0], .box B2 33 [.slice none 0 0, .slice none 0 0, .int .i64 (0 : Int), .slice none 0 0], .box B1 26 [V_a0, V_a1, .int .i64 a.Seq, V_a3]]) 2 kk31 rfl rfl rfl (Cel.one (One.can (Can.own 0 rfl))) rfl rfl rfl rfl) rfl rfl (fun _ => ?_)
  refine TO.nil ?_
  refine TE.next ?_
  refine TW.seq ?_
  refine TW.region ?_
  refine TO.y (Y.field_box kf26_2 rfl rfl) rfl rfl rfl ?_
  refine TO.y (Y.load_box (v := .int .i64 a.Seq) 4 kk3 rfl rfl rfl) rfl rfl rfl ?_
  refine TO.y (Y.field_box kf33_2 rfl rfl) rfl rfl rfl ?_
  refine TO.ef0 (Ef.store_box (us := [.int .i64 a.Seq]) (vs' := [Y6, Y9, .int .i64 a.Seq, .slice none 0 0]) (is' := [.own Y9 (lc R7), .own Y6 (lc R4), .box B3 33 [Y6, Y9, .int .i64 a.Seq, .slice none 0 0], .box B2 33 [.slice none 0 0, .slice none 0 0, .int .i64 (0 : Int), .slice none 0 0], .box B1 26 [V_a0, V_a1, .int .i64 a.Seq, V_a3]]) 2 kk3 rfl rfl rfl (Cel.plain rfl rfl) rfl rfl rfl rfl) rfl rfl (fun _ => ?_)
  refine TO.nil ?_
  refine TE.next ?_
  refine TW.seq ?_
  refine TW.region ?_
  refine TO.y (Y.field_box kf26_3 rfl rfl) rfl rfl rfl ?_
  refine TO.y (Y.load_box (v := V_a3) 4 kk24 rfl rfl rfl) rfl rfl rfl ?_
  refine TO.bind fun R10 H11 => ?_
  refine TO.ef (Ef.call (rest := [.own Y9 (lc R7), .own Y6 (lc R4), .box B3 33 [Y6, Y9, .int .i64 a.Seq, .slice none 0 0], .box B2 33 [.slice none 0 0, .slice none 0 0, .int .i64 (0 : Int), .slice none 0 0], .box B1 26 [V_a0, V_a1, .int .i64 a.Seq, V_a3]]) [0, 0, 0, 0, 0] (laws_toIntS_con a.Snaps V_a3 R10 H11) kc24 rfl rfl ⟨(Base.can HB_V_a3), trivial⟩) rfl rfl rfl (fun Y12 => ?_)
  refine TO.y (Y.field_box kf33_3 rfl rfl) rfl rfl rfl ?_
  refine TO.ef0 (Ef.store_box (us := [Y12]) (vs' := [Y6, Y9, .int .i64 a.Seq, Y12]) (is' := [.own Y12 (lc R10), .own Y9 (lc R7), .own Y6 (lc R4), .box B3 33 [Y6, Y9, .int .i64 a.Seq, Y12], .box B2 33 [.slice none 0 0, .slice none 0 0, .int .i64 (0 : Int), .slice none 0 0], .box B1 26 [V_a0, V_a1, .int .i64 a.Seq, V_a3]]) 3 kk24 rfl rfl rfl (Cel.one (One.can (Can.own 0 rfl))) rfl rfl rfl rfl) rfl rfl (fun _ => ?_)
  refine TO.nil ?_
  refine TE.next ?_
  refine TW.seq ?_
  refine TW.region ?_
  refine TO.y (Y.load_box (v := .agg #[Y6, Y9, .int .i64 a.Seq, Y12]) 3 kk33 rfl rfl rfl) rfl rfl rfl ?_
  refine TO.ef0 (Ef.store_box (us := [Y6, Y9, .int .i64 a.Seq, Y12]) (vs' := [Y6, Y9, .int .i64 a.Seq, Y12]) (is' := [.own Y12 (lc R10), .own Y9 (lc R7), .own Y6 (lc R4), .box B3 33 [Y6, Y9, .int .i64 a.Seq, Y12], .box B2 33 [Y6, Y9, .int .i64 a.Seq, Y12], .box B1 26 [V_a0, V_a1, .int .i64 a.Seq, V_a3]]) 4 kk33 rfl rfl rfl (Cel.agg ⟨(One.can (Can.own 2 rfl)), (One.can (Can.own 1 rfl)), (One.plain rfl), (One.can (Can.own 0 rfl)), trivial⟩) rfl rfl rfl rfl) rfl rfl (fun _ => ?_)
  refine TO.nil ?_
  refine TE.next ?_
  refine TW.ret ?_
  exact TE.leaf fun _ _ hf_ hs_ => ret_any (rs := [.cell 2 33]) (vs := [.agg #[Y6, Y9, .int .i64 a.Seq, Y12]]) (.inl rfl) rfl (RV.cell 4 rfl rfl kk33 rfl trivial) hf_ hs_ ⟨(Y6, Y9, Y12), rfl, hs_.pulls [2, 1, 0] rfl⟩

/-- loop.example/g00950/spec.l1In -/
noncomputable def spec_l1In (x : Int) (low : Int) (high : Int) : Option Bool :=
  (if (decide (x ≥ low)) = true then (some (decide (x ≤ high)))
  else (some false)).bind (fun (T1 : Bool) =>
  some T1)

theorem spec_l1In_con (x : Int) (low : Int) (high : Int)  (r : Bool) (hm : spec_l1In x low high = some r) :
    Con Try.prog 40 [.int .i64 x, .int .i64 low, .int .i64 high] [] [] (fun _ : Unit => .bool r) (fun _ => []) := by
  refine Con.intro (args := [.int .i64 x, .int .i64 low, .int .i64 high]) (n := 15) (val := fun r (_ : Unit) => .bool r) (post := fun _ _ => []) (m := spec_l1In x low high) Try.func40 rfl rfl rfl hm ?_
  intro w S _
  unfold spec_l1In
  refine TW.seq ?_
  refine TW.region ?_
  refine TO.y (Y.assign rfl) rfl rfl rfl ?_
  refine TO.nil ?_
  refine TE.next ?_
  refine TW.seq ?_
  refine TW.joinBX (τ := Bool) (X := Unit) (fun T _ => [(6, .bool T)]) (fun _ _ => []) ?_ (fun T1 X2 => ?_)
  ·refine TW.region ?_
   refine TO.y (Y.move rfl) rfl rfl rfl ?_
   refine TO.y (Y.move rfl) rfl rfl rfl ?_
   refine TO.y (Y.geq rfl rfl) rfl rfl rfl ?_
   refine TO.y (Y.move rfl) rfl rfl rfl ?_
   refine TO.ite (b := decide (x ≥ low)) (fun H3 => ?_) (fun H3 => ?_)
   ·refine TO.y (Y.move rfl) (Gd.at 3 true 10 (decide (x ≥ low)) rfl rfl rfl (beq_tt H3)) rfl rfl ?_
    refine TO.y (Y.move rfl) (Gd.at 3 true 10 (decide (x ≥ low)) rfl rfl rfl (beq_tt H3)) rfl rfl ?_
    refine TO.y (Y.leq rfl rfl) (Gd.at 3 true 10 (decide (x ≥ low)) rfl rfl rfl (beq_tt H3)) rfl rfl ?_
    refine TO.y (Y.pick_t H3 rfl rfl) rfl rfl rfl ?_
    refine TO.y (Y.assign rfl) rfl rfl rfl ?_
    refine TO.nil ?_
    exact TE.jb_go () [] ⟨rfl, trivial⟩ rfl
   refine TO.off (Gd.at 3 true 10 (decide (x ≥ low)) rfl rfl rfl (beq_ft H3)) rfl rfl ?_
   refine TO.off (Gd.at 3 true 10 (decide (x ≥ low)) rfl rfl rfl (beq_ft H3)) rfl rfl ?_
   refine TO.off (Gd.at 3 true 10 (decide (x ≥ low)) rfl rfl rfl (beq_ft H3)) rfl rfl ?_
   refine TO.y (Y.pick_f H3 rfl rfl) rfl rfl rfl ?_
   refine TO.y (Y.assign rfl) rfl rfl rfl ?_
   refine TO.nil ?_
   exact TE.jb_go () [] ⟨rfl, trivial⟩ rfl
  refine TE.next ?_
  refine TW.ret ?_
  exact TE.leaf fun _ _ hf_ hs_ => ret_any (rs := [.tmp 6]) (vs := [.bool T1]) (.inl rfl) rfl ⟨rfl, trivial⟩ hf_ hs_ ⟨(), rfl, hs_.pulls [] rfl⟩

/-- loop.example/g00950/spec.l7Op -/
noncomputable def spec_l7Op (o : Op) : Option Bool :=
  ((spec_l1In ((o.Key.length : Nat) : Int) (1 : Int) (10 : Int)).bind fun R4 =>
  if R4 = true then (if (decide (((o.Val.length : Nat) : Int) ≤ (16 : Int))) = true then (if (!o.Del) = true then (some true)
  else (some (decide (o.Val = ([])))))
  else (some false))
  else (some false)).bind (fun (T2 : Bool) =>
  some T2)

theorem spec_l7Op_con (o : Op)  (r : Bool) (hm : spec_l7Op o = some r) :
    Con Try.prog 63 [.agg #[strV o.Key, .bool o.Del, strV o.Val]] [] [] (fun _ : Unit => .bool r) (fun _ => []) := by
  refine Con.intro (args := [.agg #[strV o.Key, .bool o.Del, strV o.Val]]) (n := 23) (val := fun r (_ : Unit) => .bool r) (post := fun _ _ => []) (m := spec_l7Op o) Try.func63 rfl rfl rfl hm ?_
  intro w S _
  unfold spec_l7Op
  refine TW.seq ?_
  refine TW.region ?_
  refine TO.ef (Ef.box rfl (Cel.plain rfl rfl)) rfl rfl rfl (fun B1 => ?_)
  refine TO.y (Y.assign rfl) rfl rfl rfl ?_
  refine TO.nil ?_
  refine TE.next ?_
  refine TW.seq ?_
  refine TW.joinBX (τ := Bool) (X := Unit) (fun T _ => [(2, .bool T)]) (fun _ _ => []) ?_ (fun T2 X3 => ?_)
  ·refine TW.region ?_
   refine TO.y (Y.field_box kf88_0 rfl rfl) rfl rfl rfl ?_
   refine TO.y (Y.load_box (v := strV o.Key) 0 kk9 rfl rfl rfl) rfl rfl rfl ?_
   refine TO.y (Y.slen ks9 rfl) rfl rfl rfl ?_
   refine TO.bind fun R4 H5 => ?_
   refine TO.ef (Ef.call (rest := [.box B1 88 [strV o.Key, .bool o.Del, strV o.Val]]) [0] (spec_l1In_con ((o.Key.length : Nat) : Int) (1 : Int) (10 : Int)  R4 H5) kc40 rfl rfl trivial) rfl rfl rfl (fun _ => ?_)
   refine TO.y (Y.move rfl) rfl rfl rfl ?_
   refine TO.ite (b := R4) (fun H7 => ?_) (fun H7 => ?_)
   ·refine TO.y (Y.field_box kf88_2 rfl rfl) (Gd.at 4 true 7 R4 rfl rfl rfl (beq_tt H7)) rfl rfl ?_
    refine TO.y (Y.load_box (v := strV o.Val) 0 kk9 rfl rfl rfl) (Gd.at 4 true 7 R4 rfl rfl rfl (beq_tt H7)) rfl rfl ?_
    refine TO.y (Y.slen ks9 rfl) (Gd.at 4 true 7 R4 rfl rfl rfl (beq_tt H7)) rfl rfl ?_
    refine TO.y (Y.leq rfl rfl) (Gd.at 4 true 7 R4 rfl rfl rfl (beq_tt H7)) rfl rfl ?_
    refine TO.y (Y.pick_t H7 rfl rfl) rfl rfl rfl ?_
    refine TO.y (Y.move rfl) rfl rfl rfl ?_
    refine TO.ite (b := decide (((o.Val.length : Nat) : Int) ≤ (16 : Int))) (fun H8 => ?_) (fun H8 => ?_)
    ·refine TO.y (Y.field_box kf88_1 rfl rfl) (Gd.at 10 true 13 (decide (((o.Val.length : Nat) : Int) ≤ (16 : Int))) rfl rfl rfl (beq_tt H8)) rfl rfl ?_
     refine TO.y (Y.load_box (v := .bool o.Del) 0 kk4 rfl rfl rfl) (Gd.at 10 true 13 (decide (((o.Val.length : Nat) : Int) ≤ (16 : Int))) rfl rfl rfl (beq_tt H8)) rfl rfl ?_
     refine TO.y (Y.not rfl) (Gd.at 10 true 13 (decide (((o.Val.length : Nat) : Int) ≤ (16 : Int))) rfl rfl rfl (beq_tt H8)) rfl rfl ?_
     refine TO.y (Y.move rfl) (Gd.at 10 true 13 (decide (((o.Val.length : Nat) : Int) ≤ (16 : Int))) rfl rfl rfl (beq_tt H8)) rfl rfl ?_
     refine TO.ite (b := !o.Del) (fun H9 => ?_) (fun H9 => ?_)
     ·refine TO.off (Gd.at 14 false 17 (!o.Del) rfl rfl rfl (beq_tf H9)) rfl rfl ?_
      refine TO.off (Gd.at 14 false 17 (!o.Del) rfl rfl rfl (beq_tf H9)) rfl rfl ?_
      refine TO.off (Gd.at 14 false 17 (!o.Del) rfl rfl rfl (beq_tf H9)) rfl rfl ?_
      refine TO.y (Y.pick_t H9 rfl rfl) (Gd.at 10 true 13 (decide (((o.Val.length : Nat) : Int) ≤ (16 : Int))) rfl rfl rfl (beq_tt H8)) rfl rfl ?_
      refine TO.y (Y.pick_t H8 rfl rfl) rfl rfl rfl ?_
      refine TO.y (Y.assign rfl) rfl rfl rfl ?_
      refine TO.nil ?_
      exact TE.jb_go () [] ⟨rfl, trivial⟩ rfl
     refine TO.y (Y.field_box kf88_2 rfl rfl) (Gd.at 14 false 17 (!o.Del) rfl rfl rfl (beq_ff H9)) rfl rfl ?_
     refine TO.y (Y.load_box (v := strV o.Val) 0 kk9 rfl rfl rfl) (Gd.at 14 false 17 (!o.Del) rfl rfl rfl (beq_ff H9)) rfl rfl ?_
     refine TO.y (Y.seql rfl rfl) (Gd.at 14 false 17 (!o.Del) rfl rfl rfl (beq_ff H9)) rfl rfl ?_
     refine TO.y (Y.pick_f H9 rfl rfl) (Gd.at 10 true 13 (decide (((o.Val.length : Nat) : Int) ≤ (16 : Int))) rfl rfl rfl (beq_tt H8)) rfl rfl ?_
     refine TO.y (Y.pick_t H8 rfl rfl) rfl rfl rfl ?_
     refine TO.y (Y.assign rfl) rfl rfl rfl ?_
     refine TO.nil ?_
     exact TE.jb_go () [] ⟨rfl, trivial⟩ rfl
    refine TO.off (Gd.at 10 true 13 (decide (((o.Val.length : Nat) : Int) ≤ (16 : Int))) rfl rfl rfl (beq_ft H8)) rfl rfl ?_
    refine TO.off (Gd.at 10 true 13 (decide (((o.Val.length : Nat) : Int) ≤ (16 : Int))) rfl rfl rfl (beq_ft H8)) rfl rfl ?_
    refine TO.off (Gd.at 10 true 13 (decide (((o.Val.length : Nat) : Int) ≤ (16 : Int))) rfl rfl rfl (beq_ft H8)) rfl rfl ?_
    refine TO.off (Gd.at 10 true 13 (decide (((o.Val.length : Nat) : Int) ≤ (16 : Int))) rfl rfl rfl (beq_ft H8)) rfl rfl ?_
    refine TO.off (Gd.un 14 false 17 rfl rfl rfl) rfl rfl ?_
    refine TO.off (Gd.un 14 false 17 rfl rfl rfl) rfl rfl ?_
    refine TO.off (Gd.un 14 false 17 rfl rfl rfl) rfl rfl ?_
    refine TO.off (Gd.at 10 true 13 (decide (((o.Val.length : Nat) : Int) ≤ (16 : Int))) rfl rfl rfl (beq_ft H8)) rfl rfl ?_
    refine TO.y (Y.pick_f H8 rfl rfl) rfl rfl rfl ?_
    refine TO.y (Y.assign rfl) rfl rfl rfl ?_
    refine TO.nil ?_
    exact TE.jb_go () [] ⟨rfl, trivial⟩ rfl
   refine TO.off (Gd.at 4 true 7 R4 rfl rfl rfl (beq_ft H7)) rfl rfl ?_
   refine TO.off (Gd.at 4 true 7 R4 rfl rfl rfl (beq_ft H7)) rfl rfl ?_
   refine TO.off (Gd.at 4 true 7 R4 rfl rfl rfl (beq_ft H7)) rfl rfl ?_
   refine TO.off (Gd.at 4 true 7 R4 rfl rfl rfl (beq_ft H7)) rfl rfl ?_
   refine TO.y (Y.pick_f H7 rfl rfl) rfl rfl rfl ?_
   refine TO.y (Y.move rfl) rfl rfl rfl ?_
   refine TO.off (Gd.at 10 true 13 false rfl rfl rfl rfl) rfl rfl ?_
   refine TO.off (Gd.at 10 true 13 false rfl rfl rfl rfl) rfl rfl ?_
   refine TO.off (Gd.at 10 true 13 false rfl rfl rfl rfl) rfl rfl ?_
   refine TO.off (Gd.at 10 true 13 false rfl rfl rfl rfl) rfl rfl ?_
   refine TO.off (Gd.un 14 false 17 rfl rfl rfl) rfl rfl ?_
   refine TO.off (Gd.un 14 false 17 rfl rfl rfl) rfl rfl ?_
   refine TO.off (Gd.un 14 false 17 rfl rfl rfl) rfl rfl ?_
   refine TO.off (Gd.at 10 true 13 false rfl rfl rfl rfl) rfl rfl ?_
   refine TO.y (Y.pick_f rfl rfl rfl) rfl rfl rfl ?_
   refine TO.y (Y.assign rfl) rfl rfl rfl ?_
   refine TO.nil ?_
   exact TE.jb_go () [] ⟨rfl, trivial⟩ rfl
  refine TE.next ?_
  refine TW.ret ?_
  exact TE.leaf fun _ _ hf_ hs_ => ret_any (rs := [.tmp 2]) (vs := [.bool T2]) (.inl rfl) rfl ⟨rfl, trivial⟩ hf_ hs_ ⟨(), rfl, hs_.pulls [] rfl⟩

/-- loop.example/g00950/spec.l9Ent -/
noncomputable def spec_l9Ent (e : Ent) : Option Bool :=
  ((spec_l7Op ({ Key := e.Key, Del := e.Del, Val := e.Val : Op })).bind fun R4 =>
  if R4 = true then ((spec_l1In e.Seq (0 : Int) (1000000 : Int)).bind fun R8 =>
  some R8)
  else (some false)).bind (fun (T2 : Bool) =>
  some T2)

theorem spec_l9Ent_con (e : Ent)  (r : Bool) (hm : spec_l9Ent e = some r) :
    Con Try.prog 51 [.agg #[strV e.Key, .int .i64 e.Seq, .bool e.Del, strV e.Val]] [] [] (fun _ : Unit => .bool r) (fun _ => []) := by
  refine Con.intro (args := [.agg #[strV e.Key, .int .i64 e.Seq, .bool e.Del, strV e.Val]]) (n := 16) (val := fun r (_ : Unit) => .bool r) (post := fun _ _ => []) (m := spec_l9Ent e) Try.func51 rfl rfl rfl hm ?_
  intro w S _
  unfold spec_l9Ent
  refine TW.seq ?_
  refine TW.region ?_
  refine TO.ef (Ef.box rfl (Cel.plain rfl rfl)) rfl rfl rfl (fun B1 => ?_)
  refine TO.y (Y.assign rfl) rfl rfl rfl ?_
  refine TO.nil ?_
  refine TE.next ?_
  refine TW.seq ?_
  refine TW.joinBX (τ := Bool) (X := Unit) (fun T _ => [(2, .bool T)]) (fun _ _ => []) ?_ (fun T2 X3 => ?_)
  ·refine TW.region ?_
   refine TO.y (Y.field_box kf48_0 rfl rfl) rfl rfl rfl ?_
   refine TO.y (Y.load_box (v := strV e.Key) 0 kk9 rfl rfl rfl) rfl rfl rfl ?_
   refine TO.y (Y.field_box kf48_2 rfl rfl) rfl rfl rfl ?_
   refine TO.y (Y.load_box (v := .bool e.Del) 0 kk4 rfl rfl rfl) rfl rfl rfl ?_
   refine TO.y (Y.field_box kf48_3 rfl rfl) rfl rfl rfl ?_
   refine TO.y (Y.load_box (v := strV e.Val) 0 kk9 rfl rfl rfl) rfl rfl rfl ?_
   refine TO.y (Y.build (cells := [strV e.Key, .bool e.Del, strV e.Val]) [(0, [strV e.Key]), (1, [.bool e.Del]), (2, [strV e.Val])] kp88 kz88 ⟨rfl, ⟨_, rfl, (Cel.plain rfl rfl)⟩, ⟨rfl, ⟨_, rfl, (Cel.plain rfl rfl)⟩, ⟨rfl, ⟨_, rfl, (Cel.plain rfl rfl)⟩, trivial⟩⟩⟩ rfl) rfl rfl rfl ?_
   refine TO.bind fun R4 H5 => ?_
   refine TO.ef (Ef.call (rest := [.box B1 48 [strV e.Key, .int .i64 e.Seq, .bool e.Del, strV e.Val]]) [0] (spec_l7Op_con ({ Key := e.Key, Del := e.Del, Val := e.Val : Op })  R4 H5) kc63 rfl rfl trivial) rfl rfl rfl (fun _ => ?_)
   refine TO.y (Y.move rfl) rfl rfl rfl ?_
   refine TO.ite (b := R4) (fun H7 => ?_) (fun H7 => ?_)
   ·refine TO.y (Y.field_box kf48_1 rfl rfl) (Gd.at 8 true 11 R4 rfl rfl rfl (beq_tt H7)) rfl rfl ?_
    refine TO.y (Y.load_box (v := .int .i64 e.Seq) 0 kk3 rfl rfl rfl) (Gd.at 8 true 11 R4 rfl rfl rfl (beq_tt H7)) rfl rfl ?_
    refine TO.bind fun R8 H9 => ?_
    refine TO.ef (Ef.call (rest := [.box B1 48 [strV e.Key, .int .i64 e.Seq, .bool e.Del, strV e.Val]]) [0] (spec_l1In_con e.Seq (0 : Int) (1000000 : Int)  R8 H9) kc40 rfl rfl trivial) (Gd.at 8 true 11 R4 rfl rfl rfl (beq_tt H7)) rfl rfl (fun _ => ?_)
    refine TO.y (Y.pick_t H7 rfl rfl) rfl rfl rfl ?_
    refine TO.y (Y.assign rfl) rfl rfl rfl ?_
    refine TO.nil ?_
    exact TE.jb_go () [] ⟨rfl, trivial⟩ rfl
   refine TO.off (Gd.at 8 true 11 R4 rfl rfl rfl (beq_ft H7)) rfl rfl ?_
   refine TO.off (Gd.at 8 true 11 R4 rfl rfl rfl (beq_ft H7)) rfl rfl ?_
   refine TO.off (Gd.at 8 true 11 R4 rfl rfl rfl (beq_ft H7)) rfl rfl ?_
   refine TO.y (Y.pick_f H7 rfl rfl) rfl rfl rfl ?_
   refine TO.y (Y.assign rfl) rfl rfl rfl ?_
   refine TO.nil ?_
   exact TE.jb_go () [] ⟨rfl, trivial⟩ rfl
  refine TE.next ?_
  refine TW.ret ?_
  exact TE.leaf fun _ _ hf_ hs_ => ret_any (rs := [.tmp 2]) (vs := [.bool T2]) (.inl rfl) rfl ⟨rfl, trivial⟩ hf_ hs_ ⟨(), rfl, hs_.pulls [] rfl⟩

/-- loop.example/g00950/spec.l9Ahead -/
noncomputable def spec_l9Ahead (a : Ent) (b : Ent) : Option Bool :=
  (if (sLt a.Key b.Key) = true then (some true)
  else (if (decide (a.Key = b.Key)) = true then (some (decide (a.Seq > b.Seq)))
  else (some false))).bind (fun (T3 : Bool) =>
  some T3)

theorem spec_l9Ahead_con (a : Ent) (b : Ent)  (r : Bool) (hm : spec_l9Ahead a b = some r) :
    Con Try.prog 52 [.agg #[strV a.Key, .int .i64 a.Seq, .bool a.Del, strV a.Val], .agg #[strV b.Key, .int .i64 b.Seq, .bool b.Del, strV b.Val]] [] [] (fun _ : Unit => .bool r) (fun _ => []) := by
  refine Con.intro (args := [.agg #[strV a.Key, .int .i64 a.Seq, .bool a.Del, strV a.Val], .agg #[strV b.Key, .int .i64 b.Seq, .bool b.Del, strV b.Val]]) (n := 24) (val := fun r (_ : Unit) => .bool r) (post := fun _ _ => []) (m := spec_l9Ahead a b) Try.func52 rfl rfl rfl hm ?_
  intro w S _
  unfold spec_l9Ahead
  refine TW.seq ?_
  refine TW.region ?_
  refine TO.ef (Ef.box rfl (Cel.plain rfl rfl)) rfl rfl rfl (fun B1 => ?_)
  refine TO.ef (Ef.box rfl (Cel.plain rfl rfl)) rfl rfl rfl (fun B2 => ?_)
  refine TO.y (Y.assign rfl) rfl rfl rfl ?_
  refine TO.nil ?_
  refine TE.next ?_
  refine TW.seq ?_
  refine TW.joinBX (τ := Bool) (X := Unit) (fun T _ => [(4, .bool T)]) (fun _ _ => []) ?_ (fun T3 X4 => ?_)
  ·refine TW.region ?_
   refine TO.y (Y.field_box kf48_0 rfl rfl) rfl rfl rfl ?_
   refine TO.y (Y.load_box (v := strV a.Key) 1 kk9 rfl rfl rfl) rfl rfl rfl ?_
   refine TO.y (Y.field_box kf48_0 rfl rfl) rfl rfl rfl ?_
   refine TO.y (Y.load_box (v := strV b.Key) 0 kk9 rfl rfl rfl) rfl rfl rfl ?_
   refine TO.y (Y.slss rfl rfl) rfl rfl rfl ?_
   refine TO.y (Y.move rfl) rfl rfl rfl ?_
   refine TO.ite (b := sLt a.Key b.Key) (fun H5 => ?_) (fun H5 => ?_)
   ·refine TO.off (Gd.at 5 false 10 (sLt a.Key b.Key) rfl rfl rfl (beq_tf H5)) rfl rfl ?_
    refine TO.off (Gd.at 5 false 10 (sLt a.Key b.Key) rfl rfl rfl (beq_tf H5)) rfl rfl ?_
    refine TO.off (Gd.at 5 false 10 (sLt a.Key b.Key) rfl rfl rfl (beq_tf H5)) rfl rfl ?_
    refine TO.off (Gd.at 5 false 10 (sLt a.Key b.Key) rfl rfl rfl (beq_tf H5)) rfl rfl ?_
    refine TO.off (Gd.at 5 false 10 (sLt a.Key b.Key) rfl rfl rfl (beq_tf H5)) rfl rfl ?_
    refine TO.off (Gd.at 5 false 10 (sLt a.Key b.Key) rfl rfl rfl (beq_tf H5)) rfl rfl ?_
    refine TO.off (Gd.un 11 true 16 rfl rfl rfl) rfl rfl ?_
    refine TO.off (Gd.un 11 true 16 rfl rfl rfl) rfl rfl ?_
    refine TO.off (Gd.un 11 true 16 rfl rfl rfl) rfl rfl ?_
    refine TO.off (Gd.un 11 true 16 rfl rfl rfl) rfl rfl ?_
    refine TO.off (Gd.un 11 true 16 rfl rfl rfl) rfl rfl ?_
    refine TO.off (Gd.at 5 false 10 (sLt a.Key b.Key) rfl rfl rfl (beq_tf H5)) rfl rfl ?_
    refine TO.y (Y.pick_t H5 rfl rfl) rfl rfl rfl ?_
    refine TO.y (Y.assign rfl) rfl rfl rfl ?_
    refine TO.nil ?_
    exact TE.jb_go () [] ⟨rfl, trivial⟩ rfl
   refine TO.y (Y.field_box kf48_0 rfl rfl) (Gd.at 5 false 10 (sLt a.Key b.Key) rfl rfl rfl (beq_ff H5)) rfl rfl ?_
   refine TO.y (Y.load_box (v := strV a.Key) 1 kk9 rfl rfl rfl) (Gd.at 5 false 10 (sLt a.Key b.Key) rfl rfl rfl (beq_ff H5)) rfl rfl ?_
   refine TO.y (Y.field_box kf48_0 rfl rfl) (Gd.at 5 false 10 (sLt a.Key b.Key) rfl rfl rfl (beq_ff H5)) rfl rfl ?_
   refine TO.y (Y.load_box (v := strV b.Key) 0 kk9 rfl rfl rfl) (Gd.at 5 false 10 (sLt a.Key b.Key) rfl rfl rfl (beq_ff H5)) rfl rfl ?_
   refine TO.y (Y.seql rfl rfl) (Gd.at 5 false 10 (sLt a.Key b.Key) rfl rfl rfl (beq_ff H5)) rfl rfl ?_
   refine TO.y (Y.move rfl) (Gd.at 5 false 10 (sLt a.Key b.Key) rfl rfl rfl (beq_ff H5)) rfl rfl ?_
   refine TO.ite (b := decide (a.Key = b.Key)) (fun H6 => ?_) (fun H6 => ?_)
   ·refine TO.y (Y.field_box kf48_1 rfl rfl) (Gd.at 11 true 16 (decide (a.Key = b.Key)) rfl rfl rfl (beq_tt H6)) rfl rfl ?_
    refine TO.y (Y.load_box (v := .int .i64 a.Seq) 1 kk3 rfl rfl rfl) (Gd.at 11 true 16 (decide (a.Key = b.Key)) rfl rfl rfl (beq_tt H6)) rfl rfl ?_
    refine TO.y (Y.field_box kf48_1 rfl rfl) (Gd.at 11 true 16 (decide (a.Key = b.Key)) rfl rfl rfl (beq_tt H6)) rfl rfl ?_
    refine TO.y (Y.load_box (v := .int .i64 b.Seq) 0 kk3 rfl rfl rfl) (Gd.at 11 true 16 (decide (a.Key = b.Key)) rfl rfl rfl (beq_tt H6)) rfl rfl ?_
    refine TO.y (Y.gtr rfl rfl) (Gd.at 11 true 16 (decide (a.Key = b.Key)) rfl rfl rfl (beq_tt H6)) rfl rfl ?_
    refine TO.y (Y.pick_t H6 rfl rfl) (Gd.at 5 false 10 (sLt a.Key b.Key) rfl rfl rfl (beq_ff H5)) rfl rfl ?_
    refine TO.y (Y.pick_f H5 rfl rfl) rfl rfl rfl ?_
    refine TO.y (Y.assign rfl) rfl rfl rfl ?_
    refine TO.nil ?_
    exact TE.jb_go () [] ⟨rfl, trivial⟩ rfl
   refine TO.off (Gd.at 11 true 16 (decide (a.Key = b.Key)) rfl rfl rfl (beq_ft H6)) rfl rfl ?_
   refine TO.off (Gd.at 11 true 16 (decide (a.Key = b.Key)) rfl rfl rfl (beq_ft H6)) rfl rfl ?_
   refine TO.off (Gd.at 11 true 16 (decide (a.Key = b.Key)) rfl rfl rfl (beq_ft H6)) rfl rfl ?_
   refine TO.off (Gd.at 11 true 16 (decide (a.Key = b.Key)) rfl rfl rfl (beq_ft H6)) rfl rfl ?_
   refine TO.off (Gd.at 11 true 16 (decide (a.Key = b.Key)) rfl rfl rfl (beq_ft H6)) rfl rfl ?_
   refine TO.y (Y.pick_f H6 rfl rfl) (Gd.at 5 false 10 (sLt a.Key b.Key) rfl rfl rfl (beq_ff H5)) rfl rfl ?_
   refine TO.y (Y.pick_f H5 rfl rfl) rfl rfl rfl ?_
   refine TO.y (Y.assign rfl) rfl rfl rfl ?_
   refine TO.nil ?_
   exact TE.jb_go () [] ⟨rfl, trivial⟩ rfl
  refine TE.next ?_
  refine TW.ret ?_
  exact TE.leaf fun _ _ hf_ hs_ => ret_any (rs := [.tmp 4]) (vs := [.bool T3]) (.inl rfl) rfl ⟨rfl, trivial⟩ hf_ hs_ ⟨(), rfl, hs_.pulls [] rfl⟩

/-- loop.example/g00950/spec.l9Ents -/
noncomputable def spec_l9Ents (l : List Ent) : Option Bool :=
  bindC (loopO (fun (S1 : Int) => if (decide (S1 < ((l.length : Nat) : Int))) = true then (((idx l S1).bind fun E8 =>
  (spec_l9Ent E8).bind fun R10 =>
  if (!R10) = true then (some true)
  else (if (decide (S1 > (0 : Int))) = true then ((idx l (IntKind.i64.wrap (S1 - (1 : Int)))).bind fun E15 =>
  (spec_l9Ahead E15 E8).bind fun R17 =>
  some (!R17))
  else (some false))).bind (fun (T6 : Bool) =>
  if T6 = true then (some (.done (.done false)))
  else (some (.go (IntKind.i64.wrap (S1 + (1 : Int)))))))
  else (some (.done (.go ()))))
  (0 : Int))
  (fun (T3 : Unit) => some true)

theorem spec_l9Ents_con (l : List Ent) (V_l0 : Value) (r : Bool) (hm : spec_l9Ents l = some r) :
    Con Try.prog 42 [V_l0] [] [(V_l0, lc l)] (fun _ : Unit => .bool r) (fun _ => []) := by
  refine Con.intro (args := [V_l0]) (n := 33) (val := fun r (_ : Unit) => .bool r) (post := fun _ _ => []) (m := spec_l9Ents l) Try.func42 rfl rfl rfl hm ?_
  intro w S hrd
  have HB_V_l0 := hrd _ (.head _)
  clear hrd
  unfold spec_l9Ents
  refine TW.seq ?_
  refine TW.region ?_
  refine TO.y (Y.assign rfl) rfl rfl rfl ?_
  refine TO.nil ?_
  refine TE.next ?_
  refine TW.seq ?_
  refine TW.seq ?_
  refine TW.region ?_
  refine TO.y (Y.assign rfl) rfl rfl rfl ?_
  refine TO.nil ?_
  refine TE.next ?_
  refine TW.joinX (τ := Unit) (X := Unit) (fun _ _ => []) (fun _ _ => []) ?_ (fun T3 X4 => ?_)
  ·refine TW.block ?_
   refine TW.loopX (σ := Int) (X := Unit) (fun T _ => [(0, V_l0), (3, .int .i64 T)]) (fun _ _ => []) () [] ⟨rfl, rfl, trivial⟩ rfl (fun S1 X2 => ?_)
   refine TW.seq ?_
   refine TW.seq ?_
   refine TW.region ?_
   refine TO.y (Y.move rfl) rfl rfl rfl ?_
   refine TO.y (Y.move rfl) rfl rfl rfl ?_
   refine TO.y (Y.len (l := l) ke30 (Base.can HB_V_l0) rfl) rfl rfl rfl ?_
   refine TO.y (Y.lss rfl rfl) rfl rfl rfl ?_
   refine TO.nil ?_
   refine TE.next ?_
   refine TW.cond rfl (fun H5 => ?_) (fun H5 => ?_)
   ·refine TW.skip ?_
    refine TE.next ?_
    refine TW.seq ?_
    refine TW.block ?_
    refine TW.seq ?_
    refine TW.joinBX (τ := Bool) (X := Unit) (fun T _ => [(0, V_l0), (3, .int .i64 S1), (32, .bool T)]) (fun _ _ => []) ?_ (fun T6 X7 => ?_)
    ·refine TW.draw (isH := []) hMix ?_
     refine TA.y 0 [] rfl (Y.move rfl) rfl rfl rfl (by kernel_rfl) rfl ?_
     refine TA.y 1 [] rfl (Y.move rfl) rfl rfl rfl (by kernel_rfl) rfl ?_
     refine TA.bind fun E8 H9 => ?_
     refine TA.y 2 [] rfl (Y.index ke30 (Base.can HB_V_l0) H9 rfl rfl) rfl rfl rfl (by kernel_rfl) rfl ?_
     refine TA.y 3 [] rfl (Y.load_el (us := [strV E8.Key, .int .i64 E8.Seq, .bool E8.Del, strV E8.Val]) (u := .agg #[strV E8.Key, .int .i64 E8.Seq, .bool E8.Del, strV E8.Val]) kk48 rfl (Base.can HB_V_l0) (idx_get H9).2.2 rfl rfl rfl rfl rfl) rfl rfl rfl (by kernel_rfl) rfl ?_
     refine TA.bind fun R10 H11 => ?_
     refine TA.one 4 (by kernel_rfl) ?_
     refine TX.ef [] rfl (Ef.call (rest := []) [] (spec_l9Ent_con E8  R10 H11) kc51 rfl rfl trivial) rfl rfl rfl (fun _ => rfl) (fun _ => ?_)
     refine TA.y 5 [] rfl (Y.not rfl) rfl rfl rfl (by kernel_rfl) rfl ?_
     refine TA.y 6 [] rfl (Y.move rfl) rfl rfl rfl (by kernel_rfl) rfl ?_
     refine TA.ite (b := !R10) (fun H13 => ?_) (fun H13 => ?_)
     ·refine TA.off 7 [] rfl (Gd.at 6 false 16 (!R10) rfl rfl rfl (beq_tf H13)) rfl rfl (by kernel_rfl) rfl ?_
      refine TA.off 8 [] rfl (Gd.at 6 false 16 (!R10) rfl rfl rfl (beq_tf H13)) rfl rfl (by kernel_rfl) rfl ?_
      refine TA.off 9 [] rfl (Gd.at 6 false 16 (!R10) rfl rfl rfl (beq_tf H13)) rfl rfl (by kernel_rfl) rfl ?_
      refine TA.off 10 [] rfl (Gd.un 9 true 19 rfl rfl rfl) rfl rfl (by kernel_rfl) rfl ?_
      refine TA.off 11 [] rfl (Gd.un 9 true 19 rfl rfl rfl) rfl rfl (by kernel_rfl) rfl ?_
      refine TA.off 12 [] rfl (Gd.un 9 true 19 rfl rfl rfl) rfl rfl (by kernel_rfl) rfl ?_
      refine TA.off 13 [] rfl (Gd.un 9 true 19 rfl rfl rfl) rfl rfl (by kernel_rfl) rfl ?_
      refine TA.off 14 [] rfl (Gd.un 9 true 19 rfl rfl rfl) rfl rfl (by kernel_rfl) rfl ?_
      refine TA.off 15 [] rfl (Gd.un 9 true 19 rfl rfl rfl) rfl rfl (by kernel_rfl) rfl ?_
      refine TA.off 16 [] rfl (Gd.un 9 true 19 rfl rfl rfl) rfl rfl (by kernel_rfl) rfl ?_
      refine TA.off 17 [] rfl (Gd.un 9 true 19 rfl rfl rfl) rfl rfl (by kernel_rfl) rfl ?_
      refine TA.off 18 [] rfl (Gd.un 9 true 19 rfl rfl rfl) rfl rfl (by kernel_rfl) rfl ?_
      refine TA.off 19 [] rfl (Gd.un 9 true 19 rfl rfl rfl) rfl rfl (by kernel_rfl) rfl ?_
      refine TA.off 20 [] rfl (Gd.un 9 true 19 rfl rfl rfl) rfl rfl (by kernel_rfl) rfl ?_
      refine TA.off 21 [] rfl (Gd.at 6 false 16 (!R10) rfl rfl rfl (beq_tf H13)) rfl rfl (by kernel_rfl) rfl ?_
      refine TA.y 22 [] rfl (Y.pick_t H13 rfl rfl) rfl rfl rfl (by kernel_rfl) rfl ?_
      refine TA.nil (by kernel_rfl) ?_
      exact TE.jb_go () [] ⟨rfl, rfl, rfl, trivial⟩ rfl
     refine TA.y 7 [] rfl (Y.move rfl) (Gd.at 6 false 16 (!R10) rfl rfl rfl (beq_ff H13)) rfl rfl (by kernel_rfl) rfl ?_
     refine TA.y 8 [] rfl (Y.gtr rfl rfl) (Gd.at 6 false 16 (!R10) rfl rfl rfl (beq_ff H13)) rfl rfl (by kernel_rfl) rfl ?_
     refine TA.y 9 [] rfl (Y.move rfl) (Gd.at 6 false 16 (!R10) rfl rfl rfl (beq_ff H13)) rfl rfl (by kernel_rfl) rfl ?_
     refine TA.ite (b := decide (S1 > (0 : Int))) (fun H14 => ?_) (fun H14 => ?_)
     ·refine TA.y 10 [] rfl (Y.move rfl) (Gd.at 9 true 19 (decide (S1 > (0 : Int))) rfl rfl rfl (beq_tt H14)) rfl rfl (by kernel_rfl) rfl ?_
      refine TA.y 11 [] rfl (Y.move rfl) (Gd.at 9 true 19 (decide (S1 > (0 : Int))) rfl rfl rfl (beq_tt H14)) rfl rfl (by kernel_rfl) rfl ?_
      refine TA.y 12 [] rfl (Y.sub rfl rfl) (Gd.at 9 true 19 (decide (S1 > (0 : Int))) rfl rfl rfl (beq_tt H14)) rfl rfl (by kernel_rfl) rfl ?_
      refine TA.bind fun E15 H16 => ?_
      refine TA.y 13 [] rfl (Y.index ke30 (Base.can HB_V_l0) H16 rfl rfl) (Gd.at 9 true 19 (decide (S1 > (0 : Int))) rfl rfl rfl (beq_tt H14)) rfl rfl (by kernel_rfl) rfl ?_
      refine TA.y 14 [] rfl (Y.load_el (us := [strV E15.Key, .int .i64 E15.Seq, .bool E15.Del, strV E15.Val]) (u := .agg #[strV E15.Key, .int .i64 E15.Seq, .bool E15.Del, strV E15.Val]) kk48 rfl (Base.can HB_V_l0) (idx_get H16).2.2 rfl rfl rfl rfl rfl) (Gd.at 9 true 19 (decide (S1 > (0 : Int))) rfl rfl rfl (beq_tt H14)) rfl rfl (by kernel_rfl) rfl ?_
      refine TA.y 15 [] rfl (Y.move rfl) (Gd.at 9 true 19 (decide (S1 > (0 : Int))) rfl rfl rfl (beq_tt H14)) rfl rfl (by kernel_rfl) rfl ?_
      refine TA.y 16 [] rfl (Y.move rfl) (Gd.at 9 true 19 (decide (S1 > (0 : Int))) rfl rfl rfl (beq_tt H14)) rfl rfl (by kernel_rfl) rfl ?_
      refine TA.y 17 [] rfl (Y.index ke30 (Base.can HB_V_l0) H9 rfl rfl) (Gd.at 9 true 19 (decide (S1 > (0 : Int))) rfl rfl rfl (beq_tt H14)) rfl rfl (by kernel_rfl) rfl ?_
      refine TA.y 18 [] rfl (Y.load_el (us := [strV E8.Key, .int .i64 E8.Seq, .bool E8.Del, strV E8.Val]) (u := .agg #[strV E8.Key, .int .i64 E8.Seq, .bool E8.Del, strV E8.Val]) kk48 rfl (Base.can HB_V_l0) (idx_get H9).2.2 rfl rfl rfl rfl rfl) (Gd.at 9 true 19 (decide (S1 > (0 : Int))) rfl rfl rfl (beq_tt H14)) rfl rfl (by kernel_rfl) rfl ?_
      refine TA.bind fun R17 H18 => ?_
      refine TA.one 19 (by kernel_rfl) ?_
      refine TX.ef [] rfl (Ef.call (rest := []) [] (spec_l9Ahead_con E15 E8  R17 H18) kc52 rfl rfl trivial) (Gd.at 9 true 19 (decide (S1 > (0 : Int))) rfl rfl rfl (beq_tt H14)) rfl rfl (fun _ => rfl) (fun _ => ?_)
      refine TA.y 20 [] rfl (Y.not rfl) (Gd.at 9 true 19 (decide (S1 > (0 : Int))) rfl rfl rfl (beq_tt H14)) rfl rfl (by kernel_rfl) rfl ?_
      refine TA.y 21 [] rfl (Y.pick_t H14 rfl rfl) (Gd.at 6 false 16 (!R10) rfl rfl rfl (beq_ff H13)) rfl rfl (by kernel_rfl) rfl ?_
      refine TA.y 22 [] rfl (Y.pick_f H13 rfl rfl) rfl rfl rfl (by kernel_rfl) rfl ?_
      refine TA.nil (by kernel_rfl) ?_
      exact TE.jb_go () [] ⟨rfl, rfl, rfl, trivial⟩ rfl
     refine TA.off 10 [] rfl (Gd.at 9 true 19 (decide (S1 > (0 : Int))) rfl rfl rfl (beq_ft H14)) rfl rfl (by kernel_rfl) rfl ?_
     refine TA.off 11 [] rfl (Gd.at 9 true 19 (decide (S1 > (0 : Int))) rfl rfl rfl (beq_ft H14)) rfl rfl (by kernel_rfl) rfl ?_
     refine TA.off 12 [] rfl (Gd.at 9 true 19 (decide (S1 > (0 : Int))) rfl rfl rfl (beq_ft H14)) rfl rfl (by kernel_rfl) rfl ?_
     refine TA.off 13 [] rfl (Gd.at 9 true 19 (decide (S1 > (0 : Int))) rfl rfl rfl (beq_ft H14)) rfl rfl (by kernel_rfl) rfl ?_
     refine TA.off 14 [] rfl (Gd.at 9 true 19 (decide (S1 > (0 : Int))) rfl rfl rfl (beq_ft H14)) rfl rfl (by kernel_rfl) rfl ?_
     refine TA.off 15 [] rfl (Gd.at 9 true 19 (decide (S1 > (0 : Int))) rfl rfl rfl (beq_ft H14)) rfl rfl (by kernel_rfl) rfl ?_
     refine TA.off 16 [] rfl (Gd.at 9 true 19 (decide (S1 > (0 : Int))) rfl rfl rfl (beq_ft H14)) rfl rfl (by kernel_rfl) rfl ?_
     refine TA.off 17 [] rfl (Gd.at 9 true 19 (decide (S1 > (0 : Int))) rfl rfl rfl (beq_ft H14)) rfl rfl (by kernel_rfl) rfl ?_
     refine TA.off 18 [] rfl (Gd.at 9 true 19 (decide (S1 > (0 : Int))) rfl rfl rfl (beq_ft H14)) rfl rfl (by kernel_rfl) rfl ?_
     refine TA.off 19 [] rfl (Gd.at 9 true 19 (decide (S1 > (0 : Int))) rfl rfl rfl (beq_ft H14)) rfl rfl (by kernel_rfl) rfl ?_
     refine TA.off 20 [] rfl (Gd.at 9 true 19 (decide (S1 > (0 : Int))) rfl rfl rfl (beq_ft H14)) rfl rfl (by kernel_rfl) rfl ?_
     refine TA.y 21 [] rfl (Y.pick_f H14 rfl rfl) (Gd.at 6 false 16 (!R10) rfl rfl rfl (beq_ff H13)) rfl rfl (by kernel_rfl) rfl ?_
     refine TA.y 22 [] rfl (Y.pick_f H13 rfl rfl) rfl rfl rfl (by kernel_rfl) rfl ?_
     refine TA.nil (by kernel_rfl) ?_
     exact TE.jb_go () [] ⟨rfl, rfl, rfl, trivial⟩ rfl
    refine TE.next ?_
    refine TW.cond rfl (fun H20 => ?_) (fun H20 => ?_)
    ·refine TW.seq ?_
     refine TW.region ?_
     refine TO.y (Y.assign rfl) rfl rfl rfl ?_
     refine TO.nil ?_
     refine TE.next ?_
     refine TW.ret ?_
     refine TE.block_ret ?_
     refine TE.then_ret ?_
     refine TE.lp_ret ?_
     refine TE.block_ret ?_
     refine TE.jn_done ?_
     refine TE.then_ret ?_
     exact TE.leaf fun _ _ hf_ hs_ => ret_any (rs := [.tmp 2]) (vs := [.bool false]) (.inl rfl) rfl ⟨rfl, trivial⟩ hf_ hs_ ⟨(), rfl, hs_.pulls [] rfl⟩
    refine TW.skip ?_
    refine TE.block_normal ?_
    refine TE.next ?_
    refine TW.region ?_
    refine TO.y (Y.move rfl) rfl rfl rfl ?_
    refine TO.y (Y.add rfl rfl) rfl rfl rfl ?_
    refine TO.y (Y.assign rfl) rfl rfl rfl ?_
    refine TO.nil ?_
    exact TE.lp_go () [] ⟨rfl, rfl, trivial⟩ rfl
   refine TW.exit ?_
   refine TE.then_exit ?_
   refine TE.lp_exit ?_
   refine TE.block_exit ?_
   exact TE.jn_go () [] trivial rfl
  refine TE.next ?_
  refine TW.seq ?_
  refine TW.region ?_
  refine TO.y (Y.assign rfl) rfl rfl rfl ?_
  refine TO.nil ?_
  refine TE.next ?_
  refine TW.ret ?_
  exact TE.leaf fun _ _ hf_ hs_ => ret_any (rs := [.tmp 2]) (vs := [.bool true]) (.inl rfl) rfl ⟨rfl, trivial⟩ hf_ hs_ ⟨(), rfl, hs_.pulls [] rfl⟩

/-- loop.example/g00950/spec.MemOk -/
noncomputable def spec_MemOk (l : List Ent) : Option Bool :=
  (if (decide (((l.length : Nat) : Int) ≤ (60 : Int))) = true then ((spec_l9Ents l).bind fun R4 =>
  some R4)
  else (some false)).bind (fun (T1 : Bool) =>
  some T1)

theorem spec_MemOk_con (l : List Ent) (V_l0 : Value) (r : Bool) (hm : spec_MemOk l = some r) :
    Con Try.prog 39 [V_l0] [] [(V_l0, lc l)] (fun _ : Unit => .bool r) (fun _ => []) := by
  refine Con.intro (args := [V_l0]) (n := 10) (val := fun r (_ : Unit) => .bool r) (post := fun _ _ => []) (m := spec_MemOk l) Try.func39 rfl rfl rfl hm ?_
  intro w S hrd
  have HB_V_l0 := hrd _ (.head _)
  clear hrd
  unfold spec_MemOk
  refine TW.seq ?_
  refine TW.region ?_
  refine TO.y (Y.assign rfl) rfl rfl rfl ?_
  refine TO.nil ?_
  refine TE.next ?_
  refine TW.seq ?_
  refine TW.joinBX (τ := Bool) (X := Unit) (fun T _ => [(2, .bool T)]) (fun _ _ => []) ?_ (fun T1 X2 => ?_)
  ·refine TW.region ?_
   refine TO.y (Y.move rfl) rfl rfl rfl ?_
   refine TO.y (Y.len (l := l) ke30 (Base.can HB_V_l0) rfl) rfl rfl rfl ?_
   refine TO.y (Y.leq rfl rfl) rfl rfl rfl ?_
   refine TO.y (Y.move rfl) rfl rfl rfl ?_
   refine TO.ite (b := decide (((l.length : Nat) : Int) ≤ (60 : Int))) (fun H3 => ?_) (fun H3 => ?_)
   ·refine TO.y (Y.move rfl) (Gd.at 3 true 6 (decide (((l.length : Nat) : Int) ≤ (60 : Int))) rfl rfl rfl (beq_tt H3)) rfl rfl ?_
    refine TO.bind fun R4 H5 => ?_
    refine TO.ef (Ef.call (rest := []) [] (spec_l9Ents_con l V_l0 R4 H5) kc42 rfl rfl ⟨(Base.can HB_V_l0), trivial⟩) (Gd.at 3 true 6 (decide (((l.length : Nat) : Int) ≤ (60 : Int))) rfl rfl rfl (beq_tt H3)) rfl rfl (fun _ => ?_)
    refine TO.y (Y.pick_t H3 rfl rfl) rfl rfl rfl ?_
    refine TO.y (Y.assign rfl) rfl rfl rfl ?_
    refine TO.nil ?_
    exact TE.jb_go () [] ⟨rfl, trivial⟩ rfl
   refine TO.off (Gd.at 3 true 6 (decide (((l.length : Nat) : Int) ≤ (60 : Int))) rfl rfl rfl (beq_ft H3)) rfl rfl ?_
   refine TO.off (Gd.at 3 true 6 (decide (((l.length : Nat) : Int) ≤ (60 : Int))) rfl rfl rfl (beq_ft H3)) rfl rfl ?_
   refine TO.y (Y.pick_f H3 rfl rfl) rfl rfl rfl ?_
   refine TO.y (Y.assign rfl) rfl rfl rfl ?_
   refine TO.nil ?_
   exact TE.jb_go () [] ⟨rfl, trivial⟩ rfl
  refine TE.next ?_
  refine TW.ret ?_
  exact TE.leaf fun _ _ hf_ hs_ => ret_any (rs := [.tmp 2]) (vs := [.bool T1]) (.inl rfl) rfl ⟨rfl, trivial⟩ hf_ hs_ ⟨(), rfl, hs_.pulls [] rfl⟩

/-- loop.example/g00950/spec.l20Bounds -/
noncomputable def spec_l20Bounds (l : List Ent) : Option (Int × Int) :=
  bindC (loopO (fun (S1 : Int × Int × Int) => if (decide (S1.2.2 < ((l.length : Nat) : Int))) = true then ((idx l S1.2.2).bind fun E6 =>
  bindC (if (decide (E6.Seq < S1.1)) = true then (some (.go E6.Seq))
  else (some (.go S1.1)))
  (fun (T8 : Int) => bindC (if (decide (E6.Seq > S1.2.1)) = true then (some (.go E6.Seq))
  else (some (.go S1.2.1)))
  (fun (T11 : Int) => some (.go (T8, T11, IntKind.i64.wrap (S1.2.2 + (1 : Int)))))))
  else (some (.done (.go (S1.1, S1.2.1)))))
  ((1000001 : Int), (-1 : Int), (0 : Int)))
  (fun (T3 : Int × Int) => some (T3.1, T3.2))

theorem spec_l20Bounds_con (l : List Ent) (V_l0 : Value) (r : Int × Int) (hm : spec_l20Bounds l = some r) :
    Con Try.prog 41 [V_l0] [] [(V_l0, lc l)] (fun _ : Unit => .tuple #[.int .i64 r.1, .int .i64 r.2]) (fun _ => []) := by
  refine Con.intro (args := [V_l0]) (n := 39) (val := fun r (_ : Unit) => .tuple #[.int .i64 r.1, .int .i64 r.2]) (post := fun _ _ => []) (m := spec_l20Bounds l) Try.func41 rfl rfl rfl hm ?_
  intro w S hrd
  have HB_V_l0 := hrd _ (.head _)
  clear hrd
  unfold spec_l20Bounds
  refine TW.seq ?_
  refine TW.region ?_
  refine TO.y (Y.assign rfl) rfl rfl rfl ?_
  refine TO.y (Y.assign rfl) rfl rfl rfl ?_
  refine TO.nil ?_
  refine TE.next ?_
  refine TW.seq ?_
  refine TW.region ?_
  refine TO.y (Y.assign rfl) rfl rfl rfl ?_
  refine TO.nil ?_
  refine TE.next ?_
  refine TW.seq ?_
  refine TW.region ?_
  refine TO.y (Y.assign rfl) rfl rfl rfl ?_
  refine TO.nil ?_
  refine TE.next ?_
  refine TW.seq ?_
  refine TW.seq ?_
  refine TW.region ?_
  refine TO.y (Y.assign rfl) rfl rfl rfl ?_
  refine TO.nil ?_
  refine TE.next ?_
  refine TW.joinX (τ := Int × Int) (X := Unit) (fun T _ => [(4, .int .i64 T.1), (5, .int .i64 T.2)]) (fun _ _ => []) ?_ (fun T3 X4 => ?_)
  ·refine TW.block ?_
   refine TW.loopX (σ := Int × Int × Int) (X := Unit) (fun T _ => [(0, V_l0), (4, .int .i64 T.1), (5, .int .i64 T.2.1), (6, .int .i64 T.2.2)]) (fun _ _ => []) () [] ⟨rfl, rfl, rfl, rfl, trivial⟩ rfl (fun S1 X2 => ?_)
   refine TW.seq ?_
   refine TW.seq ?_
   refine TW.region ?_
   refine TO.y (Y.move rfl) rfl rfl rfl ?_
   refine TO.y (Y.move rfl) rfl rfl rfl ?_
   refine TO.y (Y.len (l := l) ke30 (Base.can HB_V_l0) rfl) rfl rfl rfl ?_
   refine TO.y (Y.lss rfl rfl) rfl rfl rfl ?_
   refine TO.nil ?_
   refine TE.next ?_
   refine TW.cond rfl (fun H5 => ?_) (fun H5 => ?_)
   ·refine TW.skip ?_
    refine TE.next ?_
    refine TW.seq ?_
    refine TW.block ?_
    refine TW.seq ?_
    refine TW.seq ?_
    refine TW.region ?_
    refine TO.y (Y.move rfl) rfl rfl rfl ?_
    refine TO.y (Y.move rfl) rfl rfl rfl ?_
    refine TO.bind fun E6 H7 => ?_
    refine TO.y (Y.index ke30 (Base.can HB_V_l0) H7 rfl rfl) rfl rfl rfl ?_
    refine TO.y (Y.field_el kf48_1 (Base.can HB_V_l0) (idx_get H7).2.2 rfl rfl) rfl rfl rfl ?_
    refine TO.y (Y.load_el (us := [.int .i64 E6.Seq]) (u := .int .i64 E6.Seq) kk3 rfl (Base.can HB_V_l0) (idx_get H7).2.2 rfl rfl rfl rfl rfl) rfl rfl rfl ?_
    refine TO.y (Y.move rfl) rfl rfl rfl ?_
    refine TO.y (Y.lss rfl rfl) rfl rfl rfl ?_
    refine TO.nil ?_
    refine TE.next ?_
    refine TW.joinX (τ := Int) (X := Unit) (fun T _ => [(0, V_l0), (4, .int .i64 T), (5, .int .i64 S1.2.1), (6, .int .i64 S1.2.2)]) (fun _ _ => []) ?_ (fun T8 X9 => ?_)
    ·refine TW.cond rfl (fun H10 => ?_) (fun H10 => ?_)
     ·refine TW.region ?_
      refine TO.y (Y.move rfl) rfl rfl rfl ?_
      refine TO.y (Y.move rfl) rfl rfl rfl ?_
      refine TO.y (Y.index ke30 (Base.can HB_V_l0) H7 rfl rfl) rfl rfl rfl ?_
      refine TO.y (Y.field_el kf48_1 (Base.can HB_V_l0) (idx_get H7).2.2 rfl rfl) rfl rfl rfl ?_
      refine TO.y (Y.load_el (us := [.int .i64 E6.Seq]) (u := .int .i64 E6.Seq) kk3 rfl (Base.can HB_V_l0) (idx_get H7).2.2 rfl rfl rfl rfl rfl) rfl rfl rfl ?_
      refine TO.y (Y.assign rfl) rfl rfl rfl ?_
      refine TO.nil ?_
      exact TE.jn_go () [] ⟨rfl, rfl, rfl, rfl, trivial⟩ rfl
     refine TW.skip ?_
     exact TE.jn_go () [] ⟨rfl, rfl, rfl, rfl, trivial⟩ rfl
    refine TE.next ?_
    refine TW.seq ?_
    refine TW.region ?_
    refine TO.y (Y.move rfl) rfl rfl rfl ?_
    refine TO.y (Y.move rfl) rfl rfl rfl ?_
    refine TO.y (Y.index ke30 (Base.can HB_V_l0) H7 rfl rfl) rfl rfl rfl ?_
    refine TO.y (Y.field_el kf48_1 (Base.can HB_V_l0) (idx_get H7).2.2 rfl rfl) rfl rfl rfl ?_
    refine TO.y (Y.load_el (us := [.int .i64 E6.Seq]) (u := .int .i64 E6.Seq) kk3 rfl (Base.can HB_V_l0) (idx_get H7).2.2 rfl rfl rfl rfl rfl) rfl rfl rfl ?_
    refine TO.y (Y.move rfl) rfl rfl rfl ?_
    refine TO.y (Y.gtr rfl rfl) rfl rfl rfl ?_
    refine TO.nil ?_
    refine TE.next ?_
    refine TW.joinX (τ := Int) (X := Unit) (fun T _ => [(0, V_l0), (4, .int .i64 T8), (5, .int .i64 T), (6, .int .i64 S1.2.2)]) (fun _ _ => []) ?_ (fun T11 X12 => ?_)
    ·refine TW.cond rfl (fun H13 => ?_) (fun H13 => ?_)
     ·refine TW.region ?_
      refine TO.y (Y.move rfl) rfl rfl rfl ?_
      refine TO.y (Y.move rfl) rfl rfl rfl ?_
      refine TO.y (Y.index ke30 (Base.can HB_V_l0) H7 rfl rfl) rfl rfl rfl ?_
      refine TO.y (Y.field_el kf48_1 (Base.can HB_V_l0) (idx_get H7).2.2 rfl rfl) rfl rfl rfl ?_
      refine TO.y (Y.load_el (us := [.int .i64 E6.Seq]) (u := .int .i64 E6.Seq) kk3 rfl (Base.can HB_V_l0) (idx_get H7).2.2 rfl rfl rfl rfl rfl) rfl rfl rfl ?_
      refine TO.y (Y.assign rfl) rfl rfl rfl ?_
      refine TO.nil ?_
      exact TE.jn_go () [] ⟨rfl, rfl, rfl, rfl, trivial⟩ rfl
     refine TW.skip ?_
     exact TE.jn_go () [] ⟨rfl, rfl, rfl, rfl, trivial⟩ rfl
    refine TE.block_normal ?_
    refine TE.next ?_
    refine TW.region ?_
    refine TO.y (Y.move rfl) rfl rfl rfl ?_
    refine TO.y (Y.add rfl rfl) rfl rfl rfl ?_
    refine TO.y (Y.assign rfl) rfl rfl rfl ?_
    refine TO.nil ?_
    exact TE.lp_go () [] ⟨rfl, rfl, rfl, rfl, trivial⟩ rfl
   refine TW.exit ?_
   refine TE.then_exit ?_
   refine TE.lp_exit ?_
   refine TE.block_exit ?_
   exact TE.jn_go () [] ⟨rfl, rfl, trivial⟩ rfl
  refine TE.next ?_
  refine TW.seq ?_
  refine TW.region ?_
  refine TO.y (Y.move rfl) rfl rfl rfl ?_
  refine TO.y (Y.move rfl) rfl rfl rfl ?_
  refine TO.y (Y.assign rfl) rfl rfl rfl ?_
  refine TO.y (Y.assign rfl) rfl rfl rfl ?_
  refine TO.nil ?_
  refine TE.next ?_
  refine TW.ret ?_
  exact TE.leaf fun _ _ hf_ hs_ => ret_any (rs := [.tmp 2, .tmp 3]) (vs := [.int .i64 T3.1, .int .i64 T3.2]) (.inl rfl) rfl ⟨rfl, ⟨rfl, trivial⟩⟩ hf_ hs_ ⟨(), rfl, hs_.pulls [] rfl⟩

/-- loop.example/g00950/spec.EngOk -/
noncomputable def spec_EngOk (e : Eng) : Option Bool :=
  ((spec_MemOk e.Mem).bind fun R4 =>
  if (!R4) = true then (some true)
  else (if (decide (((e.Tables.length : Nat) : Int) > (6 : Int))) = true then (some true)
  else ((spec_l1In e.Seq (0 : Int) (1000000 : Int)).bind fun R9 =>
  if (!R9) = true then (some true)
  else (some (decide (((e.Snaps.length : Nat) : Int) > (4 : Int))))))).bind (fun (T2 : Bool) =>
  if T2 = true then (some false)
  else ((spec_l20Bounds e.Mem).bind fun R14 =>
  if (decide (R14.2 > e.Seq)) = true then (some false)
  else (bindC (loopO (fun (S18 : Int × Int × Int) => if (decide (S18.2.2 < ((e.Tables.length : Nat) : Int))) = true then ((idx e.Tables S18.2.2).bind fun E23 =>
  (spec_l20Bounds E23).bind fun R26 =>
  (if (decide (((E23.length : Nat) : Int) = (0 : Int))) = true then (some true)
  else ((spec_l9Ents E23).bind fun R32 =>
  if (!R32) = true then (some true)
  else (if (decide (R26.2 ≥ S18.1)) = true then (some true)
  else (some (decide (R26.2 > e.Seq)))))).bind (fun (T29 : Bool) =>
  if T29 = true then (some (.done (.done false)))
  else (some (.go (R26.1, IntKind.i64.wrap (S18.2.1 + ((E23.length : Nat) : Int)), IntKind.i64.wrap (S18.2.2 + (1 : Int)))))))
  else (some (.done (.go S18.2.1))))
  (R14.1, ((e.Mem.length : Nat) : Int), (0 : Int)))
  (fun (T20 : Int) => bindC (loopO (fun (S38 : Int) => if (decide (S38 < ((e.Snaps.length : Nat) : Int))) = true then (((idx e.Snaps S38).bind fun E45 =>
  (spec_l1In E45 (0 : Int) e.Seq).bind fun R47 =>
  if (!R47) = true then (some true)
  else (if (decide (S38 > (0 : Int))) = true then ((idx e.Snaps (IntKind.i64.wrap (S38 - (1 : Int)))).bind fun E52 =>
  some (decide (E52 ≥ E45)))
  else (some false))).bind (fun (T43 : Bool) =>
  if T43 = true then (some (.done (.done false)))
  else (some (.go (IntKind.i64.wrap (S38 + (1 : Int)))))))
  else (some (.done (.go ()))))
  (0 : Int))
  (fun (T40 : Unit) => some (decide (T20 ≤ (400 : Int))))))))

theorem spec_EngOk_con (e : Eng) (V_e0 : Value) (V_e1 : Value) (V_e3 : Value) (r : Bool) (hm : spec_EngOk e = some r) :
    Con Try.prog 19 [.agg #[V_e0, V_e1, .int .i64 e.Seq, V_e3]] [] [(V_e0, lc e.Mem), (V_e1, lc e.Tables), (V_e3, lc e.Snaps)] (fun _ : Unit => .bool r) (fun _ => []) := by
  refine Con.intro (args := [.agg #[V_e0, V_e1, .int .i64 e.Seq, V_e3]]) (n := 123) (val := fun r (_ : Unit) => .bool r) (post := fun _ _ => []) (m := spec_EngOk e) Try.func19 rfl rfl rfl hm ?_
  intro w S hrd
  have HB_V_e0 := hrd _ (.head _)
  have HB_V_e1 := hrd _ (.tail _ (.head _))
  have HB_V_e3 := hrd _ (.tail _ (.tail _ (.head _)))
  clear hrd
  unfold spec_EngOk
  refine TW.seq ?_
  refine TW.region ?_
  refine TO.ef (Ef.box rfl (Cel.agg ⟨(One.can (Base.can HB_V_e0)), (One.can (Base.can HB_V_e1)), (One.plain rfl), (One.can (Base.can HB_V_e3)), trivial⟩)) rfl rfl rfl (fun B1 => ?_)
  refine TO.y (Y.assign rfl) rfl rfl rfl ?_
  refine TO.nil ?_
  refine TE.next ?_
  refine TW.seq ?_
  refine TW.seq ?_
  refine TW.joinBX (τ := Bool) (X := Unit) (fun T _ => [(1, .pointer (some ⟨B1, 0, none⟩)), (32, .bool T)]) (fun _ _ => [.box B1 33 [V_e0, V_e1, .int .i64 e.Seq, V_e3]]) ?_ (fun T2 X3 => ?_)
  ·refine TW.region ?_
   refine TO.y (Y.field_box kf33_0 rfl rfl) rfl rfl rfl ?_
   refine TO.y (Y.load_box (v := V_e0) 0 kk30 rfl rfl rfl) rfl rfl rfl ?_
   refine TO.bind fun R4 H5 => ?_
   refine TO.ef (Ef.call (rest := [.box B1 33 [V_e0, V_e1, .int .i64 e.Seq, V_e3]]) [0] (spec_MemOk_con e.Mem V_e0 R4 H5) kc39 rfl rfl ⟨(Base.can HB_V_e0), trivial⟩) rfl rfl rfl (fun _ => ?_)
   refine TO.y (Y.not rfl) rfl rfl rfl ?_
   refine TO.y (Y.move rfl) rfl rfl rfl ?_
   refine TO.ite (b := !R4) (fun H7 => ?_) (fun H7 => ?_)
   ·refine TO.off (Gd.at 4 false 15 (!R4) rfl rfl rfl (beq_tf H7)) rfl rfl ?_
    refine TO.off (Gd.at 4 false 15 (!R4) rfl rfl rfl (beq_tf H7)) rfl rfl ?_
    refine TO.off (Gd.at 4 false 15 (!R4) rfl rfl rfl (beq_tf H7)) rfl rfl ?_
    refine TO.off (Gd.at 4 false 15 (!R4) rfl rfl rfl (beq_tf H7)) rfl rfl ?_
    refine TO.y (Y.pick_t H7 rfl rfl) rfl rfl rfl ?_
    refine TO.y (Y.move rfl) rfl rfl rfl ?_
    refine TO.off (Gd.at 10 false 21 true rfl rfl rfl rfl) rfl rfl ?_
    refine TO.off (Gd.at 10 false 21 true rfl rfl rfl rfl) rfl rfl ?_
    refine TO.off (Gd.at 10 false 21 true rfl rfl rfl rfl) rfl rfl ?_
    refine TO.off (Gd.at 10 false 21 true rfl rfl rfl rfl) rfl rfl ?_
    refine TO.y (Y.pick_t rfl rfl rfl) rfl rfl rfl ?_
    refine TO.y (Y.move rfl) rfl rfl rfl ?_
    refine TO.off (Gd.at 16 false 27 true rfl rfl rfl rfl) rfl rfl ?_
    refine TO.off (Gd.at 16 false 27 true rfl rfl rfl rfl) rfl rfl ?_
    refine TO.off (Gd.at 16 false 27 true rfl rfl rfl rfl) rfl rfl ?_
    refine TO.off (Gd.at 16 false 27 true rfl rfl rfl rfl) rfl rfl ?_
    refine TO.y (Y.pick_t rfl rfl rfl) rfl rfl rfl ?_
    refine TO.nil ?_
    exact TE.jb_go () [0] ⟨rfl, rfl, trivial⟩ rfl
   refine TO.y (Y.field_box kf33_1 rfl rfl) (Gd.at 4 false 15 (!R4) rfl rfl rfl (beq_ff H7)) rfl rfl ?_
   refine TO.y (Y.load_box (v := V_e1) 0 kk31 rfl rfl rfl) (Gd.at 4 false 15 (!R4) rfl rfl rfl (beq_ff H7)) rfl rfl ?_
   refine TO.y (Y.len (l := e.Tables) ke31 (Base.can HB_V_e1) rfl) (Gd.at 4 false 15 (!R4) rfl rfl rfl (beq_ff H7)) rfl rfl ?_
   refine TO.y (Y.gtr rfl rfl) (Gd.at 4 false 15 (!R4) rfl rfl rfl (beq_ff H7)) rfl rfl ?_
   refine TO.y (Y.pick_f H7 rfl rfl) rfl rfl rfl ?_
   refine TO.y (Y.move rfl) rfl rfl rfl ?_
   refine TO.ite (b := decide (((e.Tables.length : Nat) : Int) > (6 : Int))) (fun H8 => ?_) (fun H8 => ?_)
   ·refine TO.off (Gd.at 10 false 21 (decide (((e.Tables.length : Nat) : Int) > (6 : Int))) rfl rfl rfl (beq_tf H8)) rfl rfl ?_
    refine TO.off (Gd.at 10 false 21 (decide (((e.Tables.length : Nat) : Int) > (6 : Int))) rfl rfl rfl (beq_tf H8)) rfl rfl ?_
    refine TO.off (Gd.at 10 false 21 (decide (((e.Tables.length : Nat) : Int) > (6 : Int))) rfl rfl rfl (beq_tf H8)) rfl rfl ?_
    refine TO.off (Gd.at 10 false 21 (decide (((e.Tables.length : Nat) : Int) > (6 : Int))) rfl rfl rfl (beq_tf H8)) rfl rfl ?_
    refine TO.y (Y.pick_t H8 rfl rfl) rfl rfl rfl ?_
    refine TO.y (Y.move rfl) rfl rfl rfl ?_
    refine TO.off (Gd.at 16 false 27 true rfl rfl rfl rfl) rfl rfl ?_
    refine TO.off (Gd.at 16 false 27 true rfl rfl rfl rfl) rfl rfl ?_
    refine TO.off (Gd.at 16 false 27 true rfl rfl rfl rfl) rfl rfl ?_
    refine TO.off (Gd.at 16 false 27 true rfl rfl rfl rfl) rfl rfl ?_
    refine TO.y (Y.pick_t rfl rfl rfl) rfl rfl rfl ?_
    refine TO.nil ?_
    exact TE.jb_go () [0] ⟨rfl, rfl, trivial⟩ rfl
   refine TO.y (Y.field_box kf33_2 rfl rfl) (Gd.at 10 false 21 (decide (((e.Tables.length : Nat) : Int) > (6 : Int))) rfl rfl rfl (beq_ff H8)) rfl rfl ?_
   refine TO.y (Y.load_box (v := .int .i64 e.Seq) 0 kk3 rfl rfl rfl) (Gd.at 10 false 21 (decide (((e.Tables.length : Nat) : Int) > (6 : Int))) rfl rfl rfl (beq_ff H8)) rfl rfl ?_
   refine TO.bind fun R9 H10 => ?_
   refine TO.ef (Ef.call (rest := [.box B1 33 [V_e0, V_e1, .int .i64 e.Seq, V_e3]]) [0] (spec_l1In_con e.Seq (0 : Int) (1000000 : Int)  R9 H10) kc40 rfl rfl trivial) (Gd.at 10 false 21 (decide (((e.Tables.length : Nat) : Int) > (6 : Int))) rfl rfl rfl (beq_ff H8)) rfl rfl (fun _ => ?_)
   refine TO.y (Y.not rfl) (Gd.at 10 false 21 (decide (((e.Tables.length : Nat) : Int) > (6 : Int))) rfl rfl rfl (beq_ff H8)) rfl rfl ?_
   refine TO.y (Y.pick_f H8 rfl rfl) rfl rfl rfl ?_
   refine TO.y (Y.move rfl) rfl rfl rfl ?_
   refine TO.ite (b := !R9) (fun H12 => ?_) (fun H12 => ?_)
   ·refine TO.off (Gd.at 16 false 27 (!R9) rfl rfl rfl (beq_tf H12)) rfl rfl ?_
    refine TO.off (Gd.at 16 false 27 (!R9) rfl rfl rfl (beq_tf H12)) rfl rfl ?_
    refine TO.off (Gd.at 16 false 27 (!R9) rfl rfl rfl (beq_tf H12)) rfl rfl ?_
    refine TO.off (Gd.at 16 false 27 (!R9) rfl rfl rfl (beq_tf H12)) rfl rfl ?_
    refine TO.y (Y.pick_t H12 rfl rfl) rfl rfl rfl ?_
    refine TO.nil ?_
    exact TE.jb_go () [0] ⟨rfl, rfl, trivial⟩ rfl
   refine TO.y (Y.field_box kf33_3 rfl rfl) (Gd.at 16 false 27 (!R9) rfl rfl rfl (beq_ff H12)) rfl rfl ?_
   refine TO.y (Y.load_box (v := V_e3) 0 kk24 rfl rfl rfl) (Gd.at 16 false 27 (!R9) rfl rfl rfl (beq_ff H12)) rfl rfl ?_
   refine TO.y (Y.len (l := e.Snaps) ke24 (Base.can HB_V_e3) rfl) (Gd.at 16 false 27 (!R9) rfl rfl rfl (beq_ff H12)) rfl rfl ?_
   refine TO.y (Y.gtr rfl rfl) (Gd.at 16 false 27 (!R9) rfl rfl rfl (beq_ff H12)) rfl rfl ?_
   refine TO.y (Y.pick_f H12 rfl rfl) rfl rfl rfl ?_
   refine TO.nil ?_
   exact TE.jb_go () [0] ⟨rfl, rfl, trivial⟩ rfl
  refine TE.next ?_
  refine TW.cond rfl (fun H13 => ?_) (fun H13 => ?_)
  ·refine TW.seq ?_
   refine TW.region ?_
   refine TO.y (Y.assign rfl) rfl rfl rfl ?_
   refine TO.nil ?_
   refine TE.next ?_
   refine TW.ret ?_
   refine TE.then_ret ?_
   exact TE.leaf fun _ _ hf_ hs_ => ret_any (rs := [.tmp 2]) (vs := [.bool false]) (.inl rfl) rfl ⟨rfl, trivial⟩ hf_ hs_ ⟨(), rfl, hs_.pulls [] rfl⟩
  refine TW.skip ?_
  refine TE.next ?_
  refine TW.seq ?_
  refine TW.region ?_
  refine TO.y (Y.field_box kf33_0 rfl rfl) rfl rfl rfl ?_
  refine TO.y (Y.load_box (v := V_e0) 0 kk30 rfl rfl rfl) rfl rfl rfl ?_
  refine TO.bind fun R14 H15 => ?_
  refine TO.ef (Ef.call (rest := [.box B1 33 [V_e0, V_e1, .int .i64 e.Seq, V_e3]]) [0] (spec_l20Bounds_con e.Mem V_e0 R14 H15) kc41 rfl rfl ⟨(Base.can HB_V_e0), trivial⟩) rfl rfl rfl (fun _ => ?_)
  refine TO.y (Y.move rfl) rfl rfl rfl ?_
  refine TO.y (Y.extract rfl rfl) rfl rfl rfl ?_
  refine TO.y (Y.extract rfl rfl) rfl rfl rfl ?_
  refine TO.y (Y.assign rfl) rfl rfl rfl ?_
  refine TO.y (Y.assign rfl) rfl rfl rfl ?_
  refine TO.nil ?_
  refine TE.next ?_
  refine TW.seq ?_
  refine TW.seq ?_
  refine TW.region ?_
  refine TO.y (Y.move rfl) rfl rfl rfl ?_
  refine TO.y (Y.field_box kf33_2 rfl rfl) rfl rfl rfl ?_
  refine TO.y (Y.load_box (v := .int .i64 e.Seq) 0 kk3 rfl rfl rfl) rfl rfl rfl ?_
  refine TO.y (Y.gtr rfl rfl) rfl rfl rfl ?_
  refine TO.nil ?_
  refine TE.next ?_
  refine TW.cond rfl (fun H17 => ?_) (fun H17 => ?_)
  ·refine TW.seq ?_
   refine TW.region ?_
   refine TO.y (Y.assign rfl) rfl rfl rfl ?_
   refine TO.nil ?_
   refine TE.next ?_
   refine TW.ret ?_
   refine TE.then_ret ?_
   exact TE.leaf fun _ _ hf_ hs_ => ret_any (rs := [.tmp 2]) (vs := [.bool false]) (.inl rfl) rfl ⟨rfl, trivial⟩ hf_ hs_ ⟨(), rfl, hs_.pulls [] rfl⟩
  refine TW.skip ?_
  refine TE.next ?_
  refine TW.seq ?_
  refine TW.region ?_
  refine TO.y (Y.field_box kf33_0 rfl rfl) rfl rfl rfl ?_
  refine TO.y (Y.load_box (v := V_e0) 0 kk30 rfl rfl rfl) rfl rfl rfl ?_
  refine TO.y (Y.len (l := e.Mem) ke30 (Base.can HB_V_e0) rfl) rfl rfl rfl ?_
  refine TO.y (Y.assign rfl) rfl rfl rfl ?_
  refine TO.nil ?_
  refine TE.next ?_
  refine TW.seq ?_
  refine TW.seq ?_
  refine TW.region ?_
  refine TO.y (Y.assign rfl) rfl rfl rfl ?_
  refine TO.nil ?_
  refine TE.next ?_
  refine TW.joinX (τ := Int) (X := Unit) (fun T _ => [(1, .pointer (some ⟨B1, 0, none⟩)), (5, .int .i64 T)]) (fun _ _ => [.box B1 33 [V_e0, V_e1, .int .i64 e.Seq, V_e3]]) ?_ (fun T20 X21 => ?_)
  ·refine TW.block ?_
   refine TW.loopX (σ := Int × Int × Int) (X := Unit) (fun T _ => [(1, .pointer (some ⟨B1, 0, none⟩)), (3, .int .i64 T.1), (5, .int .i64 T.2.1), (6, .int .i64 T.2.2)]) (fun _ _ => [.box B1 33 [V_e0, V_e1, .int .i64 e.Seq, V_e3]]) () [0] ⟨rfl, rfl, rfl, rfl, trivial⟩ rfl (fun S18 X19 => ?_)
   refine TW.seq ?_
   refine TW.seq ?_
   refine TW.region ?_
   refine TO.y (Y.move rfl) rfl rfl rfl ?_
   refine TO.y (Y.field_box kf33_1 rfl rfl) rfl rfl rfl ?_
   refine TO.y (Y.load_box (v := V_e1) 0 kk31 rfl rfl rfl) rfl rfl rfl ?_
   refine TO.y (Y.len (l := e.Tables) ke31 (Base.can HB_V_e1) rfl) rfl rfl rfl ?_
   refine TO.y (Y.lss rfl rfl) rfl rfl rfl ?_
   refine TO.nil ?_
   refine TE.next ?_
   refine TW.cond rfl (fun H22 => ?_) (fun H22 => ?_)
   ·refine TW.skip ?_
    refine TE.next ?_
    refine TW.seq ?_
    refine TW.block ?_
    refine TW.seq ?_
    refine TW.region ?_
    refine TO.y (Y.field_box kf33_1 rfl rfl) rfl rfl rfl ?_
    refine TO.y (Y.load_box (v := V_e1) 0 kk31 rfl rfl rfl) rfl rfl rfl ?_
    refine TO.y (Y.move rfl) rfl rfl rfl ?_
    refine TO.bind fun E23 H24 => ?_
    refine TO.y (Y.index ke31 (Base.can HB_V_e1) H24 rfl rfl) rfl rfl rfl ?_
    have Q25 : Base w S (elv w V_e1 (S18.2.2.toNat * 1 + 0)) (lc E23) := Base.el HB_V_e1 (idx_get H24).2.2 rfl rfl
    refine TO.y (Y.load_base (α := List Ent) (u := (elv w V_e1 (S18.2.2.toNat * 1 + 0))) kk30 rfl HB_V_e1 (idx_get H24).2.2 rfl rfl rfl rfl rfl) rfl rfl rfl ?_
    refine TO.y (Y.assign rfl) rfl rfl rfl ?_
    refine TO.nil ?_
    refine TE.next ?_
    refine TW.seq ?_
    refine TW.region ?_
    refine TO.y (Y.move rfl) rfl rfl rfl ?_
    refine TO.bind fun R26 H27 => ?_
    refine TO.ef (Ef.call (rest := [.box B1 33 [V_e0, V_e1, .int .i64 e.Seq, V_e3]]) [0] (spec_l20Bounds_con E23 (elv w V_e1 (S18.2.2.toNat * 1 + 0)) R26 H27) kc41 rfl rfl ⟨(Base.can Q25), trivial⟩) rfl rfl rfl (fun _ => ?_)
    refine TO.y (Y.move rfl) rfl rfl rfl ?_
    refine TO.y (Y.extract rfl rfl) rfl rfl rfl ?_
    refine TO.y (Y.extract rfl rfl) rfl rfl rfl ?_
    refine TO.y (Y.assign rfl) rfl rfl rfl ?_
    refine TO.y (Y.assign rfl) rfl rfl rfl ?_
    refine TO.nil ?_
    refine TE.next ?_
    refine TW.seq ?_
    refine TW.seq ?_
    refine TW.joinBX (τ := Bool) (X := Unit) (fun T _ => [(1, .pointer (some ⟨B1, 0, none⟩)), (5, .int .i64 S18.2.1), (6, .int .i64 S18.2.2), (7, (elv w V_e1 (S18.2.2.toNat * 1 + 0))), (8, .int .i64 R26.1), (81, .bool T)]) (fun _ _ => [.box B1 33 [V_e0, V_e1, .int .i64 e.Seq, V_e3]]) ?_ (fun T29 X30 => ?_)
    ·refine TW.region ?_
     refine TO.y (Y.move rfl) rfl rfl rfl ?_
     refine TO.y (Y.len (l := E23) ke30 (Base.can Q25) rfl) rfl rfl rfl ?_
     refine TO.y (Y.eql rfl rfl) rfl rfl rfl ?_
     refine TO.y (Y.move rfl) rfl rfl rfl ?_
     refine TO.ite (b := decide (((E23.length : Nat) : Int) = (0 : Int))) (fun H31 => ?_) (fun H31 => ?_)
     ·refine TO.off (Gd.at 3 false 66 (decide (((E23.length : Nat) : Int) = (0 : Int))) rfl rfl rfl (beq_tf H31)) rfl rfl ?_
      refine TO.off (Gd.at 3 false 66 (decide (((E23.length : Nat) : Int) = (0 : Int))) rfl rfl rfl (beq_tf H31)) rfl rfl ?_
      refine TO.off (Gd.at 3 false 66 (decide (((E23.length : Nat) : Int) = (0 : Int))) rfl rfl rfl (beq_tf H31)) rfl rfl ?_
      refine TO.y (Y.pick_t H31 rfl rfl) rfl rfl rfl ?_
      refine TO.y (Y.move rfl) rfl rfl rfl ?_
      refine TO.off (Gd.at 8 false 71 true rfl rfl rfl rfl) rfl rfl ?_
      refine TO.off (Gd.at 8 false 71 true rfl rfl rfl rfl) rfl rfl ?_
      refine TO.off (Gd.at 8 false 71 true rfl rfl rfl rfl) rfl rfl ?_
      refine TO.y (Y.pick_t rfl rfl rfl) rfl rfl rfl ?_
      refine TO.y (Y.move rfl) rfl rfl rfl ?_
      refine TO.off (Gd.at 13 false 76 true rfl rfl rfl rfl) rfl rfl ?_
      refine TO.off (Gd.at 13 false 76 true rfl rfl rfl rfl) rfl rfl ?_
      refine TO.off (Gd.at 13 false 76 true rfl rfl rfl rfl) rfl rfl ?_
      refine TO.off (Gd.at 13 false 76 true rfl rfl rfl rfl) rfl rfl ?_
      refine TO.y (Y.pick_t rfl rfl rfl) rfl rfl rfl ?_
      refine TO.nil ?_
      exact TE.jb_go () [0] ⟨rfl, rfl, rfl, rfl, rfl, rfl, trivial⟩ rfl
     refine TO.y (Y.move rfl) (Gd.at 3 false 66 (decide (((E23.length : Nat) : Int) = (0 : Int))) rfl rfl rfl (beq_ff H31)) rfl rfl ?_
     refine TO.bind fun R32 H33 => ?_
     refine TO.ef (Ef.call (rest := [.box B1 33 [V_e0, V_e1, .int .i64 e.Seq, V_e3]]) [0] (spec_l9Ents_con E23 (elv w V_e1 (S18.2.2.toNat * 1 + 0)) R32 H33) kc42 rfl rfl ⟨(Base.can Q25), trivial⟩) (Gd.at 3 false 66 (decide (((E23.length : Nat) : Int) = (0 : Int))) rfl rfl rfl (beq_ff H31)) rfl rfl (fun _ => ?_)
     refine TO.y (Y.not rfl) (Gd.at 3 false 66 (decide (((E23.length : Nat) : Int) = (0 : Int))) rfl rfl rfl (beq_ff H31)) rfl rfl ?_
     refine TO.y (Y.pick_f H31 rfl rfl) rfl rfl rfl ?_
     refine TO.y (Y.move rfl) rfl rfl rfl ?_
     refine TO.ite (b := !R32) (fun H35 => ?_) (fun H35 => ?_)
     ·refine TO.off (Gd.at 8 false 71 (!R32) rfl rfl rfl (beq_tf H35)) rfl rfl ?_
      refine TO.off (Gd.at 8 false 71 (!R32) rfl rfl rfl (beq_tf H35)) rfl rfl ?_
      refine TO.off (Gd.at 8 false 71 (!R32) rfl rfl rfl (beq_tf H35)) rfl rfl ?_
      refine TO.y (Y.pick_t H35 rfl rfl) rfl rfl rfl ?_
      refine TO.y (Y.move rfl) rfl rfl rfl ?_
      refine TO.off (Gd.at 13 false 76 true rfl rfl rfl rfl) rfl rfl ?_
      refine TO.off (Gd.at 13 false 76 true rfl rfl rfl rfl) rfl rfl ?_
      refine TO.off (Gd.at 13 false 76 true rfl rfl rfl rfl) rfl rfl ?_
      refine TO.off (Gd.at 13 false 76 true rfl rfl rfl rfl) rfl rfl ?_
      refine TO.y (Y.pick_t rfl rfl rfl) rfl rfl rfl ?_
      refine TO.nil ?_
      exact TE.jb_go () [0] ⟨rfl, rfl, rfl, rfl, rfl, rfl, trivial⟩ rfl
     refine TO.y (Y.move rfl) (Gd.at 8 false 71 (!R32) rfl rfl rfl (beq_ff H35)) rfl rfl ?_
     refine TO.y (Y.move rfl) (Gd.at 8 false 71 (!R32) rfl rfl rfl (beq_ff H35)) rfl rfl ?_
     refine TO.y (Y.geq rfl rfl) (Gd.at 8 false 71 (!R32) rfl rfl rfl (beq_ff H35)) rfl rfl ?_
     refine TO.y (Y.pick_f H35 rfl rfl) rfl rfl rfl ?_
     refine TO.y (Y.move rfl) rfl rfl rfl ?_
     refine TO.ite (b := decide (R26.2 ≥ S18.1)) (fun H36 => ?_) (fun H36 => ?_)
     ·refine TO.off (Gd.at 13 false 76 (decide (R26.2 ≥ S18.1)) rfl rfl rfl (beq_tf H36)) rfl rfl ?_
      refine TO.off (Gd.at 13 false 76 (decide (R26.2 ≥ S18.1)) rfl rfl rfl (beq_tf H36)) rfl rfl ?_
      refine TO.off (Gd.at 13 false 76 (decide (R26.2 ≥ S18.1)) rfl rfl rfl (beq_tf H36)) rfl rfl ?_
      refine TO.off (Gd.at 13 false 76 (decide (R26.2 ≥ S18.1)) rfl rfl rfl (beq_tf H36)) rfl rfl ?_
      refine TO.y (Y.pick_t H36 rfl rfl) rfl rfl rfl ?_
      refine TO.nil ?_
      exact TE.jb_go () [0] ⟨rfl, rfl, rfl, rfl, rfl, rfl, trivial⟩ rfl
     refine TO.y (Y.move rfl) (Gd.at 13 false 76 (decide (R26.2 ≥ S18.1)) rfl rfl rfl (beq_ff H36)) rfl rfl ?_
     refine TO.y (Y.field_box kf33_2 rfl rfl) (Gd.at 13 false 76 (decide (R26.2 ≥ S18.1)) rfl rfl rfl (beq_ff H36)) rfl rfl ?_
     refine TO.y (Y.load_box (v := .int .i64 e.Seq) 0 kk3 rfl rfl rfl) (Gd.at 13 false 76 (decide (R26.2 ≥ S18.1)) rfl rfl rfl (beq_ff H36)) rfl rfl ?_
     refine TO.y (Y.gtr rfl rfl) (Gd.at 13 false 76 (decide (R26.2 ≥ S18.1)) rfl rfl rfl (beq_ff H36)) rfl rfl ?_
     refine TO.y (Y.pick_f H36 rfl rfl) rfl rfl rfl ?_
     refine TO.nil ?_
     exact TE.jb_go () [0] ⟨rfl, rfl, rfl, rfl, rfl, rfl, trivial⟩ rfl
    refine TE.next ?_
    refine TW.cond rfl (fun H37 => ?_) (fun H37 => ?_)
    ·refine TW.seq ?_
     refine TW.region ?_
     refine TO.y (Y.assign rfl) rfl rfl rfl ?_
     refine TO.nil ?_
     refine TE.next ?_
     refine TW.ret ?_
     refine TE.then_ret ?_
     refine TE.block_ret ?_
     refine TE.then_ret ?_
     refine TE.lp_ret ?_
     refine TE.block_ret ?_
     refine TE.jn_done ?_
     refine TE.then_ret ?_
     exact TE.leaf fun _ _ hf_ hs_ => ret_any (rs := [.tmp 2]) (vs := [.bool false]) (.inl rfl) rfl ⟨rfl, trivial⟩ hf_ hs_ ⟨(), rfl, hs_.pulls [] rfl⟩
    refine TW.skip ?_
    refine TE.next ?_
    refine TW.seq ?_
    refine TW.region ?_
    refine TO.y (Y.move rfl) rfl rfl rfl ?_
    refine TO.y (Y.assign rfl) rfl rfl rfl ?_
    refine TO.nil ?_
    refine TE.next ?_
    refine TW.region ?_
    refine TO.y (Y.move rfl) rfl rfl rfl ?_
    refine TO.y (Y.move rfl) rfl rfl rfl ?_
    refine TO.y (Y.len (l := E23) ke30 (Base.can Q25) rfl) rfl rfl rfl ?_
    refine TO.y (Y.add rfl rfl) rfl rfl rfl ?_
    refine TO.y (Y.assign rfl) rfl rfl rfl ?_
    refine TO.nil ?_
    refine TE.block_normal ?_
    refine TE.next ?_
    refine TW.region ?_
    refine TO.y (Y.move rfl) rfl rfl rfl ?_
    refine TO.y (Y.add rfl rfl) rfl rfl rfl ?_
    refine TO.y (Y.assign rfl) rfl rfl rfl ?_
    refine TO.nil ?_
    exact TE.lp_go () [0] ⟨rfl, rfl, rfl, rfl, trivial⟩ rfl
   refine TW.exit ?_
   refine TE.then_exit ?_
   refine TE.lp_exit ?_
   refine TE.block_exit ?_
   exact TE.jn_go () [0] ⟨rfl, rfl, trivial⟩ rfl
  refine TE.next ?_
  refine TW.seq ?_
  refine TW.seq ?_
  refine TW.region ?_
  refine TO.y (Y.assign rfl) rfl rfl rfl ?_
  refine TO.nil ?_
  refine TE.next ?_
  refine TW.joinX (τ := Unit) (X := Unit) (fun _ _ => [(5, .int .i64 T20)]) (fun _ _ => []) ?_ (fun T40 X41 => ?_)
  ·refine TW.block ?_
   refine TW.loopX (σ := Int) (X := Unit) (fun T _ => [(1, .pointer (some ⟨B1, 0, none⟩)), (5, .int .i64 T20), (10, .int .i64 T)]) (fun _ _ => [.box B1 33 [V_e0, V_e1, .int .i64 e.Seq, V_e3]]) () [0] ⟨rfl, rfl, rfl, trivial⟩ rfl (fun S38 X39 => ?_)
   refine TW.seq ?_
   refine TW.seq ?_
   refine TW.region ?_
   refine TO.y (Y.move rfl) rfl rfl rfl ?_
   refine TO.y (Y.field_box kf33_3 rfl rfl) rfl rfl rfl ?_
   refine TO.y (Y.load_box (v := V_e3) 0 kk24 rfl rfl rfl) rfl rfl rfl ?_
   refine TO.y (Y.len (l := e.Snaps) ke24 (Base.can HB_V_e3) rfl) rfl rfl rfl ?_
   refine TO.y (Y.lss rfl rfl) rfl rfl rfl ?_
   refine TO.nil ?_
   refine TE.next ?_
   refine TW.cond rfl (fun H42 => ?_) (fun H42 => ?_)
   ·refine TW.skip ?_
    refine TE.next ?_
    refine TW.seq ?_
    refine TW.block ?_
    refine TW.seq ?_
    refine TW.joinBX (τ := Bool) (X := Unit) (fun T _ => [(1, .pointer (some ⟨B1, 0, none⟩)), (5, .int .i64 T20), (10, .int .i64 S38), (120, .bool T)]) (fun _ _ => [.box B1 33 [V_e0, V_e1, .int .i64 e.Seq, V_e3]]) ?_ (fun T43 X44 => ?_)
    ·refine TW.draw (isH := [.box B1 33 [V_e0, V_e1, .int .i64 e.Seq, V_e3]]) hMix ?_
     refine TA.y 0 [0] rfl (Y.field_box kf33_3 rfl rfl) rfl rfl rfl (by kernel_rfl) rfl ?_
     refine TA.y 1 [0] rfl (Y.load_box (v := V_e3) 0 kk24 rfl rfl rfl) rfl rfl rfl (by kernel_rfl) rfl ?_
     refine TA.y 2 [0] rfl (Y.move rfl) rfl rfl rfl (by kernel_rfl) rfl ?_
     refine TA.bind fun E45 H46 => ?_
     refine TA.y 3 [0] rfl (Y.index ke24 (Base.can HB_V_e3) H46 rfl rfl) rfl rfl rfl (by kernel_rfl) rfl ?_
     refine TA.y 4 [0] rfl (Y.load_el (us := [.int .i64 E45]) (u := .int .i64 E45) kk3 rfl (Base.can HB_V_e3) (idx_get H46).2.2 rfl rfl rfl rfl rfl) rfl rfl rfl (by kernel_rfl) rfl ?_
     refine TA.y 5 [0] rfl (Y.field_box kf33_2 rfl rfl) rfl rfl rfl (by kernel_rfl) rfl ?_
     refine TA.y 6 [0] rfl (Y.load_box (v := .int .i64 e.Seq) 0 kk3 rfl rfl rfl) rfl rfl rfl (by kernel_rfl) rfl ?_
     refine TA.bind fun R47 H48 => ?_
     refine TA.one 7 (by kernel_rfl) ?_
     refine TX.ef [0] rfl (Ef.call (rest := [.box B1 33 [V_e0, V_e1, .int .i64 e.Seq, V_e3]]) [0] (spec_l1In_con E45 (0 : Int) e.Seq  R47 H48) kc40 rfl rfl trivial) rfl rfl rfl (fun _ => rfl) (fun _ => ?_)
     refine TA.y 8 [0] rfl (Y.not rfl) rfl rfl rfl (by kernel_rfl) rfl ?_
     refine TA.y 9 [0] rfl (Y.move rfl) rfl rfl rfl (by kernel_rfl) rfl ?_
     refine TA.ite (b := !R47) (fun H50 => ?_) (fun H50 => ?_)
     ·refine TA.off 10 [0] rfl (Gd.at 9 false 103 (!R47) rfl rfl rfl (beq_tf H50)) rfl rfl (by kernel_rfl) rfl ?_
      refine TA.off 11 [0] rfl (Gd.at 9 false 103 (!R47) rfl rfl rfl (beq_tf H50)) rfl rfl (by kernel_rfl) rfl ?_
      refine TA.off 12 [0] rfl (Gd.at 9 false 103 (!R47) rfl rfl rfl (beq_tf H50)) rfl rfl (by kernel_rfl) rfl ?_
      refine TA.off 13 [0] rfl (Gd.un 12 true 106 rfl rfl rfl) rfl rfl (by kernel_rfl) rfl ?_
      refine TA.off 14 [0] rfl (Gd.un 12 true 106 rfl rfl rfl) rfl rfl (by kernel_rfl) rfl ?_
      refine TA.off 15 [0] rfl (Gd.un 12 true 106 rfl rfl rfl) rfl rfl (by kernel_rfl) rfl ?_
      refine TA.off 16 [0] rfl (Gd.un 12 true 106 rfl rfl rfl) rfl rfl (by kernel_rfl) rfl ?_
      refine TA.off 17 [0] rfl (Gd.un 12 true 106 rfl rfl rfl) rfl rfl (by kernel_rfl) rfl ?_
      refine TA.off 18 [0] rfl (Gd.un 12 true 106 rfl rfl rfl) rfl rfl (by kernel_rfl) rfl ?_
      refine TA.off 19 [0] rfl (Gd.un 12 true 106 rfl rfl rfl) rfl rfl (by kernel_rfl) rfl ?_
      refine TA.off 20 [0] rfl (Gd.un 12 true 106 rfl rfl rfl) rfl rfl (by kernel_rfl) rfl ?_
      refine TA.off 21 [0] rfl (Gd.un 12 true 106 rfl rfl rfl) rfl rfl (by kernel_rfl) rfl ?_
      refine TA.off 22 [0] rfl (Gd.un 12 true 106 rfl rfl rfl) rfl rfl (by kernel_rfl) rfl ?_
      refine TA.off 23 [0] rfl (Gd.un 12 true 106 rfl rfl rfl) rfl rfl (by kernel_rfl) rfl ?_
      refine TA.off 24 [0] rfl (Gd.un 12 true 106 rfl rfl rfl) rfl rfl (by kernel_rfl) rfl ?_
      refine TA.off 25 [0] rfl (Gd.at 9 false 103 (!R47) rfl rfl rfl (beq_tf H50)) rfl rfl (by kernel_rfl) rfl ?_
      refine TA.y 26 [0] rfl (Y.pick_t H50 rfl rfl) rfl rfl rfl (by kernel_rfl) rfl ?_
      refine TA.nil (by kernel_rfl) ?_
      exact TE.jb_go () [0] ⟨rfl, rfl, rfl, rfl, trivial⟩ rfl
     refine TA.y 10 [0] rfl (Y.move rfl) (Gd.at 9 false 103 (!R47) rfl rfl rfl (beq_ff H50)) rfl rfl (by kernel_rfl) rfl ?_
     refine TA.y 11 [0] rfl (Y.gtr rfl rfl) (Gd.at 9 false 103 (!R47) rfl rfl rfl (beq_ff H50)) rfl rfl (by kernel_rfl) rfl ?_
     refine TA.y 12 [0] rfl (Y.move rfl) (Gd.at 9 false 103 (!R47) rfl rfl rfl (beq_ff H50)) rfl rfl (by kernel_rfl) rfl ?_
     refine TA.ite (b := decide (S38 > (0 : Int))) (fun H51 => ?_) (fun H51 => ?_)
     ·refine TA.y 13 [0] rfl (Y.field_box kf33_3 rfl rfl) (Gd.at 12 true 106 (decide (S38 > (0 : Int))) rfl rfl rfl (beq_tt H51)) rfl rfl (by kernel_rfl) rfl ?_
      refine TA.y 14 [0] rfl (Y.load_box (v := V_e3) 0 kk24 rfl rfl rfl) (Gd.at 12 true 106 (decide (S38 > (0 : Int))) rfl rfl rfl (beq_tt H51)) rfl rfl (by kernel_rfl) rfl ?_
      refine TA.y 15 [0] rfl (Y.move rfl) (Gd.at 12 true 106 (decide (S38 > (0 : Int))) rfl rfl rfl (beq_tt H51)) rfl rfl (by kernel_rfl) rfl ?_
      refine TA.y 16 [0] rfl (Y.sub rfl rfl) (Gd.at 12 true 106 (decide (S38 > (0 : Int))) rfl rfl rfl (beq_tt H51)) rfl rfl (by kernel_rfl) rfl ?_
      refine TA.bind fun E52 H53 => ?_
      refine TA.y 17 [0] rfl (Y.index ke24 (Base.can HB_V_e3) H53 rfl rfl) (Gd.at 12 true 106 (decide (S38 > (0 : Int))) rfl rfl rfl (beq_tt H51)) rfl rfl (by kernel_rfl) rfl ?_
      refine TA.y 18 [0] rfl (Y.load_el (us := [.int .i64 E52]) (u := .int .i64 E52) kk3 rfl (Base.can HB_V_e3) (idx_get H53).2.2 rfl rfl rfl rfl rfl) (Gd.at 12 true 106 (decide (S38 > (0 : Int))) rfl rfl rfl (beq_tt H51)) rfl rfl (by kernel_rfl) rfl ?_
      refine TA.y 19 [0] rfl (Y.field_box kf33_3 rfl rfl) (Gd.at 12 true 106 (decide (S38 > (0 : Int))) rfl rfl rfl (beq_tt H51)) rfl rfl (by kernel_rfl) rfl ?_
      refine TA.y 20 [0] rfl (Y.load_box (v := V_e3) 0 kk24 rfl rfl rfl) (Gd.at 12 true 106 (decide (S38 > (0 : Int))) rfl rfl rfl (beq_tt H51)) rfl rfl (by kernel_rfl) rfl ?_
      refine TA.y 21 [0] rfl (Y.move rfl) (Gd.at 12 true 106 (decide (S38 > (0 : Int))) rfl rfl rfl (beq_tt H51)) rfl rfl (by kernel_rfl) rfl ?_
      refine TA.y 22 [0] rfl (Y.index ke24 (Base.can HB_V_e3) H46 rfl rfl) (Gd.at 12 true 106 (decide (S38 > (0 : Int))) rfl rfl rfl (beq_tt H51)) rfl rfl (by kernel_rfl) rfl ?_
      refine TA.y 23 [0] rfl (Y.load_el (us := [.int .i64 E45]) (u := .int .i64 E45) kk3 rfl (Base.can HB_V_e3) (idx_get H46).2.2 rfl rfl rfl rfl rfl) (Gd.at 12 true 106 (decide (S38 > (0 : Int))) rfl rfl rfl (beq_tt H51)) rfl rfl (by kernel_rfl) rfl ?_
      refine TA.y 24 [0] rfl (Y.geq rfl rfl) (Gd.at 12 true 106 (decide (S38 > (0 : Int))) rfl rfl rfl (beq_tt H51)) rfl rfl (by kernel_rfl) rfl ?_
      refine TA.y 25 [0] rfl (Y.pick_t H51 rfl rfl) (Gd.at 9 false 103 (!R47) rfl rfl rfl (beq_ff H50)) rfl rfl (by kernel_rfl) rfl ?_
      refine TA.y 26 [0] rfl (Y.pick_f H50 rfl rfl) rfl rfl rfl (by kernel_rfl) rfl ?_
      refine TA.nil (by kernel_rfl) ?_
      exact TE.jb_go () [0] ⟨rfl, rfl, rfl, rfl, trivial⟩ rfl
     refine TA.off 13 [0] rfl (Gd.at 12 true 106 (decide (S38 > (0 : Int))) rfl rfl rfl (beq_ft H51)) rfl rfl (by kernel_rfl) rfl ?_
     refine TA.off 14 [0] rfl (Gd.at 12 true 106 (decide (S38 > (0 : Int))) rfl rfl rfl (beq_ft H51)) rfl rfl (by kernel_rfl) rfl ?_
     refine TA.off 15 [0] rfl (Gd.at 12 true 106 (decide (S38 > (0 : Int))) rfl rfl rfl (beq_ft H51)) rfl rfl (by kernel_rfl) rfl ?_
     refine TA.off 16 [0] rfl (Gd.at 12 true 106 (decide (S38 > (0 : Int))) rfl rfl rfl (beq_ft H51)) rfl rfl (by kernel_rfl) rfl ?_
     refine TA.off 17 [0] rfl (Gd.at 12 true 106 (decide (S38 > (0 : Int))) rfl rfl rfl (beq_ft H51)) rfl rfl (by kernel_rfl) rfl ?_
     refine TA.off 18 [0] rfl (Gd.at 12 true 106 (decide (S38 > (0 : Int))) rfl rfl rfl (beq_ft H51)) rfl rfl (by kernel_rfl) rfl ?_
     refine TA.off 19 [0] rfl (Gd.at 12 true 106 (decide (S38 > (0 : Int))) rfl rfl rfl (beq_ft H51)) rfl rfl (by kernel_rfl) rfl ?_
     refine TA.off 20 [0] rfl (Gd.at 12 true 106 (decide (S38 > (0 : Int))) rfl rfl rfl (beq_ft H51)) rfl rfl (by kernel_rfl) rfl ?_
     refine TA.off 21 [0] rfl (Gd.at 12 true 106 (decide (S38 > (0 : Int))) rfl rfl rfl (beq_ft H51)) rfl rfl (by kernel_rfl) rfl ?_
     refine TA.off 22 [0] rfl (Gd.at 12 true 106 (decide (S38 > (0 : Int))) rfl rfl rfl (beq_ft H51)) rfl rfl (by kernel_rfl) rfl ?_
     refine TA.off 23 [0] rfl (Gd.at 12 true 106 (decide (S38 > (0 : Int))) rfl rfl rfl (beq_ft H51)) rfl rfl (by kernel_rfl) rfl ?_
     refine TA.off 24 [0] rfl (Gd.at 12 true 106 (decide (S38 > (0 : Int))) rfl rfl rfl (beq_ft H51)) rfl rfl (by kernel_rfl) rfl ?_
     refine TA.y 25 [0] rfl (Y.pick_f H51 rfl rfl) (Gd.at 9 false 103 (!R47) rfl rfl rfl (beq_ff H50)) rfl rfl (by kernel_rfl) rfl ?_
     refine TA.y 26 [0] rfl (Y.pick_f H50 rfl rfl) rfl rfl rfl (by kernel_rfl) rfl ?_
     refine TA.nil (by kernel_rfl) ?_
     exact TE.jb_go () [0] ⟨rfl, rfl, rfl, rfl, trivial⟩ rfl
    refine TE.next ?_
    refine TW.cond rfl (fun H54 => ?_) (fun H54 => ?_)
    ·refine TW.seq ?_
     refine TW.region ?_
     refine TO.y (Y.assign rfl) rfl rfl rfl ?_
     refine TO.nil ?_
     refine TE.next ?_
     refine TW.ret ?_
     refine TE.block_ret ?_
     refine TE.then_ret ?_
     refine TE.lp_ret ?_
     refine TE.block_ret ?_
     refine TE.jn_done ?_
     refine TE.then_ret ?_
     exact TE.leaf fun _ _ hf_ hs_ => ret_any (rs := [.tmp 2]) (vs := [.bool false]) (.inl rfl) rfl ⟨rfl, trivial⟩ hf_ hs_ ⟨(), rfl, hs_.pulls [] rfl⟩
    refine TW.skip ?_
    refine TE.block_normal ?_
    refine TE.next ?_
    refine TW.region ?_
    refine TO.y (Y.move rfl) rfl rfl rfl ?_
    refine TO.y (Y.add rfl rfl) rfl rfl rfl ?_
    refine TO.y (Y.assign rfl) rfl rfl rfl ?_
    refine TO.nil ?_
    exact TE.lp_go () [0] ⟨rfl, rfl, rfl, trivial⟩ rfl
   refine TW.exit ?_
   refine TE.then_exit ?_
   refine TE.lp_exit ?_
   refine TE.block_exit ?_
   exact TE.jn_go () [] ⟨rfl, trivial⟩ rfl
  refine TE.next ?_
  refine TW.seq ?_
  refine TW.region ?_
  refine TO.y (Y.move rfl) rfl rfl rfl ?_
  refine TO.y (Y.leq rfl rfl) rfl rfl rfl ?_
  refine TO.y (Y.assign rfl) rfl rfl rfl ?_
  refine TO.nil ?_
  refine TE.next ?_
  refine TW.ret ?_
  exact TE.leaf fun _ _ hf_ hs_ => ret_any (rs := [.tmp 2]) (vs := [.bool (decide (T20 ≤ (400 : Int)))]) (.inl rfl) rfl ⟨rfl, trivial⟩ hf_ hs_ ⟨(), rfl, hs_.pulls [] rfl⟩

/-- loop.example/g00950/spec.MergeEnts -/
noncomputable def spec_MergeEnts (l : List (List Ent)) : Option (List Ent) :=
  bindC (loopO (fun (S2 : Int × List Ent) => if (decide (S2.1 < ((l.length : Nat) : Int))) = true then (((idx l S2.1).bind fun E9 =>
  (spec_l9Ents E9).bind fun R12 =>
  if (!R12) = true then (some true)
  else (if (decide (((E9.length : Nat) : Int) > (400 : Int))) = true then (some true)
  else (some (decide (((S2.2.length : Nat) : Int) > (400 : Int)))))).bind (fun (T7 : Bool) =>
  if T7 = true then (some (.done (.done ([] : List Ent))))
  else ((idx l S2.1).bind fun E21 =>
  (app 48 ([] : List Ent) E21).bind fun E25 =>
  bindC (loopO (fun (S28 : Int × Int × List Ent) => if (decide (S28.2.1 < ((S2.2.length : Nat) : Int))) = true then (bindC (loopO (fun (S33 : Int × List Ent) => (if (decide (S33.1 < ((E25.length : Nat) : Int))) = true then ((idx E25 S33.1).bind fun E40 =>
  (idx S2.2 S28.2.1).bind fun E42 =>
  (spec_l9Ahead E40 E42).bind fun R44 =>
  some R44)
  else (some false)).bind (fun (T37 : Bool) =>
  if T37 = true then ((idx E25 S33.1).bind fun E48 =>
  (app 48 S33.2 ([E48])).bind fun E52 =>
  some (.go (IntKind.i64.wrap (S33.1 + (1 : Int)), E52)))
  else (some (.done (.go (S33.1, S33.2))))))
  (S28.1, S28.2.2))
  (fun (T35 : Int × List Ent) => (if (decide (T35.1 < ((E25.length : Nat) : Int))) = true then ((idx S2.2 S28.2.1).bind fun E57 =>
  (idx E25 T35.1).bind fun E59 =>
  (spec_l9Ahead E57 E59).bind fun R61 =>
  some (!R61))
  else (some false)).bind (fun (T54 : Bool) =>
  bindC (if T54 = true then (some (.go (IntKind.i64.wrap (T35.1 + (1 : Int)))))
  else (some (.go T35.1)))
  (fun (T64 : Int) => (idx S2.2 S28.2.1).bind fun E67 =>
  (app 48 T35.2 ([E67])).bind fun E71 =>
  some (.go (T64, IntKind.i64.wrap (S28.2.1 + (1 : Int)), E71))))))
  else (some (.done (.go (S28.1, S28.2.2)))))
  ((0 : Int), (0 : Int), ([] : List Ent)))
  (fun (T30 : Int × List Ent) => (piece E25 T30.1 ((E25.length : Nat) : Int)).bind fun E73 =>
  (app 48 T30.2 E73).bind fun E76 =>
  some (.go (IntKind.i64.wrap (S2.1 + (1 : Int)), E76))))))
  else (some (.done (.go S2.2))))
  ((0 : Int), ([] : List Ent)))
  (fun (T4 : List Ent) => bindC (loopO (fun (S78 : Int × Int) => if (decide (S78.2 < ((l.length : Nat) : Int))) = true then ((idx l S78.2).bind fun E83 =>
  some (.go (IntKind.i64.wrap (S78.1 + ((E83.length : Nat) : Int)), IntKind.i64.wrap (S78.2 + (1 : Int)))))
  else (some (.done (.go S78.1))))
  ((0 : Int), (0 : Int)))
  (fun (T80 : Int) => if (decide (T80 > (400 : Int))) = true then (some ([] : List Ent))
  else (some T4)))

theorem spec_MergeEnts_con (l : List (List Ent)) (V_l0 : Value) (r : List Ent) (hm : spec_MergeEnts l = some r) :
    Con Try.prog 43 [V_l0] [] [(V_l0, lc l)] (fun X : Value => X) (fun X => [.own X (lc r)]) := by
  refine Con.intro (args := [V_l0]) (n := 122) (val := fun _ (X : Value) => X) (post := fun r X => [.own X (lc r)]) (m := spec_MergeEnts l) Try.func43 rfl rfl rfl hm ?_
  intro w S hrd
  have HB_V_l0 := hrd _ (.head _)
  clear hrd
  unfold spec_MergeEnts
  refine TW.seq ?_
  refine TW.region ?_
  refine TO.y (Y.assign rfl) rfl rfl rfl ?_
  refine TO.nil ?_
  refine TE.next ?_
  refine TW.seq ?_
  refine TW.region ?_
  refine TO.ef (Ef.buildSlice (α := Ent) (Vs := []) ([] : List Ent) ke30 kz48 rfl rfl rfl rfl rfl) rfl rfl rfl (fun B1 => ?_)
  refine TO.y (Y.assign rfl) rfl rfl rfl ?_
  refine TO.nil ?_
  refine TE.next ?_
  refine TW.seq ?_
  refine TW.seq ?_
  refine TW.region ?_
  refine TO.y (Y.assign rfl) rfl rfl rfl ?_
  refine TO.nil ?_
  refine TE.next ?_
  refine TW.joinX (τ := List Ent) (X := Value) (fun _ X => [(0, V_l0), (3, X)]) (fun T X => [.own X (lc T)]) ?_ (fun T4 X5 => ?_)
  ·refine TW.block ?_
   refine TW.loopX (σ := Int × List Ent) (X := Value) (fun T X => [(0, V_l0), (3, X), (4, .int .i64 T.1)]) (fun T X => [.own X (lc T.2)]) (.slice (some ⟨B1, 0, none⟩) 0 0) [0] ⟨rfl, rfl, rfl, trivial⟩ rfl (fun S2 X3 => ?_)
   refine TW.seq ?_
   refine TW.seq ?_
   refine TW.region ?_
   refine TO.y (Y.move rfl) rfl rfl rfl ?_
   refine TO.y (Y.move rfl) rfl rfl rfl ?_
   refine TO.y (Y.len (l := l) ke31 (Base.can HB_V_l0) rfl) rfl rfl rfl ?_
   refine TO.y (Y.lss rfl rfl) rfl rfl rfl ?_
   refine TO.nil ?_
   refine TE.next ?_
   refine TW.cond rfl (fun H6 => ?_) (fun H6 => ?_)
   ·refine TW.skip ?_
    refine TE.next ?_
    refine TW.seq ?_
    refine TW.block ?_
    refine TW.seq ?_
    refine TW.seq ?_
    refine TW.joinBX (τ := Bool) (X := Unit) (fun T _ => [(0, V_l0), (3, X3), (4, .int .i64 S2.1), (36, .bool T)]) (fun _ _ => [.own X3 (lc S2.2)]) ?_ (fun T7 X8 => ?_)
    ·refine TW.region ?_
     refine TO.y (Y.move rfl) rfl rfl rfl ?_
     refine TO.y (Y.move rfl) rfl rfl rfl ?_
     refine TO.bind fun E9 H10 => ?_
     refine TO.y (Y.index ke31 (Base.can HB_V_l0) H10 rfl rfl) rfl rfl rfl ?_
     have Q11 : Base w S (elv w V_l0 (S2.1.toNat * 1 + 0)) (lc E9) := Base.el HB_V_l0 (idx_get H10).2.2 rfl rfl
     refine TO.y (Y.load_base (α := List Ent) (u := (elv w V_l0 (S2.1.toNat * 1 + 0))) kk30 rfl HB_V_l0 (idx_get H10).2.2 rfl rfl rfl rfl rfl) rfl rfl rfl ?_
     refine TO.bind fun R12 H13 => ?_
     refine TO.ef (Ef.call (rest := [.own X3 (lc S2.2)]) [0] (spec_l9Ents_con E9 (elv w V_l0 (S2.1.toNat * 1 + 0)) R12 H13) kc42 rfl rfl ⟨(Base.can Q11), trivial⟩) rfl rfl rfl (fun _ => ?_)
     refine TO.y (Y.not rfl) rfl rfl rfl ?_
     refine TO.y (Y.move rfl) rfl rfl rfl ?_
     refine TO.ite (b := !R12) (fun H15 => ?_) (fun H15 => ?_)
     ·refine TO.off (Gd.at 6 false 24 (!R12) rfl rfl rfl (beq_tf H15)) rfl rfl ?_
      refine TO.off (Gd.at 6 false 24 (!R12) rfl rfl rfl (beq_tf H15)) rfl rfl ?_
      refine TO.off (Gd.at 6 false 24 (!R12) rfl rfl rfl (beq_tf H15)) rfl rfl ?_
      refine TO.off (Gd.at 6 false 24 (!R12) rfl rfl rfl (beq_tf H15)) rfl rfl ?_
      refine TO.off (Gd.at 6 false 24 (!R12) rfl rfl rfl (beq_tf H15)) rfl rfl ?_
      refine TO.off (Gd.at 6 false 24 (!R12) rfl rfl rfl (beq_tf H15)) rfl rfl ?_
      refine TO.y (Y.pick_t H15 rfl rfl) rfl rfl rfl ?_
      refine TO.y (Y.move rfl) rfl rfl rfl ?_
      refine TO.off (Gd.at 14 false 32 true rfl rfl rfl rfl) rfl rfl ?_
      refine TO.off (Gd.at 14 false 32 true rfl rfl rfl rfl) rfl rfl ?_
      refine TO.off (Gd.at 14 false 32 true rfl rfl rfl rfl) rfl rfl ?_
      refine TO.y (Y.pick_t rfl rfl rfl) rfl rfl rfl ?_
      refine TO.nil ?_
      exact TE.jb_go () [0] ⟨rfl, rfl, rfl, rfl, trivial⟩ rfl
     refine TO.y (Y.move rfl) (Gd.at 6 false 24 (!R12) rfl rfl rfl (beq_ff H15)) rfl rfl ?_
     refine TO.y (Y.move rfl) (Gd.at 6 false 24 (!R12) rfl rfl rfl (beq_ff H15)) rfl rfl ?_
     refine TO.y (Y.index ke31 (Base.can HB_V_l0) H10 rfl rfl) (Gd.at 6 false 24 (!R12) rfl rfl rfl (beq_ff H15)) rfl rfl ?_
     have Q16 : Base w S (elv w V_l0 (S2.1.toNat * 1 + 0)) (lc E9) := Base.el HB_V_l0 (idx_get H10).2.2 rfl rfl
     refine TO.y (Y.load_base (α := List Ent) (u := (elv w V_l0 (S2.1.toNat * 1 + 0))) kk30 rfl HB_V_l0 (idx_get H10).2.2 rfl rfl rfl rfl rfl) (Gd.at 6 false 24 (!R12) rfl rfl rfl (beq_ff H15)) rfl rfl ?_
     refine TO.y (Y.len (l := E9) ke30 (Base.can Q16) rfl) (Gd.at 6 false 24 (!R12) rfl rfl rfl (beq_ff H15)) rfl rfl ?_
     refine TO.y (Y.gtr rfl rfl) (Gd.at 6 false 24 (!R12) rfl rfl rfl (beq_ff H15)) rfl rfl ?_
     refine TO.y (Y.pick_f H15 rfl rfl) rfl rfl rfl ?_
     refine TO.y (Y.move rfl) rfl rfl rfl ?_
     refine TO.ite (b := decide (((E9.length : Nat) : Int) > (400 : Int))) (fun H17 => ?_) (fun H17 => ?_)
     ·refine TO.off (Gd.at 14 false 32 (decide (((E9.length : Nat) : Int) > (400 : Int))) rfl rfl rfl (beq_tf H17)) rfl rfl ?_
      refine TO.off (Gd.at 14 false 32 (decide (((E9.length : Nat) : Int) > (400 : Int))) rfl rfl rfl (beq_tf H17)) rfl rfl ?_
      refine TO.off (Gd.at 14 false 32 (decide (((E9.length : Nat) : Int) > (400 : Int))) rfl rfl rfl (beq_tf H17)) rfl rfl ?_
      refine TO.y (Y.pick_t H17 rfl rfl) rfl rfl rfl ?_
      refine TO.nil ?_
      exact TE.jb_go () [0] ⟨rfl, rfl, rfl, rfl, trivial⟩ rfl
     refine TO.y (Y.move rfl) (Gd.at 14 false 32 (decide (((E9.length : Nat) : Int) > (400 : Int))) rfl rfl rfl (beq_ff H17)) rfl rfl ?_
     refine TO.y (Y.len (l := S2.2) ke30 (Can.own 0 rfl) rfl) (Gd.at 14 false 32 (decide (((E9.length : Nat) : Int) > (400 : Int))) rfl rfl rfl (beq_ff H17)) rfl rfl ?_
     refine TO.y (Y.gtr rfl rfl) (Gd.at 14 false 32 (decide (((E9.length : Nat) : Int) > (400 : Int))) rfl rfl rfl (beq_ff H17)) rfl rfl ?_
     refine TO.y (Y.pick_f H17 rfl rfl) rfl rfl rfl ?_
     refine TO.nil ?_
     exact TE.jb_go () [0] ⟨rfl, rfl, rfl, rfl, trivial⟩ rfl
    refine TE.next ?_
    refine TW.cond rfl (fun H18 => ?_) (fun H18 => ?_)
    ·refine TW.seq ?_
     refine TW.region ?_
     refine TO.ef (Ef.buildSlice (α := Ent) (Vs := []) ([] : List Ent) ke30 kz48 rfl rfl rfl rfl rfl) rfl rfl rfl (fun B19 => ?_)
     refine TO.y (Y.assign rfl) rfl rfl rfl ?_
     refine TO.nil ?_
     refine TE.next ?_
     refine TW.ret ?_
     refine TE.then_ret ?_
     refine TE.block_ret ?_
     refine TE.then_ret ?_
     refine TE.lp_ret ?_
     refine TE.block_ret ?_
     refine TE.jn_done ?_
     refine TE.then_ret ?_
     exact TE.leaf fun _ _ hf_ hs_ => ret_any (rs := [.tmp 2]) (vs := [.slice (some ⟨B19, 0, none⟩) 0 0]) (.inl rfl) rfl ⟨rfl, trivial⟩ hf_ hs_ ⟨(.slice (some ⟨B19, 0, none⟩) 0 0), rfl, hs_.pulls [0] rfl⟩
    refine TW.skip ?_
    refine TE.next ?_
    refine TW.seq ?_
    refine TW.region ?_
    refine TO.ef (Ef.buildSlice (α := Ent) (Vs := []) ([] : List Ent) ke30 kz48 rfl rfl rfl rfl rfl) rfl rfl rfl (fun B20 => ?_)
    refine TO.y (Y.move rfl) rfl rfl rfl ?_
    refine TO.y (Y.move rfl) rfl rfl rfl ?_
    refine TO.bind fun E21 H22 => ?_
    refine TO.y (Y.index ke31 (Base.can HB_V_l0) H22 rfl rfl) rfl rfl rfl ?_
    have Q23 : Base w S (elv w V_l0 (S2.1.toNat * 1 + 0)) (lc E21) := Base.el HB_V_l0 (idx_get H22).2.2 rfl rfl
    refine TO.y (Y.load_base (α := List Ent) (u := (elv w V_l0 (S2.1.toNat * 1 + 0))) kk30 rfl HB_V_l0 (idx_get H22).2.2 rfl rfl rfl rfl rfl) rfl rfl rfl ?_
    refine TO.bind fun E25 H26 => ?_
    refine TO.ef (Ef.append (α := Ent) (is' := [.own X3 (lc S2.2)]) [0, 0] H26 ke30 kz48 rfl rfl rfl rfl rfl (Base.can Q23)) rfl rfl rfl (fun V24 => ?_)
    refine TO.y (Y.assign rfl) rfl rfl rfl ?_
    refine TO.nil ?_
    refine TE.next ?_
    refine TW.seq ?_
    refine TW.region ?_
    refine TO.ef (Ef.buildSlice (α := Ent) (Vs := []) ([] : List Ent) ke30 kz48 rfl rfl rfl rfl rfl) rfl rfl rfl (fun B27 => ?_)
    refine TO.y (Y.assign rfl) rfl rfl rfl ?_
    refine TO.nil ?_
    refine TE.next ?_
    refine TW.seq ?_
    refine TW.region ?_
    refine TO.y (Y.assign rfl) rfl rfl rfl ?_
    refine TO.nil ?_
    refine TE.next ?_
    refine TW.seq ?_
    refine TW.seq ?_
    refine TW.region ?_
    refine TO.y (Y.assign rfl) rfl rfl rfl ?_
    refine TO.nil ?_
    refine TE.next ?_
    refine TW.joinX (τ := Int × List Ent) (X := Value) (fun T X => [(0, V_l0), (4, .int .i64 S2.1), (5, V24), (6, X), (7, .int .i64 T.1)]) (fun T X => [.own V24 (lc E25), .own X (lc T.2)]) ?_ (fun T30 X31 => ?_)
    ·refine TW.block ?_
     refine TW.loopX (σ := Int × Int × List Ent) (X := Value) (fun T X => [(0, V_l0), (3, X3), (4, .int .i64 S2.1), (5, V24), (6, X), (7, .int .i64 T.1), (8, .int .i64 T.2.1)]) (fun T X => [.own X3 (lc S2.2), .own V24 (lc E25), .own X (lc T.2.2)]) (.slice (some ⟨B27, 0, none⟩) 0 0) [2, 1, 0] ⟨rfl, rfl, rfl, rfl, rfl, rfl, rfl, trivial⟩ rfl (fun S28 X29 => ?_)
     refine TW.seq ?_
     refine TW.seq ?_
     refine TW.region ?_
     refine TO.y (Y.move rfl) rfl rfl rfl ?_
     refine TO.y (Y.move rfl) rfl rfl rfl ?_
     refine TO.y (Y.len (l := S2.2) ke30 (Can.own 0 rfl) rfl) rfl rfl rfl ?_
     refine TO.y (Y.lss rfl rfl) rfl rfl rfl ?_
     refine TO.nil ?_
     refine TE.next ?_
     refine TW.cond rfl (fun H32 => ?_) (fun H32 => ?_)
     ·refine TW.skip ?_
      refine TE.next ?_
      refine TW.seq ?_
      refine TW.block ?_
      refine TW.seq ?_
      refine TW.joinX (τ := Int × List Ent) (X := Value) (fun T X => [(0, V_l0), (3, X3), (4, .int .i64 S2.1), (5, V24), (6, X), (7, .int .i64 T.1), (8, .int .i64 S28.2.1)]) (fun T X => [.own X3 (lc S2.2), .own V24 (lc E25), .own X (lc T.2)]) ?_ (fun T35 X36 => ?_)
      ·refine TW.block ?_
       refine TW.loopX (σ := Int × List Ent) (X := Value) (fun T X => [(0, V_l0), (3, X3), (4, .int .i64 S2.1), (5, V24), (6, X), (7, .int .i64 T.1), (8, .int .i64 S28.2.1)]) (fun T X => [.own X3 (lc S2.2), .own V24 (lc E25), .own X (lc T.2)]) X29 [0, 0, 0] ⟨rfl, rfl, rfl, rfl, rfl, rfl, rfl, trivial⟩ rfl (fun S33 X34 => ?_)
       refine TW.seq ?_
       refine TW.seq ?_
       refine TW.joinBX (τ := Bool) (X := Unit) (fun T _ => [(0, V_l0), (3, X3), (4, .int .i64 S2.1), (5, V24), (6, X34), (7, .int .i64 S33.1), (8, .int .i64 S28.2.1), (65, .bool T)]) (fun _ _ => [.own X3 (lc S2.2), .own V24 (lc E25), .own X34 (lc S33.2)]) ?_ (fun T37 X38 => ?_)
       ·refine TW.draw (isH := [.own X3 (lc S2.2), .own V24 (lc E25), .own X34 (lc S33.2)]) hMix ?_
        refine TA.y 0 [0, 0, 0] rfl (Y.move rfl) rfl rfl rfl (by kernel_rfl) rfl ?_
        refine TA.y 1 [0, 0, 0] rfl (Y.move rfl) rfl rfl rfl (by kernel_rfl) rfl ?_
        refine TA.y 2 [0, 0, 0] rfl (Y.len (l := E25) ke30 (Can.own 1 rfl) rfl) rfl rfl rfl (by kernel_rfl) rfl ?_
        refine TA.y 3 [0, 0, 0] rfl (Y.lss rfl rfl) rfl rfl rfl (by kernel_rfl) rfl ?_
        refine TA.y 4 [0, 0, 0] rfl (Y.move rfl) rfl rfl rfl (by kernel_rfl) rfl ?_
        refine TA.ite (b := decide (S33.1 < ((E25.length : Nat) : Int))) (fun H39 => ?_) (fun H39 => ?_)
        ·refine TA.y 5 [0, 0, 0] rfl (Y.move rfl) (Gd.at 4 true 55 (decide (S33.1 < ((E25.length : Nat) : Int))) rfl rfl rfl (beq_tt H39)) rfl rfl (by kernel_rfl) rfl ?_
         refine TA.y 6 [0, 0, 0] rfl (Y.move rfl) (Gd.at 4 true 55 (decide (S33.1 < ((E25.length : Nat) : Int))) rfl rfl rfl (beq_tt H39)) rfl rfl (by kernel_rfl) rfl ?_
         refine TA.bind fun E40 H41 => ?_
         refine TA.y 7 [0, 0, 0] rfl (Y.index ke30 (Can.own 1 rfl) H41 rfl rfl) (Gd.at 4 true 55 (decide (S33.1 < ((E25.length : Nat) : Int))) rfl rfl rfl (beq_tt H39)) rfl rfl (by kernel_rfl) rfl ?_
         refine TA.y 8 [0, 0, 0] rfl (Y.load_el (us := [strV E40.Key, .int .i64 E40.Seq, .bool E40.Del, strV E40.Val]) (u := .agg #[strV E40.Key, .int .i64 E40.Seq, .bool E40.Del, strV E40.Val]) kk48 rfl (Can.own 1 rfl) (idx_get H41).2.2 rfl rfl rfl rfl rfl) (Gd.at 4 true 55 (decide (S33.1 < ((E25.length : Nat) : Int))) rfl rfl rfl (beq_tt H39)) rfl rfl (by kernel_rfl) rfl ?_
         refine TA.y 9 [0, 0, 0] rfl (Y.move rfl) (Gd.at 4 true 55 (decide (S33.1 < ((E25.length : Nat) : Int))) rfl rfl rfl (beq_tt H39)) rfl rfl (by kernel_rfl) rfl ?_
         refine TA.y 10 [0, 0, 0] rfl (Y.move rfl) (Gd.at 4 true 55 (decide (S33.1 < ((E25.length : Nat) : Int))) rfl rfl rfl (beq_tt H39)) rfl rfl (by kernel_rfl) rfl ?_
         refine TA.bind fun E42 H43 => ?_
         refine TA.y 11 [0, 0, 0] rfl (Y.index ke30 (Can.own 0 rfl) H43 rfl rfl) (Gd.at 4 true 55 (decide (S33.1 < ((E25.length : Nat) : Int))) rfl rfl rfl (beq_tt H39)) rfl rfl (by kernel_rfl) rfl ?_
         refine TA.y 12 [0, 0, 0] rfl (Y.load_el (us := [strV E42.Key, .int .i64 E42.Seq, .bool E42.Del, strV E42.Val]) (u := .agg #[strV E42.Key, .int .i64 E42.Seq, .bool E42.Del, strV E42.Val]) kk48 rfl (Can.own 0 rfl) (idx_get H43).2.2 rfl rfl rfl rfl rfl) (Gd.at 4 true 55 (decide (S33.1 < ((E25.length : Nat) : Int))) rfl rfl rfl (beq_tt H39)) rfl rfl (by kernel_rfl) rfl ?_
         refine TA.bind fun R44 H45 => ?_
         refine TA.one 13 (by kernel_rfl) ?_
         refine TX.ef [0, 0, 0] rfl (Ef.call (rest := [.own X3 (lc S2.2), .own V24 (lc E25), .own X34 (lc S33.2)]) [0, 0, 0] (spec_l9Ahead_con E40 E42  R44 H45) kc52 rfl rfl trivial) (Gd.at 4 true 55 (decide (S33.1 < ((E25.length : Nat) : Int))) rfl rfl rfl (beq_tt H39)) rfl rfl (fun _ => rfl) (fun _ => ?_)
         refine TA.y 14 [0, 0, 0] rfl (Y.pick_t H39 rfl rfl) rfl rfl rfl (by kernel_rfl) rfl ?_
         refine TA.nil (by kernel_rfl) ?_
         exact TE.jb_go () [0, 0, 0] ⟨rfl, rfl, rfl, rfl, rfl, rfl, rfl, rfl, trivial⟩ rfl
        refine TA.off 5 [0, 0, 0] rfl (Gd.at 4 true 55 (decide (S33.1 < ((E25.length : Nat) : Int))) rfl rfl rfl (beq_ft H39)) rfl rfl (by kernel_rfl) rfl ?_
        refine TA.off 6 [0, 0, 0] rfl (Gd.at 4 true 55 (decide (S33.1 < ((E25.length : Nat) : Int))) rfl rfl rfl (beq_ft H39)) rfl rfl (by kernel_rfl) rfl ?_
        refine TA.off 7 [0, 0, 0] rfl (Gd.at 4 true 55 (decide (S33.1 < ((E25.length : Nat) : Int))) rfl rfl rfl (beq_ft H39)) rfl rfl (by kernel_rfl) rfl ?_
        refine TA.off 8 [0, 0, 0] rfl (Gd.at 4 true 55 (decide (S33.1 < ((E25.length : Nat) : Int))) rfl rfl rfl (beq_ft H39)) rfl rfl (by kernel_rfl) rfl ?_
        refine TA.off 9 [0, 0, 0] rfl (Gd.at 4 true 55 (decide (S33.1 < ((E25.length : Nat) : Int))) rfl rfl rfl (beq_ft H39)) rfl rfl (by kernel_rfl) rfl ?_
        refine TA.off 10 [0, 0, 0] rfl (Gd.at 4 true 55 (decide (S33.1 < ((E25.length : Nat) : Int))) rfl rfl rfl (beq_ft H39)) rfl rfl (by kernel_rfl) rfl ?_
        refine TA.off 11 [0, 0, 0] rfl (Gd.at 4 true 55 (decide (S33.1 < ((E25.length : Nat) : Int))) rfl rfl rfl (beq_ft H39)) rfl rfl (by kernel_rfl) rfl ?_
        refine TA.off 12 [0, 0, 0] rfl (Gd.at 4 true 55 (decide (S33.1 < ((E25.length : Nat) : Int))) rfl rfl rfl (beq_ft H39)) rfl rfl (by kernel_rfl) rfl ?_
        refine TA.off 13 [0, 0, 0] rfl (Gd.at 4 true 55 (decide (S33.1 < ((E25.length : Nat) : Int))) rfl rfl rfl (beq_ft H39)) rfl rfl (by kernel_rfl) rfl ?_
        refine TA.y 14 [0, 0, 0] rfl (Y.pick_f H39 rfl rfl) rfl rfl rfl (by kernel_rfl) rfl ?_
        refine TA.nil (by kernel_rfl) ?_
        exact TE.jb_go () [0, 0, 0] ⟨rfl, rfl, rfl, rfl, rfl, rfl, rfl, rfl, trivial⟩ rfl
       refine TE.next ?_
       refine TW.cond rfl (fun H47 => ?_) (fun H47 => ?_)
       ·refine TW.skip ?_
        refine TE.next ?_
        refine TW.block ?_
        refine TW.seq ?_
        refine TW.region ?_
        refine TO.y (Y.move rfl) rfl rfl rfl ?_
        refine TO.y (Y.move rfl) rfl rfl rfl ?_
        refine TO.y (Y.move rfl) rfl rfl rfl ?_
        refine TO.bind fun E48 H49 => ?_
        refine TO.y (Y.index ke30 (Can.own 1 rfl) H49 rfl rfl) rfl rfl rfl ?_
        refine TO.y (Y.load_el (us := [strV E48.Key, .int .i64 E48.Seq, .bool E48.Del, strV E48.Val]) (u := .agg #[strV E48.Key, .int .i64 E48.Seq, .bool E48.Del, strV E48.Val]) kk48 rfl (Can.own 1 rfl) (idx_get H49).2.2 rfl rfl rfl rfl rfl) rfl rfl rfl ?_
        refine TO.ef (Ef.buildSlice (α := Ent) (Vs := [.agg #[strV E48.Key, .int .i64 E48.Seq, .bool E48.Del, strV E48.Val]]) [E48] ke30 kz48 rfl rfl rfl rfl rfl) rfl rfl rfl (fun B50 => ?_)
        refine TO.bind fun E52 H53 => ?_
        refine TO.ef (Ef.append (α := Ent) (is' := [.own (.slice (some ⟨B50, 0, none⟩) 1 1) (lc ([E48])), .own X3 (lc S2.2), .own V24 (lc E25)]) [3, 0, 0, 0] H53 ke30 kz48 rfl rfl rfl rfl rfl (Can.own 0 rfl)) rfl rfl rfl (fun V51 => ?_)
        refine TO.y (Y.assign rfl) rfl rfl rfl ?_
        refine TO.nil ?_
        refine TE.next ?_
        refine TW.region ?_
        refine TO.y (Y.move rfl) rfl rfl rfl ?_
        refine TO.y (Y.add rfl rfl) rfl rfl rfl ?_
        refine TO.y (Y.assign rfl) rfl rfl rfl ?_
        refine TO.nil ?_
        refine TE.block_normal ?_
        exact TE.lp_go V51 [2, 2, 0] ⟨rfl, rfl, rfl, rfl, rfl, rfl, rfl, trivial⟩ rfl
       refine TW.exit ?_
       refine TE.then_exit ?_
       refine TE.lp_exit ?_
       refine TE.block_exit ?_
       exact TE.jn_go X34 [0, 0, 0] ⟨rfl, rfl, rfl, rfl, rfl, rfl, rfl, trivial⟩ rfl
      refine TE.next ?_
      refine TW.seq ?_
      refine TW.seq ?_
      refine TW.joinBX (τ := Bool) (X := Unit) (fun T _ => [(0, V_l0), (3, X3), (4, .int .i64 S2.1), (5, V24), (6, X36), (7, .int .i64 T35.1), (8, .int .i64 S28.2.1), (90, .bool T)]) (fun _ _ => [.own X3 (lc S2.2), .own V24 (lc E25), .own X36 (lc T35.2)]) ?_ (fun T54 X55 => ?_)
      ·refine TW.draw (isH := [.own X3 (lc S2.2), .own V24 (lc E25), .own X36 (lc T35.2)]) hMix ?_
       refine TA.y 0 [0, 0, 0] rfl (Y.move rfl) rfl rfl rfl (by kernel_rfl) rfl ?_
       refine TA.y 1 [0, 0, 0] rfl (Y.move rfl) rfl rfl rfl (by kernel_rfl) rfl ?_
       refine TA.y 2 [0, 0, 0] rfl (Y.len (l := E25) ke30 (Can.own 1 rfl) rfl) rfl rfl rfl (by kernel_rfl) rfl ?_
       refine TA.y 3 [0, 0, 0] rfl (Y.lss rfl rfl) rfl rfl rfl (by kernel_rfl) rfl ?_
       refine TA.y 4 [0, 0, 0] rfl (Y.move rfl) rfl rfl rfl (by kernel_rfl) rfl ?_
       refine TA.ite (b := decide (T35.1 < ((E25.length : Nat) : Int))) (fun H56 => ?_) (fun H56 => ?_)
       ·refine TA.y 5 [0, 0, 0] rfl (Y.move rfl) (Gd.at 4 true 79 (decide (T35.1 < ((E25.length : Nat) : Int))) rfl rfl rfl (beq_tt H56)) rfl rfl (by kernel_rfl) rfl ?_
        refine TA.y 6 [0, 0, 0] rfl (Y.move rfl) (Gd.at 4 true 79 (decide (T35.1 < ((E25.length : Nat) : Int))) rfl rfl rfl (beq_tt H56)) rfl rfl (by kernel_rfl) rfl ?_
        refine TA.bind fun E57 H58 => ?_
        refine TA.y 7 [0, 0, 0] rfl (Y.index ke30 (Can.own 0 rfl) H58 rfl rfl) (Gd.at 4 true 79 (decide (T35.1 < ((E25.length : Nat) : Int))) rfl rfl rfl (beq_tt H56)) rfl rfl (by kernel_rfl) rfl ?_
        refine TA.y 8 [0, 0, 0] rfl (Y.load_el (us := [strV E57.Key, .int .i64 E57.Seq, .bool E57.Del, strV E57.Val]) (u := .agg #[strV E57.Key, .int .i64 E57.Seq, .bool E57.Del, strV E57.Val]) kk48 rfl (Can.own 0 rfl) (idx_get H58).2.2 rfl rfl rfl rfl rfl) (Gd.at 4 true 79 (decide (T35.1 < ((E25.length : Nat) : Int))) rfl rfl rfl (beq_tt H56)) rfl rfl (by kernel_rfl) rfl ?_
        refine TA.y 9 [0, 0, 0] rfl (Y.move rfl) (Gd.at 4 true 79 (decide (T35.1 < ((E25.length : Nat) : Int))) rfl rfl rfl (beq_tt H56)) rfl rfl (by kernel_rfl) rfl ?_
        refine TA.y 10 [0, 0, 0] rfl (Y.move rfl) (Gd.at 4 true 79 (decide (T35.1 < ((E25.length : Nat) : Int))) rfl rfl rfl (beq_tt H56)) rfl rfl (by kernel_rfl) rfl ?_
        refine TA.bind fun E59 H60 => ?_
        refine TA.y 11 [0, 0, 0] rfl (Y.index ke30 (Can.own 1 rfl) H60 rfl rfl) (Gd.at 4 true 79 (decide (T35.1 < ((E25.length : Nat) : Int))) rfl rfl rfl (beq_tt H56)) rfl rfl (by kernel_rfl) rfl ?_
        refine TA.y 12 [0, 0, 0] rfl (Y.load_el (us := [strV E59.Key, .int .i64 E59.Seq, .bool E59.Del, strV E59.Val]) (u := .agg #[strV E59.Key, .int .i64 E59.Seq, .bool E59.Del, strV E59.Val]) kk48 rfl (Can.own 1 rfl) (idx_get H60).2.2 rfl rfl rfl rfl rfl) (Gd.at 4 true 79 (decide (T35.1 < ((E25.length : Nat) : Int))) rfl rfl rfl (beq_tt H56)) rfl rfl (by kernel_rfl) rfl ?_
        refine TA.bind fun R61 H62 => ?_
        refine TA.one 13 (by kernel_rfl) ?_
        refine TX.ef [0, 0, 0] rfl (Ef.call (rest := [.own X3 (lc S2.2), .own V24 (lc E25), .own X36 (lc T35.2)]) [0, 0, 0] (spec_l9Ahead_con E57 E59  R61 H62) kc52 rfl rfl trivial) (Gd.at 4 true 79 (decide (T35.1 < ((E25.length : Nat) : Int))) rfl rfl rfl (beq_tt H56)) rfl rfl (fun _ => rfl) (fun _ => ?_)
        refine TA.y 14 [0, 0, 0] rfl (Y.not rfl) (Gd.at 4 true 79 (decide (T35.1 < ((E25.length : Nat) : Int))) rfl rfl rfl (beq_tt H56)) rfl rfl (by kernel_rfl) rfl ?_
        refine TA.y 15 [0, 0, 0] rfl (Y.pick_t H56 rfl rfl) rfl rfl rfl (by kernel_rfl) rfl ?_
        refine TA.nil (by kernel_rfl) ?_
        exact TE.jb_go () [0, 0, 0] ⟨rfl, rfl, rfl, rfl, rfl, rfl, rfl, rfl, trivial⟩ rfl
       refine TA.off 5 [0, 0, 0] rfl (Gd.at 4 true 79 (decide (T35.1 < ((E25.length : Nat) : Int))) rfl rfl rfl (beq_ft H56)) rfl rfl (by kernel_rfl) rfl ?_
       refine TA.off 6 [0, 0, 0] rfl (Gd.at 4 true 79 (decide (T35.1 < ((E25.length : Nat) : Int))) rfl rfl rfl (beq_ft H56)) rfl rfl (by kernel_rfl) rfl ?_
       refine TA.off 7 [0, 0, 0] rfl (Gd.at 4 true 79 (decide (T35.1 < ((E25.length : Nat) : Int))) rfl rfl rfl (beq_ft H56)) rfl rfl (by kernel_rfl) rfl ?_
       refine TA.off 8 [0, 0, 0] rfl (Gd.at 4 true 79 (decide (T35.1 < ((E25.length : Nat) : Int))) rfl rfl rfl (beq_ft H56)) rfl rfl (by kernel_rfl) rfl ?_
       refine TA.off 9 [0, 0, 0] rfl (Gd.at 4 true 79 (decide (T35.1 < ((E25.length : Nat) : Int))) rfl rfl rfl (beq_ft H56)) rfl rfl (by kernel_rfl) rfl ?_
       refine TA.off 10 [0, 0, 0] rfl (Gd.at 4 true 79 (decide (T35.1 < ((E25.length : Nat) : Int))) rfl rfl rfl (beq_ft H56)) rfl rfl (by kernel_rfl) rfl ?_
       refine TA.off 11 [0, 0, 0] rfl (Gd.at 4 true 79 (decide (T35.1 < ((E25.length : Nat) : Int))) rfl rfl rfl (beq_ft H56)) rfl rfl (by kernel_rfl) rfl ?_
       refine TA.off 12 [0, 0, 0] rfl (Gd.at 4 true 79 (decide (T35.1 < ((E25.length : Nat) : Int))) rfl rfl rfl (beq_ft H56)) rfl rfl (by kernel_rfl) rfl ?_
       refine TA.off 13 [0, 0, 0] rfl (Gd.at 4 true 79 (decide (T35.1 < ((E25.length : Nat) : Int))) rfl rfl rfl (beq_ft H56)) rfl rfl (by kernel_rfl) rfl ?_
       refine TA.off 14 [0, 0, 0] rfl (Gd.at 4 true 79 (decide (T35.1 < ((E25.length : Nat) : Int))) rfl rfl rfl (beq_ft H56)) rfl rfl (by kernel_rfl) rfl ?_
       refine TA.y 15 [0, 0, 0] rfl (Y.pick_f H56 rfl rfl) rfl rfl rfl (by kernel_rfl) rfl ?_
       refine TA.nil (by kernel_rfl) ?_
       exact TE.jb_go () [0, 0, 0] ⟨rfl, rfl, rfl, rfl, rfl, rfl, rfl, rfl, trivial⟩ rfl
      refine TE.next ?_
      refine TW.joinX (τ := Int) (X := Unit) (fun T _ => [(0, V_l0), (3, X3), (4, .int .i64 S2.1), (5, V24), (6, X36), (7, .int .i64 T), (8, .int .i64 S28.2.1)]) (fun _ _ => [.own X3 (lc S2.2), .own V24 (lc E25), .own X36 (lc T35.2)]) ?_ (fun T64 X65 => ?_)
      ·refine TW.cond rfl (fun H66 => ?_) (fun H66 => ?_)
       ·refine TW.region ?_
        refine TO.y (Y.move rfl) rfl rfl rfl ?_
        refine TO.y (Y.add rfl rfl) rfl rfl rfl ?_
        refine TO.y (Y.assign rfl) rfl rfl rfl ?_
        refine TO.nil ?_
        exact TE.jn_go () [0, 0, 0] ⟨rfl, rfl, rfl, rfl, rfl, rfl, rfl, trivial⟩ rfl
       refine TW.skip ?_
       exact TE.jn_go () [0, 0, 0] ⟨rfl, rfl, rfl, rfl, rfl, rfl, rfl, trivial⟩ rfl
      refine TE.next ?_
      refine TW.region ?_
      refine TO.y (Y.move rfl) rfl rfl rfl ?_
      refine TO.y (Y.move rfl) rfl rfl rfl ?_
      refine TO.y (Y.move rfl) rfl rfl rfl ?_
      refine TO.bind fun E67 H68 => ?_
      refine TO.y (Y.index ke30 (Can.own 0 rfl) H68 rfl rfl) rfl rfl rfl ?_
      refine TO.y (Y.load_el (us := [strV E67.Key, .int .i64 E67.Seq, .bool E67.Del, strV E67.Val]) (u := .agg #[strV E67.Key, .int .i64 E67.Seq, .bool E67.Del, strV E67.Val]) kk48 rfl (Can.own 0 rfl) (idx_get H68).2.2 rfl rfl rfl rfl rfl) rfl rfl rfl ?_
      refine TO.ef (Ef.buildSlice (α := Ent) (Vs := [.agg #[strV E67.Key, .int .i64 E67.Seq, .bool E67.Del, strV E67.Val]]) [E67] ke30 kz48 rfl rfl rfl rfl rfl) rfl rfl rfl (fun B69 => ?_)
      refine TO.bind fun E71 H72 => ?_
      refine TO.ef (Ef.append (α := Ent) (is' := [.own (.slice (some ⟨B69, 0, none⟩) 1 1) (lc ([E67])), .own X3 (lc S2.2), .own V24 (lc E25)]) [3, 0, 0, 0] H72 ke30 kz48 rfl rfl rfl rfl rfl (Can.own 0 rfl)) rfl rfl rfl (fun V70 => ?_)
      refine TO.y (Y.assign rfl) rfl rfl rfl ?_
      refine TO.nil ?_
      refine TE.block_normal ?_
      refine TE.next ?_
      refine TW.region ?_
      refine TO.y (Y.move rfl) rfl rfl rfl ?_
      refine TO.y (Y.add rfl rfl) rfl rfl rfl ?_
      refine TO.y (Y.assign rfl) rfl rfl rfl ?_
      refine TO.nil ?_
      exact TE.lp_go V70 [2, 2, 0] ⟨rfl, rfl, rfl, rfl, rfl, rfl, rfl, trivial⟩ rfl
     refine TW.exit ?_
     refine TE.then_exit ?_
     refine TE.lp_exit ?_
     refine TE.block_exit ?_
     exact TE.jn_go X29 [1, 1] ⟨rfl, rfl, rfl, rfl, rfl, trivial⟩ rfl
    refine TE.next ?_
    refine TW.region ?_
    refine TO.y (Y.move rfl) rfl rfl rfl ?_
    refine TO.y (Y.move rfl) rfl rfl rfl ?_
    refine TO.y (Y.move rfl) rfl rfl rfl ?_
    refine TO.bind fun E73 H74 => ?_
    refine TO.y (Y.subs H74 ke30 (Can.own 0 rfl) rfl ⟨_, rfl⟩ rfl) rfl rfl rfl ?_
    refine TO.bind fun E76 H77 => ?_
    refine TO.ef (Ef.append (α := Ent) (is' := [.own V24 (lc E25)]) [1, 0] H77 ke30 kz48 rfl rfl rfl rfl rfl (Can.sub H74 rfl (Can.own 0 rfl))) rfl rfl rfl (fun V75 => ?_)
    refine TO.y (Y.assign rfl) rfl rfl rfl ?_
    refine TO.nil ?_
    refine TE.block_normal ?_
    refine TE.next ?_
    refine TW.region ?_
    refine TO.y (Y.move rfl) rfl rfl rfl ?_
    refine TO.y (Y.add rfl rfl) rfl rfl rfl ?_
    refine TO.y (Y.assign rfl) rfl rfl rfl ?_
    refine TO.nil ?_
    exact TE.lp_go V75 [0] ⟨rfl, rfl, rfl, trivial⟩ rfl
   refine TW.exit ?_
   refine TE.then_exit ?_
   refine TE.lp_exit ?_
   refine TE.block_exit ?_
   exact TE.jn_go X3 [0] ⟨rfl, rfl, trivial⟩ rfl
  refine TE.next ?_
  refine TW.seq ?_
  refine TW.region ?_
  refine TO.y (Y.assign rfl) rfl rfl rfl ?_
  refine TO.nil ?_
  refine TE.next ?_
  refine TW.seq ?_
  refine TW.seq ?_
  refine TW.region ?_
  refine TO.y (Y.assign rfl) rfl rfl rfl ?_
  refine TO.nil ?_
  refine TE.next ?_
  refine TW.joinX (τ := Int) (X := Unit) (fun T _ => [(3, X5), (9, .int .i64 T)]) (fun _ _ => [.own X5 (lc T4)]) ?_ (fun T80 X81 => ?_)
  ·refine TW.block ?_
   refine TW.loopX (σ := Int × Int) (X := Unit) (fun T _ => [(0, V_l0), (3, X5), (9, .int .i64 T.1), (10, .int .i64 T.2)]) (fun _ _ => [.own X5 (lc T4)]) () [0] ⟨rfl, rfl, rfl, rfl, trivial⟩ rfl (fun S78 X79 => ?_)
   refine TW.seq ?_
   refine TW.seq ?_
   refine TW.region ?_
   refine TO.y (Y.move rfl) rfl rfl rfl ?_
   refine TO.y (Y.move rfl) rfl rfl rfl ?_
   refine TO.y (Y.len (l := l) ke31 (Base.can HB_V_l0) rfl) rfl rfl rfl ?_
   refine TO.y (Y.lss rfl rfl) rfl rfl rfl ?_
   refine TO.nil ?_
   refine TE.next ?_
   refine TW.cond rfl (fun H82 => ?_) (fun H82 => ?_)
   ·refine TW.skip ?_
    refine TE.next ?_
    refine TW.seq ?_
    refine TW.block ?_
    refine TW.region ?_
    refine TO.y (Y.move rfl) rfl rfl rfl ?_
    refine TO.y (Y.move rfl) rfl rfl rfl ?_
    refine TO.y (Y.move rfl) rfl rfl rfl ?_
    refine TO.bind fun E83 H84 => ?_
    refine TO.y (Y.index ke31 (Base.can HB_V_l0) H84 rfl rfl) rfl rfl rfl ?_
    have Q85 : Base w S (elv w V_l0 (S78.2.toNat * 1 + 0)) (lc E83) := Base.el HB_V_l0 (idx_get H84).2.2 rfl rfl
    refine TO.y (Y.load_base (α := List Ent) (u := (elv w V_l0 (S78.2.toNat * 1 + 0))) kk30 rfl HB_V_l0 (idx_get H84).2.2 rfl rfl rfl rfl rfl) rfl rfl rfl ?_
    refine TO.y (Y.len (l := E83) ke30 (Base.can Q85) rfl) rfl rfl rfl ?_
    refine TO.y (Y.add rfl rfl) rfl rfl rfl ?_
    refine TO.y (Y.assign rfl) rfl rfl rfl ?_
    refine TO.nil ?_
    refine TE.block_normal ?_
    refine TE.next ?_
    refine TW.region ?_
    refine TO.y (Y.move rfl) rfl rfl rfl ?_
    refine TO.y (Y.add rfl rfl) rfl rfl rfl ?_
    refine TO.y (Y.assign rfl) rfl rfl rfl ?_
    refine TO.nil ?_
    exact TE.lp_go () [0] ⟨rfl, rfl, rfl, rfl, trivial⟩ rfl
   refine TW.exit ?_
   refine TE.then_exit ?_
   refine TE.lp_exit ?_
   refine TE.block_exit ?_
   exact TE.jn_go () [0] ⟨rfl, rfl, trivial⟩ rfl
  refine TE.next ?_
  refine TW.seq ?_
  refine TW.seq ?_
  refine TW.region ?_
  refine TO.y (Y.move rfl) rfl rfl rfl ?_
  refine TO.y (Y.gtr rfl rfl) rfl rfl rfl ?_
  refine TO.nil ?_
  refine TE.next ?_
  refine TW.cond rfl (fun H86 => ?_) (fun H86 => ?_)
  ·refine TW.seq ?_
   refine TW.region ?_
   refine TO.ef (Ef.buildSlice (α := Ent) (Vs := []) ([] : List Ent) ke30 kz48 rfl rfl rfl rfl rfl) rfl rfl rfl (fun B87 => ?_)
   refine TO.y (Y.assign rfl) rfl rfl rfl ?_
   refine TO.nil ?_
   refine TE.next ?_
   refine TW.ret ?_
   refine TE.then_ret ?_
   exact TE.leaf fun _ _ hf_ hs_ => ret_any (rs := [.tmp 2]) (vs := [.slice (some ⟨B87, 0, none⟩) 0 0]) (.inl rfl) rfl ⟨rfl, trivial⟩ hf_ hs_ ⟨(.slice (some ⟨B87, 0, none⟩) 0 0), rfl, hs_.pulls [0] rfl⟩
  refine TW.skip ?_
  refine TE.next ?_
  refine TW.seq ?_
  refine TW.region ?_
  refine TO.y (Y.move rfl) rfl rfl rfl ?_
  refine TO.y (Y.assign rfl) rfl rfl rfl ?_
  refine TO.nil ?_
  refine TE.next ?_
  refine TW.ret ?_
  exact TE.leaf fun _ _ hf_ hs_ => ret_any (rs := [.tmp 2]) (vs := [X5]) (.inl rfl) rfl ⟨rfl, trivial⟩ hf_ hs_ ⟨X5, rfl, hs_.pulls [0] rfl⟩

/-- loop.example/g00950/spec.l20All -/
noncomputable def spec_l20All (e : Eng) : Option (List Ent) :=
  (app 24 ([e.Mem]) e.Tables).bind fun E7 =>
  (spec_MergeEnts E7).bind fun R9 =>
  some R9

theorem spec_l20All_con (e : Eng) (V_e0 : Value) (V_e1 : Value) (V_e3 : Value) (r : List Ent) (hm : spec_l20All e = some r) :
    Con Try.prog 21 [.agg #[V_e0, V_e1, .int .i64 e.Seq, V_e3]] [] [(V_e0, lc e.Mem), (V_e1, lc e.Tables), (V_e3, lc e.Snaps)] (fun X : Value => X) (fun X => [.own X (lc r)]) := by
  refine Con.intro (args := [.agg #[V_e0, V_e1, .int .i64 e.Seq, V_e3]]) (n := 13) (val := fun _ (X : Value) => X) (post := fun r X => [.own X (lc r)]) (m := spec_l20All e) Try.func21 rfl rfl rfl hm ?_
  intro w S hrd
  have HB_V_e0 := hrd _ (.head _)
  have HB_V_e1 := hrd _ (.tail _ (.head _))
  have HB_V_e3 := hrd _ (.tail _ (.tail _ (.head _)))
  clear hrd
  unfold spec_l20All
  refine TW.seq ?_
  refine TW.region ?_
  refine TO.ef (Ef.box rfl (Cel.agg ⟨(One.can (Base.can HB_V_e0)), (One.can (Base.can HB_V_e1)), (One.plain rfl), (One.can (Base.can HB_V_e3)), trivial⟩)) rfl rfl rfl (fun B1 => ?_)
  refine TO.y (Y.assign rfl) rfl rfl rfl ?_
  refine TO.nil ?_
  refine TE.next ?_
  refine TW.seq ?_
  refine TW.region ?_
  refine TO.y (Y.field_box kf33_0 rfl rfl) rfl rfl rfl ?_
  refine TO.y (Y.load_box (v := V_e0) 0 kk30 rfl rfl rfl) rfl rfl rfl ?_
  refine TO.ef (Ef.buildSliceR (Vs := [V_e0]) [[V_e0]] [.raw V_e0] ke31 kz30 rfl rfl rfl rfl rfl ⟨(Cel.one (One.can (Base.can HB_V_e0))), trivial⟩ rfl) rfl rfl rfl (fun B2 => ?_)
  refine TO.conv (is' := [.own (.slice (some ⟨B2, 0, none⟩) 1 1) (lc ([Sv.mk V_e0 (Base.oneCell HB_V_e0)] : List Sv)), .box B1 33 [V_e0, V_e1, .int .i64 e.Seq, V_e3]]) (fun _ h_ => h_) ?_
  refine TO.y (Y.assign rfl) rfl rfl rfl ?_
  refine TO.nil ?_
  refine TE.next ?_
  refine TW.seq ?_
  refine TW.region ?_
  refine TO.y (Y.move rfl) rfl rfl rfl ?_
  refine TO.y (Y.field_box kf33_1 rfl rfl) rfl rfl rfl ?_
  refine TO.y (Y.load_box (v := V_e1) 1 kk31 rfl rfl rfl) rfl rfl rfl ?_
  refine TO.bind fun E7 H8 => ?_
  obtain ⟨W4, Q5, Q6⟩ := Base.rows (fun _ => rfl) HB_V_e1
  refine TO.ef (Ef.append (α := Sv) (is' := [.box B1 33 [V_e0, V_e1, .int .i64 e.Seq, V_e3]]) [0, 0] (app_rows H8 (Bases.one HB_V_e0).length Q5.length) ke31 kz30 rfl rfl rfl rfl rfl (Base.can Q6)) rfl rfl rfl (fun V3 => ?_)
  refine TO.y (Y.assign rfl) rfl rfl rfl ?_
  refine TO.nil ?_
  refine TE.next ?_
  refine TW.seq ?_
  refine TW.region ?_
  refine TO.y (Y.move rfl) rfl rfl rfl ?_
  refine TO.bind fun R9 H10 => ?_
  refine TO.ef (Ef.call (rest := [.own V3 (lc (([Sv.mk V_e0 (Base.oneCell HB_V_e0)] ++ W4) : List Sv)), .box B1 33 [V_e0, V_e1, .int .i64 e.Seq, V_e3]]) [0, 0] (spec_MergeEnts_con E7 V3 R9 H10) kc43 rfl rfl ⟨(Can.rows (fun _ => rfl) 0 rfl (Bases.app H8 (Bases.one HB_V_e0) Q5)), trivial⟩) rfl rfl rfl (fun Y11 => ?_)
  refine TO.y (Y.assign rfl) rfl rfl rfl ?_
  refine TO.nil ?_
  refine TE.next ?_
  refine TW.ret ?_
  exact TE.leaf fun _ _ hf_ hs_ => ret_any (rs := [.tmp 2]) (vs := [Y11]) (.inl rfl) rfl ⟨rfl, trivial⟩ hf_ hs_ ⟨Y11, rfl, hs_.pulls [0] rfl⟩

/-- loop.example/g00950/spec.l9Get -/
noncomputable def spec_l9Get (l : List Ent) (key : List UInt8) (seq : Int) : Option (Ent × Bool) :=
  bindC (loopO (fun (S2 : Int) => if (decide (S2 < ((l.length : Nat) : Int))) = true then (((idx l S2).bind fun E9 =>
  if (decide (E9.Key = key)) = true then (some (decide (E9.Seq ≤ seq)))
  else (some false)).bind (fun (T7 : Bool) =>
  if T7 = true then ((idx l S2).bind fun E13 =>
  some (.done (.done (E13, true))))
  else (some (.go (IntKind.i64.wrap (S2 + (1 : Int)))))))
  else (some (.done (.go ()))))
  (0 : Int))
  (fun (T4 : Unit) => some ({ Key := [], Seq := (0 : Int), Del := false, Val := [] : Ent }, false))

theorem spec_l9Get_con (l : List Ent) (key : List UInt8) (seq : Int) (V_l0 : Value) (r : Ent × Bool) (hm : spec_l9Get l key seq = some r) :
    Con Try.prog 20 [V_l0, strV key, .int .i64 seq] [] [(V_l0, lc l)] (fun _ : Unit => .tuple #[.agg #[strV r.1.Key, .int .i64 r.1.Seq, .bool r.1.Del, strV r.1.Val], .bool r.2]) (fun _ => []) := by
  refine Con.intro (args := [V_l0, strV key, .int .i64 seq]) (n := 36) (val := fun r (_ : Unit) => .tuple #[.agg #[strV r.1.Key, .int .i64 r.1.Seq, .bool r.1.Del, strV r.1.Val], .bool r.2]) (post := fun _ _ => []) (m := spec_l9Get l key seq) Try.func20 rfl rfl rfl hm ?_
  intro w S hrd
  have HB_V_l0 := hrd _ (.head _)
  clear hrd
  unfold spec_l9Get
  refine TW.seq ?_
  refine TW.region ?_
  refine TO.ef (Ef.alloc kz48 rfl) rfl rfl rfl (fun B1 => ?_)
  refine TO.y (Y.assign rfl) rfl rfl rfl ?_
  refine TO.nil ?_
  refine TE.next ?_
  refine TW.seq ?_
  refine TW.seq ?_
  refine TW.region ?_
  refine TO.y (Y.assign rfl) rfl rfl rfl ?_
  refine TO.nil ?_
  refine TE.next ?_
  refine TW.joinX (τ := Unit) (X := Unit) (fun _ _ => [(6, .pointer (some ⟨B1, 0, none⟩))]) (fun _ _ => [.box B1 48 [strV ([]), .int .i64 (0 : Int), .bool false, strV ([])]]) ?_ (fun T4 X5 => ?_)
  ·refine TW.block ?_
   refine TW.loopX (σ := Int) (X := Unit) (fun T _ => [(0, V_l0), (1, strV key), (2, .int .i64 seq), (6, .pointer (some ⟨B1, 0, none⟩)), (8, .int .i64 T)]) (fun _ _ => [.box B1 48 [strV ([]), .int .i64 (0 : Int), .bool false, strV ([])]]) () [0] ⟨rfl, rfl, rfl, rfl, rfl, trivial⟩ rfl (fun S2 X3 => ?_)
   refine TW.seq ?_
   refine TW.seq ?_
   refine TW.region ?_
   refine TO.y (Y.move rfl) rfl rfl rfl ?_
   refine TO.y (Y.move rfl) rfl rfl rfl ?_
   refine TO.y (Y.len (l := l) ke30 (Base.can HB_V_l0) rfl) rfl rfl rfl ?_
   refine TO.y (Y.lss rfl rfl) rfl rfl rfl ?_
   refine TO.nil ?_
   refine TE.next ?_
   refine TW.cond rfl (fun H6 => ?_) (fun H6 => ?_)
   ·refine TW.skip ?_
    refine TE.next ?_
    refine TW.seq ?_
    refine TW.block ?_
    refine TW.seq ?_
    refine TW.joinBX (τ := Bool) (X := Unit) (fun T _ => [(0, V_l0), (1, strV key), (2, .int .i64 seq), (6, .pointer (some ⟨B1, 0, none⟩)), (8, .int .i64 S2), (30, .bool T)]) (fun _ _ => [.box B1 48 [strV ([]), .int .i64 (0 : Int), .bool false, strV ([])]]) ?_ (fun T7 X8 => ?_)
    ·refine TW.region ?_
     refine TO.y (Y.move rfl) rfl rfl rfl ?_
     refine TO.y (Y.move rfl) rfl rfl rfl ?_
     refine TO.bind fun E9 H10 => ?_
     refine TO.y (Y.index ke30 (Base.can HB_V_l0) H10 rfl rfl) rfl rfl rfl ?_
     refine TO.y (Y.field_el kf48_0 (Base.can HB_V_l0) (idx_get H10).2.2 rfl rfl) rfl rfl rfl ?_
     refine TO.y (Y.load_el (us := [strV E9.Key]) (u := strV E9.Key) kk9 rfl (Base.can HB_V_l0) (idx_get H10).2.2 rfl rfl rfl rfl rfl) rfl rfl rfl ?_
     refine TO.y (Y.move rfl) rfl rfl rfl ?_
     refine TO.y (Y.seql rfl rfl) rfl rfl rfl ?_
     refine TO.y (Y.move rfl) rfl rfl rfl ?_
     refine TO.ite (b := decide (E9.Key = key)) (fun H11 => ?_) (fun H11 => ?_)
     ·refine TO.y (Y.move rfl) (Gd.at 7 true 22 (decide (E9.Key = key)) rfl rfl rfl (beq_tt H11)) rfl rfl ?_
      refine TO.y (Y.move rfl) (Gd.at 7 true 22 (decide (E9.Key = key)) rfl rfl rfl (beq_tt H11)) rfl rfl ?_
      refine TO.y (Y.index ke30 (Base.can HB_V_l0) H10 rfl rfl) (Gd.at 7 true 22 (decide (E9.Key = key)) rfl rfl rfl (beq_tt H11)) rfl rfl ?_
      refine TO.y (Y.field_el kf48_1 (Base.can HB_V_l0) (idx_get H10).2.2 rfl rfl) (Gd.at 7 true 22 (decide (E9.Key = key)) rfl rfl rfl (beq_tt H11)) rfl rfl ?_
      refine TO.y (Y.load_el (us := [.int .i64 E9.Seq]) (u := .int .i64 E9.Seq) kk3 rfl (Base.can HB_V_l0) (idx_get H10).2.2 rfl rfl rfl rfl rfl) (Gd.at 7 true 22 (decide (E9.Key = key)) rfl rfl rfl (beq_tt H11)) rfl rfl ?_
      refine TO.y (Y.move rfl) (Gd.at 7 true 22 (decide (E9.Key = key)) rfl rfl rfl (beq_tt H11)) rfl rfl ?_
      refine TO.y (Y.leq rfl rfl) (Gd.at 7 true 22 (decide (E9.Key = key)) rfl rfl rfl (beq_tt H11)) rfl rfl ?_
      refine TO.y (Y.pick_t H11 rfl rfl) rfl rfl rfl ?_
      refine TO.nil ?_
      exact TE.jb_go () [0] ⟨rfl, rfl, rfl, rfl, rfl, rfl, trivial⟩ rfl
     refine TO.off (Gd.at 7 true 22 (decide (E9.Key = key)) rfl rfl rfl (beq_ft H11)) rfl rfl ?_
     refine TO.off (Gd.at 7 true 22 (decide (E9.Key = key)) rfl rfl rfl (beq_ft H11)) rfl rfl ?_
     refine TO.off (Gd.at 7 true 22 (decide (E9.Key = key)) rfl rfl rfl (beq_ft H11)) rfl rfl ?_
     refine TO.off (Gd.at 7 true 22 (decide (E9.Key = key)) rfl rfl rfl (beq_ft H11)) rfl rfl ?_
     refine TO.off (Gd.at 7 true 22 (decide (E9.Key = key)) rfl rfl rfl (beq_ft H11)) rfl rfl ?_
     refine TO.off (Gd.at 7 true 22 (decide (E9.Key = key)) rfl rfl rfl (beq_ft H11)) rfl rfl ?_
     refine TO.off (Gd.at 7 true 22 (decide (E9.Key = key)) rfl rfl rfl (beq_ft H11)) rfl rfl ?_
     refine TO.y (Y.pick_f H11 rfl rfl) rfl rfl rfl ?_
     refine TO.nil ?_
     exact TE.jb_go () [0] ⟨rfl, rfl, rfl, rfl, rfl, rfl, trivial⟩ rfl
    refine TE.next ?_
    refine TW.cond rfl (fun H12 => ?_) (fun H12 => ?_)
    ·refine TW.seq ?_
     refine TW.region ?_
     refine TO.y (Y.move rfl) rfl rfl rfl ?_
     refine TO.y (Y.move rfl) rfl rfl rfl ?_
     refine TO.bind fun E13 H14 => ?_
     refine TO.y (Y.index ke30 (Base.can HB_V_l0) H14 rfl rfl) rfl rfl rfl ?_
     refine TO.y (Y.load_el (us := [strV E13.Key, .int .i64 E13.Seq, .bool E13.Del, strV E13.Val]) (u := .agg #[strV E13.Key, .int .i64 E13.Seq, .bool E13.Del, strV E13.Val]) kk48 rfl (Base.can HB_V_l0) (idx_get H14).2.2 rfl rfl rfl rfl rfl) rfl rfl rfl ?_
     refine TO.ef0 (Ef.store_box (us := [strV E13.Key, .int .i64 E13.Seq, .bool E13.Del, strV E13.Val]) (vs' := [strV E13.Key, .int .i64 E13.Seq, .bool E13.Del, strV E13.Val]) (is' := [.box B1 48 [strV E13.Key, .int .i64 E13.Seq, .bool E13.Del, strV E13.Val]]) 0 kk48 rfl rfl rfl (Cel.plain rfl rfl) rfl rfl rfl rfl) rfl rfl (fun _ => ?_)
     refine TO.y (Y.assign rfl) rfl rfl rfl ?_
     refine TO.nil ?_
     refine TE.next ?_
     refine TW.ret ?_
     refine TE.block_ret ?_
     refine TE.then_ret ?_
     refine TE.lp_ret ?_
     refine TE.block_ret ?_
     refine TE.jn_done ?_
     refine TE.then_ret ?_
     exact TE.leaf fun _ _ hf_ hs_ => ret_any (rs := [.cell 6 48, .tmp 7]) (vs := [.agg #[strV E13.Key, .int .i64 E13.Seq, .bool E13.Del, strV E13.Val], .bool true]) (.inl rfl) rfl (RV.cell 0 rfl rfl kk48 rfl ⟨rfl, trivial⟩) hf_ hs_ ⟨(), rfl, hs_.pulls [] rfl⟩
    refine TW.skip ?_
    refine TE.block_normal ?_
    refine TE.next ?_
    refine TW.region ?_
    refine TO.y (Y.move rfl) rfl rfl rfl ?_
    refine TO.y (Y.add rfl rfl) rfl rfl rfl ?_
    refine TO.y (Y.assign rfl) rfl rfl rfl ?_
    refine TO.nil ?_
    exact TE.lp_go () [0] ⟨rfl, rfl, rfl, rfl, rfl, trivial⟩ rfl
   refine TW.exit ?_
   refine TE.then_exit ?_
   refine TE.lp_exit ?_
   refine TE.block_exit ?_
   exact TE.jn_go () [0] ⟨rfl, trivial⟩ rfl
  refine TE.next ?_
  refine TW.seq ?_
  refine TW.region ?_
  refine TO.y (Y.build (cells := [strV ([]), .int .i64 (0 : Int), .bool false, strV ([])]) [] kp48 kz48 trivial rfl) rfl rfl rfl ?_
  refine TO.ef0 (Ef.store_box (us := [strV ([]), .int .i64 (0 : Int), .bool false, strV ([])]) (vs' := [strV ([]), .int .i64 (0 : Int), .bool false, strV ([])]) (is' := [.box B1 48 [strV ([]), .int .i64 (0 : Int), .bool false, strV ([])]]) 0 kk48 rfl rfl rfl (Cel.plain rfl rfl) rfl rfl rfl rfl) rfl rfl (fun _ => ?_)
  refine TO.y (Y.assign rfl) rfl rfl rfl ?_
  refine TO.nil ?_
  refine TE.next ?_
  refine TW.ret ?_
  exact TE.leaf fun _ _ hf_ hs_ => ret_any (rs := [.cell 6 48, .tmp 7]) (vs := [.agg #[strV ([]), .int .i64 (0 : Int), .bool false, strV ([])], .bool false]) (.inl rfl) rfl (RV.cell 0 rfl rfl kk48 rfl ⟨rfl, trivial⟩) hf_ hs_ ⟨(), rfl, hs_.pulls [] rfl⟩

/-- loop.example/g00950/spec.l9Map -/
noncomputable def spec_l9Map (l : List Ent) (seq : Int) : Option (List KV) :=
  bindC (loopO (fun (S2 : Int × List KV) => if (decide (S2.1 < ((l.length : Nat) : Int))) = true then ((idx l S2.1).bind fun E7 =>
  (spec_l9Get l E7.Key seq).bind fun R9 =>
  (if R9.2 = true then (if (!R9.1.Del) = true then (some (decide (R9.1.Seq = E7.Seq)))
  else (some false))
  else (some false)).bind (fun (T13 : Bool) =>
  bindC (if T13 = true then ((app 32 S2.2 ([{ Key := R9.1.Key, Val := R9.1.Val : KV }])).bind fun E22 =>
  some (.go E22))
  else (some (.go S2.2)))
  (fun (T17 : List KV) => some (.go (IntKind.i64.wrap (S2.1 + (1 : Int)), T17)))))
  else (some (.done (.go S2.2))))
  ((0 : Int), ([] : List KV)))
  (fun (T4 : List KV) => some T4)

theorem spec_l9Map_con (l : List Ent) (seq : Int) (V_l0 : Value) (r : List KV) (hm : spec_l9Map l seq = some r) :
    Con Try.prog 30 [V_l0, .int .i64 seq] [] [(V_l0, lc l)] (fun X : Value => X) (fun X => [.own X (lc r)]) := by
  refine Con.intro (args := [V_l0, .int .i64 seq]) (n := 52) (val := fun _ (X : Value) => X) (post := fun r X => [.own X (lc r)]) (m := spec_l9Map l seq) Try.func30 rfl rfl rfl hm ?_
  intro w S hrd
  have HB_V_l0 := hrd _ (.head _)
  clear hrd
  unfold spec_l9Map
  refine TW.seq ?_
  refine TW.region ?_
  refine TO.y (Y.assign rfl) rfl rfl rfl ?_
  refine TO.nil ?_
  refine TE.next ?_
  refine TW.seq ?_
  refine TW.region ?_
  refine TO.ef (Ef.buildSlice (α := KV) (Vs := []) ([] : List KV) ke37 kz63 rfl rfl rfl rfl rfl) rfl rfl rfl (fun B1 => ?_)
  refine TO.y (Y.assign rfl) rfl rfl rfl ?_
  refine TO.nil ?_
  refine TE.next ?_
  refine TW.seq ?_
  refine TW.seq ?_
  refine TW.region ?_
  refine TO.y (Y.assign rfl) rfl rfl rfl ?_
  refine TO.nil ?_
  refine TE.next ?_
  refine TW.joinX (τ := List KV) (X := Value) (fun _ X => [(5, X)]) (fun T X => [.own X (lc T)]) ?_ (fun T4 X5 => ?_)
  ·refine TW.block ?_
   refine TW.loopX (σ := Int × List KV) (X := Value) (fun T X => [(0, V_l0), (1, .int .i64 seq), (5, X), (6, .int .i64 T.1)]) (fun T X => [.own X (lc T.2)]) (.slice (some ⟨B1, 0, none⟩) 0 0) [0] ⟨rfl, rfl, rfl, rfl, trivial⟩ rfl (fun S2 X3 => ?_)
   refine TW.seq ?_
   refine TW.seq ?_
   refine TW.region ?_
   refine TO.y (Y.move rfl) rfl rfl rfl ?_
   refine TO.y (Y.move rfl) rfl rfl rfl ?_
   refine TO.y (Y.len (l := l) ke30 (Base.can HB_V_l0) rfl) rfl rfl rfl ?_
   refine TO.y (Y.lss rfl rfl) rfl rfl rfl ?_
   refine TO.nil ?_
   refine TE.next ?_
   refine TW.cond rfl (fun H6 => ?_) (fun H6 => ?_)
   ·refine TW.skip ?_
    refine TE.next ?_
    refine TW.seq ?_
    refine TW.block ?_
    refine TW.seq ?_
    refine TW.region ?_
    refine TO.y (Y.move rfl) rfl rfl rfl ?_
    refine TO.y (Y.move rfl) rfl rfl rfl ?_
    refine TO.y (Y.move rfl) rfl rfl rfl ?_
    refine TO.bind fun E7 H8 => ?_
    refine TO.y (Y.index ke30 (Base.can HB_V_l0) H8 rfl rfl) rfl rfl rfl ?_
    refine TO.y (Y.field_el kf48_0 (Base.can HB_V_l0) (idx_get H8).2.2 rfl rfl) rfl rfl rfl ?_
    refine TO.y (Y.load_el (us := [strV E7.Key]) (u := strV E7.Key) kk9 rfl (Base.can HB_V_l0) (idx_get H8).2.2 rfl rfl rfl rfl rfl) rfl rfl rfl ?_
    refine TO.y (Y.move rfl) rfl rfl rfl ?_
    refine TO.bind fun R9 H10 => ?_
    refine TO.ef (Ef.call (rest := [.own X3 (lc S2.2)]) [0] (spec_l9Get_con l E7.Key seq V_l0 R9 H10) kc20 rfl rfl ⟨(Base.can HB_V_l0), trivial⟩) rfl rfl rfl (fun _ => ?_)
    refine TO.y (Y.move rfl) rfl rfl rfl ?_
    refine TO.y (Y.extract rfl rfl) rfl rfl rfl ?_
    refine TO.y (Y.extract rfl rfl) rfl rfl rfl ?_
    refine TO.ef (Ef.alloc kz48 rfl) rfl rfl rfl (fun B12 => ?_)
    refine TO.ef0 (Ef.store_box (us := [strV R9.1.Key, .int .i64 R9.1.Seq, .bool R9.1.Del, strV R9.1.Val]) (vs' := [strV R9.1.Key, .int .i64 R9.1.Seq, .bool R9.1.Del, strV R9.1.Val]) (is' := [.box B12 48 [strV R9.1.Key, .int .i64 R9.1.Seq, .bool R9.1.Del, strV R9.1.Val], .own X3 (lc S2.2)]) 0 kk48 rfl rfl rfl (Cel.plain rfl rfl) rfl rfl rfl rfl) rfl rfl (fun _ => ?_)
    refine TO.y (Y.assign rfl) rfl rfl rfl ?_
    refine TO.nil ?_
    refine TE.next ?_
    refine TW.seq ?_
    refine TW.joinBX (τ := Bool) (X := Unit) (fun T _ => [(0, V_l0), (1, .int .i64 seq), (5, X3), (6, .int .i64 S2.1), (7, .pointer (some ⟨B12, 0, none⟩)), (42, .bool T)]) (fun _ _ => [.box B12 48 [strV R9.1.Key, .int .i64 R9.1.Seq, .bool R9.1.Del, strV R9.1.Val], .own X3 (lc S2.2)]) ?_ (fun T13 X14 => ?_)
    ·refine TW.draw (isH := [.box B12 48 [strV R9.1.Key, .int .i64 R9.1.Seq, .bool R9.1.Del, strV R9.1.Val], .own X3 (lc S2.2)]) hMix ?_
     refine TA.y 0 [0, 0] rfl (Y.move rfl) rfl rfl rfl (by kernel_rfl) rfl ?_
     refine TA.y 1 [0, 0] rfl (Y.move rfl) rfl rfl rfl (by kernel_rfl) rfl ?_
     refine TA.ite (b := R9.2) (fun H15 => ?_) (fun H15 => ?_)
     ·refine TA.y 2 [0, 0] rfl (Y.field_box kf48_2 rfl rfl) (Gd.at 1 true 28 R9.2 rfl rfl rfl (beq_tt H15)) rfl rfl (by kernel_rfl) rfl ?_
      refine TA.y 3 [0, 0] rfl (Y.load_box (v := .bool R9.1.Del) 0 kk4 rfl rfl rfl) (Gd.at 1 true 28 R9.2 rfl rfl rfl (beq_tt H15)) rfl rfl (by kernel_rfl) rfl ?_
      refine TA.y 4 [0, 0] rfl (Y.not rfl) (Gd.at 1 true 28 R9.2 rfl rfl rfl (beq_tt H15)) rfl rfl (by kernel_rfl) rfl ?_
      refine TA.y 5 [0, 0] rfl (Y.pick_t H15 rfl rfl) rfl rfl rfl (by kernel_rfl) rfl ?_
      refine TA.y 6 [0, 0] rfl (Y.move rfl) rfl rfl rfl (by kernel_rfl) rfl ?_
      refine TA.ite (b := !R9.1.Del) (fun H16 => ?_) (fun H16 => ?_)
      ·refine TA.y 7 [0, 0] rfl (Y.field_box kf48_1 rfl rfl) (Gd.at 6 true 33 (!R9.1.Del) rfl rfl rfl (beq_tt H16)) rfl rfl (by kernel_rfl) rfl ?_
       refine TA.y 8 [0, 0] rfl (Y.load_box (v := .int .i64 R9.1.Seq) 0 kk3 rfl rfl rfl) (Gd.at 6 true 33 (!R9.1.Del) rfl rfl rfl (beq_tt H16)) rfl rfl (by kernel_rfl) rfl ?_
       refine TA.y 9 [0, 0] rfl (Y.move rfl) (Gd.at 6 true 33 (!R9.1.Del) rfl rfl rfl (beq_tt H16)) rfl rfl (by kernel_rfl) rfl ?_
       refine TA.y 10 [0, 0] rfl (Y.move rfl) (Gd.at 6 true 33 (!R9.1.Del) rfl rfl rfl (beq_tt H16)) rfl rfl (by kernel_rfl) rfl ?_
       refine TA.y 11 [0, 0] rfl (Y.index ke30 (Base.can HB_V_l0) H8 rfl rfl) (Gd.at 6 true 33 (!R9.1.Del) rfl rfl rfl (beq_tt H16)) rfl rfl (by kernel_rfl) rfl ?_
       refine TA.y 12 [0, 0] rfl (Y.field_el kf48_1 (Base.can HB_V_l0) (idx_get H8).2.2 rfl rfl) (Gd.at 6 true 33 (!R9.1.Del) rfl rfl rfl (beq_tt H16)) rfl rfl (by kernel_rfl) rfl ?_
       refine TA.y 13 [0, 0] rfl (Y.load_el (us := [.int .i64 E7.Seq]) (u := .int .i64 E7.Seq) kk3 rfl (Base.can HB_V_l0) (idx_get H8).2.2 rfl rfl rfl rfl rfl) (Gd.at 6 true 33 (!R9.1.Del) rfl rfl rfl (beq_tt H16)) rfl rfl (by kernel_rfl) rfl ?_
       refine TA.y 14 [0, 0] rfl (Y.eql rfl rfl) (Gd.at 6 true 33 (!R9.1.Del) rfl rfl rfl (beq_tt H16)) rfl rfl (by kernel_rfl) rfl ?_
       refine TA.y 15 [0, 0] rfl (Y.pick_t H16 rfl rfl) rfl rfl rfl (by kernel_rfl) rfl ?_
       refine TA.nil (by kernel_rfl) ?_
       exact TE.jb_go () [0, 0] ⟨rfl, rfl, rfl, rfl, rfl, rfl, trivial⟩ rfl
      refine TA.off 7 [0, 0] rfl (Gd.at 6 true 33 (!R9.1.Del) rfl rfl rfl (beq_ft H16)) rfl rfl (by kernel_rfl) rfl ?_
      refine TA.off 8 [0, 0] rfl (Gd.at 6 true 33 (!R9.1.Del) rfl rfl rfl (beq_ft H16)) rfl rfl (by kernel_rfl) rfl ?_
      refine TA.off 9 [0, 0] rfl (Gd.at 6 true 33 (!R9.1.Del) rfl rfl rfl (beq_ft H16)) rfl rfl (by kernel_rfl) rfl ?_
      refine TA.off 10 [0, 0] rfl (Gd.at 6 true 33 (!R9.1.Del) rfl rfl rfl (beq_ft H16)) rfl rfl (by kernel_rfl) rfl ?_
      refine TA.off 11 [0, 0] rfl (Gd.at 6 true 33 (!R9.1.Del) rfl rfl rfl (beq_ft H16)) rfl rfl (by kernel_rfl) rfl ?_
      refine TA.off 12 [0, 0] rfl (Gd.at 6 true 33 (!R9.1.Del) rfl rfl rfl (beq_ft H16)) rfl rfl (by kernel_rfl) rfl ?_
      refine TA.off 13 [0, 0] rfl (Gd.at 6 true 33 (!R9.1.Del) rfl rfl rfl (beq_ft H16)) rfl rfl (by kernel_rfl) rfl ?_
      refine TA.off 14 [0, 0] rfl (Gd.at 6 true 33 (!R9.1.Del) rfl rfl rfl (beq_ft H16)) rfl rfl (by kernel_rfl) rfl ?_
      refine TA.y 15 [0, 0] rfl (Y.pick_f H16 rfl rfl) rfl rfl rfl (by kernel_rfl) rfl ?_
      refine TA.nil (by kernel_rfl) ?_
      exact TE.jb_go () [0, 0] ⟨rfl, rfl, rfl, rfl, rfl, rfl, trivial⟩ rfl
     refine TA.off 2 [0, 0] rfl (Gd.at 1 true 28 R9.2 rfl rfl rfl (beq_ft H15)) rfl rfl (by kernel_rfl) rfl ?_
     refine TA.off 3 [0, 0] rfl (Gd.at 1 true 28 R9.2 rfl rfl rfl (beq_ft H15)) rfl rfl (by kernel_rfl) rfl ?_
     refine TA.off 4 [0, 0] rfl (Gd.at 1 true 28 R9.2 rfl rfl rfl (beq_ft H15)) rfl rfl (by kernel_rfl) rfl ?_
     refine TA.y 5 [0, 0] rfl (Y.pick_f H15 rfl rfl) rfl rfl rfl (by kernel_rfl) rfl ?_
     refine TA.y 6 [0, 0] rfl (Y.move rfl) rfl rfl rfl (by kernel_rfl) rfl ?_
     refine TA.off 7 [0, 0] rfl (Gd.at 6 true 33 false rfl rfl rfl rfl) rfl rfl (by kernel_rfl) rfl ?_
     refine TA.off 8 [0, 0] rfl (Gd.at 6 true 33 false rfl rfl rfl rfl) rfl rfl (by kernel_rfl) rfl ?_
     refine TA.off 9 [0, 0] rfl (Gd.at 6 true 33 false rfl rfl rfl rfl) rfl rfl (by kernel_rfl) rfl ?_
     refine TA.off 10 [0, 0] rfl (Gd.at 6 true 33 false rfl rfl rfl rfl) rfl rfl (by kernel_rfl) rfl ?_
     refine TA.off 11 [0, 0] rfl (Gd.at 6 true 33 false rfl rfl rfl rfl) rfl rfl (by kernel_rfl) rfl ?_
     refine TA.off 12 [0, 0] rfl (Gd.at 6 true 33 false rfl rfl rfl rfl) rfl rfl (by kernel_rfl) rfl ?_
     refine TA.off 13 [0, 0] rfl (Gd.at 6 true 33 false rfl rfl rfl rfl) rfl rfl (by kernel_rfl) rfl ?_
     refine TA.off 14 [0, 0] rfl (Gd.at 6 true 33 false rfl rfl rfl rfl) rfl rfl (by kernel_rfl) rfl ?_
     refine TA.y 15 [0, 0] rfl (Y.pick_f rfl rfl rfl) rfl rfl rfl (by kernel_rfl) rfl ?_
     refine TA.nil (by kernel_rfl) ?_
     exact TE.jb_go () [0, 0] ⟨rfl, rfl, rfl, rfl, rfl, rfl, trivial⟩ rfl
    refine TE.next ?_
    refine TW.joinX (τ := List KV) (X := Value) (fun _ X => [(0, V_l0), (1, .int .i64 seq), (5, X), (6, .int .i64 S2.1)]) (fun T X => [.own X (lc T)]) ?_ (fun T17 X18 => ?_)
    ·refine TW.cond rfl (fun H19 => ?_) (fun H19 => ?_)
     ·refine TW.region ?_
      refine TO.y (Y.move rfl) rfl rfl rfl ?_
      refine TO.y (Y.field_box kf48_0 rfl rfl) rfl rfl rfl ?_
      refine TO.y (Y.load_box (v := strV R9.1.Key) 0 kk9 rfl rfl rfl) rfl rfl rfl ?_
      refine TO.y (Y.field_box kf48_3 rfl rfl) rfl rfl rfl ?_
      refine TO.y (Y.load_box (v := strV R9.1.Val) 0 kk9 rfl rfl rfl) rfl rfl rfl ?_
      refine TO.y (Y.build (cells := [strV R9.1.Key, strV R9.1.Val]) [(0, [strV R9.1.Key]), (1, [strV R9.1.Val])] kp63 kz63 ⟨rfl, ⟨_, rfl, (Cel.plain rfl rfl)⟩, ⟨rfl, ⟨_, rfl, (Cel.plain rfl rfl)⟩, trivial⟩⟩ rfl) rfl rfl rfl ?_
      refine TO.ef (Ef.buildSlice (α := KV) (Vs := [.agg #[strV R9.1.Key, strV R9.1.Val]]) [{ Key := R9.1.Key, Val := R9.1.Val : KV }] ke37 kz63 rfl rfl rfl rfl rfl) rfl rfl rfl (fun B20 => ?_)
      refine TO.bind fun E22 H23 => ?_
      refine TO.ef (Ef.append (α := KV) (is' := [.own (.slice (some ⟨B20, 0, none⟩) 1 1) (lc ([{ Key := R9.1.Key, Val := R9.1.Val : KV }])), .box B12 48 [strV R9.1.Key, .int .i64 R9.1.Seq, .bool R9.1.Del, strV R9.1.Val]]) [2, 0, 0] H23 ke37 kz63 rfl rfl rfl rfl rfl (Can.own 0 rfl)) rfl rfl rfl (fun V21 => ?_)
      refine TO.y (Y.assign rfl) rfl rfl rfl ?_
      refine TO.nil ?_
      exact TE.jn_go V21 [0] ⟨rfl, rfl, rfl, rfl, trivial⟩ rfl
     refine TW.skip ?_
     exact TE.jn_go X3 [1] ⟨rfl, rfl, rfl, rfl, trivial⟩ rfl
    refine TE.block_normal ?_
    refine TE.next ?_
    refine TW.region ?_
    refine TO.y (Y.move rfl) rfl rfl rfl ?_
    refine TO.y (Y.add rfl rfl) rfl rfl rfl ?_
    refine TO.y (Y.assign rfl) rfl rfl rfl ?_
    refine TO.nil ?_
    exact TE.lp_go X18 [0] ⟨rfl, rfl, rfl, rfl, trivial⟩ rfl
   refine TW.exit ?_
   refine TE.then_exit ?_
   refine TE.lp_exit ?_
   refine TE.block_exit ?_
   exact TE.jn_go X3 [0] ⟨rfl, trivial⟩ rfl
  refine TE.next ?_
  refine TW.seq ?_
  refine TW.region ?_
  refine TO.y (Y.move rfl) rfl rfl rfl ?_
  refine TO.y (Y.assign rfl) rfl rfl rfl ?_
  refine TO.nil ?_
  refine TE.next ?_
  refine TW.ret ?_
  exact TE.leaf fun _ _ hf_ hs_ => ret_any (rs := [.tmp 4]) (vs := [X5]) (.inl rfl) rfl ⟨rfl, trivial⟩ hf_ hs_ ⟨X5, rfl, hs_.pulls [0] rfl⟩

/-- loop.example/g00950/spec.EngMap -/
noncomputable def spec_EngMap (e : Eng) (seq : Int) : Option (List KV) :=
  (spec_EngOk e).bind fun R2 =>
  if (!R2) = true then (some ([] : List KV))
  else ((spec_l20All e).bind fun R7 =>
  (spec_l9Map R7 seq).bind fun R10 =>
  some R10)

theorem spec_EngMap_con (e : Eng) (seq : Int) (V_e0 : Value) (V_e1 : Value) (V_e3 : Value) (r : List KV) (hm : spec_EngMap e seq = some r) :
    Con Try.prog 10 [.agg #[V_e0, V_e1, .int .i64 e.Seq, V_e3], .int .i64 seq] [] [(V_e0, lc e.Mem), (V_e1, lc e.Tables), (V_e3, lc e.Snaps)] (fun X : Value => X) (fun X => [.own X (lc r)]) := by
  refine Con.intro (args := [.agg #[V_e0, V_e1, .int .i64 e.Seq, V_e3], .int .i64 seq]) (n := 13) (val := fun _ (X : Value) => X) (post := fun r X => [.own X (lc r)]) (m := spec_EngMap e seq) Try.func10 rfl rfl rfl hm ?_
  intro w S hrd
  have HB_V_e0 := hrd _ (.head _)
  have HB_V_e1 := hrd _ (.tail _ (.head _))
  have HB_V_e3 := hrd _ (.tail _ (.tail _ (.head _)))
  clear hrd
  unfold spec_EngMap
  refine TW.seq ?_
  refine TW.region ?_
  refine TO.ef (Ef.box rfl (Cel.agg ⟨(One.can (Base.can HB_V_e0)), (One.can (Base.can HB_V_e1)), (One.plain rfl), (One.can (Base.can HB_V_e3)), trivial⟩)) rfl rfl rfl (fun B1 => ?_)
  refine TO.y (Y.assign rfl) rfl rfl rfl ?_
  refine TO.nil ?_
  refine TE.next ?_
  refine TW.seq ?_
  refine TW.seq ?_
  refine TW.region ?_
  refine TO.y (Y.load_box (v := .agg #[V_e0, V_e1, .int .i64 e.Seq, V_e3]) 0 kk33 rfl rfl rfl) rfl rfl rfl ?_
  refine TO.bind fun R2 H3 => ?_
  refine TO.ef (Ef.call (rest := [.box B1 33 [V_e0, V_e1, .int .i64 e.Seq, V_e3]]) [0] (spec_EngOk_con e V_e0 V_e1 V_e3 R2 H3) kc19 rfl rfl ⟨(Base.can HB_V_e0), (Base.can HB_V_e1), (Base.can HB_V_e3), trivial⟩) rfl rfl rfl (fun _ => ?_)
  refine TO.y (Y.not rfl) rfl rfl rfl ?_
  refine TO.nil ?_
  refine TE.next ?_
  refine TW.cond rfl (fun H5 => ?_) (fun H5 => ?_)
  ·refine TW.seq ?_
   refine TW.region ?_
   refine TO.ef (Ef.buildSlice (α := KV) (Vs := []) ([] : List KV) ke37 kz63 rfl rfl rfl rfl rfl) rfl rfl rfl (fun B6 => ?_)
   refine TO.y (Y.assign rfl) rfl rfl rfl ?_
   refine TO.nil ?_
   refine TE.next ?_
   refine TW.ret ?_
   refine TE.then_ret ?_
   exact TE.leaf fun _ _ hf_ hs_ => ret_any (rs := [.tmp 4]) (vs := [.slice (some ⟨B6, 0, none⟩) 0 0]) (.inl rfl) rfl ⟨rfl, trivial⟩ hf_ hs_ ⟨(.slice (some ⟨B6, 0, none⟩) 0 0), rfl, hs_.pulls [0] rfl⟩
  refine TW.skip ?_
  refine TE.next ?_
  refine TW.seq ?_
  refine TW.region ?_
  refine TO.y (Y.load_box (v := .agg #[V_e0, V_e1, .int .i64 e.Seq, V_e3]) 0 kk33 rfl rfl rfl) rfl rfl rfl ?_
  refine TO.bind fun R7 H8 => ?_
  refine TO.ef (Ef.call (rest := [.box B1 33 [V_e0, V_e1, .int .i64 e.Seq, V_e3]]) [0] (spec_l20All_con e V_e0 V_e1 V_e3 R7 H8) kc21 rfl rfl ⟨(Base.can HB_V_e0), (Base.can HB_V_e1), (Base.can HB_V_e3), trivial⟩) rfl rfl rfl (fun Y9 => ?_)
  refine TO.y (Y.move rfl) rfl rfl rfl ?_
  refine TO.bind fun R10 H11 => ?_
  refine TO.ef (Ef.call (rest := [.own Y9 (lc R7), .box B1 33 [V_e0, V_e1, .int .i64 e.Seq, V_e3]]) [0, 0] (spec_l9Map_con R7 seq Y9 R10 H11) kc30 rfl rfl ⟨(Can.own 0 rfl), trivial⟩) rfl rfl rfl (fun Y12 => ?_)
  refine TO.y (Y.assign rfl) rfl rfl rfl ?_
  refine TO.nil ?_
  refine TE.next ?_
  refine TW.ret ?_
  exact TE.leaf fun _ _ hf_ hs_ => ret_any (rs := [.tmp 4]) (vs := [Y12]) (.inl rfl) rfl ⟨rfl, trivial⟩ hf_ hs_ ⟨Y12, rfl, hs_.pulls [0] rfl⟩

/-- loop.example/g00950/impl.inRange -/
noncomputable def impl_inRange (n : Int) (least : Int) (most : Int) : Option Bool :=
  (if (decide (n ≥ least)) = true then (some (decide (n ≤ most)))
  else (some false)).bind (fun (T1 : Bool) =>
  some T1)

theorem impl_inRange_con (n : Int) (least : Int) (most : Int)  (r : Bool) (hm : impl_inRange n least most = some r) :
    Con Try.prog 47 [.int .i64 n, .int .i64 least, .int .i64 most] [] [] (fun _ : Unit => .bool r) (fun _ => []) := by
  refine Con.intro (args := [.int .i64 n, .int .i64 least, .int .i64 most]) (n := 15) (val := fun r (_ : Unit) => .bool r) (post := fun _ _ => []) (m := impl_inRange n least most) Try.func47 rfl rfl rfl hm ?_
  intro w S _
  unfold impl_inRange
  refine TW.seq ?_
  refine TW.region ?_
  refine TO.y (Y.assign rfl) rfl rfl rfl ?_
  refine TO.nil ?_
  refine TE.next ?_
  refine TW.seq ?_
  refine TW.joinBX (τ := Bool) (X := Unit) (fun T _ => [(6, .bool T)]) (fun _ _ => []) ?_ (fun T1 X2 => ?_)
  ·refine TW.region ?_
   refine TO.y (Y.move rfl) rfl rfl rfl ?_
   refine TO.y (Y.move rfl) rfl rfl rfl ?_
   refine TO.y (Y.geq rfl rfl) rfl rfl rfl ?_
   refine TO.y (Y.move rfl) rfl rfl rfl ?_
   refine TO.ite (b := decide (n ≥ least)) (fun H3 => ?_) (fun H3 => ?_)
   ·refine TO.y (Y.move rfl) (Gd.at 3 true 10 (decide (n ≥ least)) rfl rfl rfl (beq_tt H3)) rfl rfl ?_
    refine TO.y (Y.move rfl) (Gd.at 3 true 10 (decide (n ≥ least)) rfl rfl rfl (beq_tt H3)) rfl rfl ?_
    refine TO.y (Y.leq rfl rfl) (Gd.at 3 true 10 (decide (n ≥ least)) rfl rfl rfl (beq_tt H3)) rfl rfl ?_
    refine TO.y (Y.pick_t H3 rfl rfl) rfl rfl rfl ?_
    refine TO.y (Y.assign rfl) rfl rfl rfl ?_
    refine TO.nil ?_
    exact TE.jb_go () [] ⟨rfl, trivial⟩ rfl
   refine TO.off (Gd.at 3 true 10 (decide (n ≥ least)) rfl rfl rfl (beq_ft H3)) rfl rfl ?_
   refine TO.off (Gd.at 3 true 10 (decide (n ≥ least)) rfl rfl rfl (beq_ft H3)) rfl rfl ?_
   refine TO.off (Gd.at 3 true 10 (decide (n ≥ least)) rfl rfl rfl (beq_ft H3)) rfl rfl ?_
   refine TO.y (Y.pick_f H3 rfl rfl) rfl rfl rfl ?_
   refine TO.y (Y.assign rfl) rfl rfl rfl ?_
   refine TO.nil ?_
   exact TE.jb_go () [] ⟨rfl, trivial⟩ rfl
  refine TE.next ?_
  refine TW.ret ?_
  exact TE.leaf fun _ _ hf_ hs_ => ret_any (rs := [.tmp 6]) (vs := [.bool T1]) (.inl rfl) rfl ⟨rfl, trivial⟩ hf_ hs_ ⟨(), rfl, hs_.pulls [] rfl⟩

/-- loop.example/g00950/impl.isNumber -/
noncomputable def impl_isNumber (n : Int) : Option Bool :=
  (impl_inRange n (0 : Int) (1000000 : Int)).bind fun R1 =>
  some R1

theorem impl_isNumber_con (n : Int)  (r : Bool) (hm : impl_isNumber n = some r) :
    Con Try.prog 45 [.int .i64 n] [] [] (fun _ : Unit => .bool r) (fun _ => []) := by
  refine Con.intro (args := [.int .i64 n]) (n := 5) (val := fun r (_ : Unit) => .bool r) (post := fun _ _ => []) (m := impl_isNumber n) Try.func45 rfl rfl rfl hm ?_
  intro w S _
  unfold impl_isNumber
  refine TW.seq ?_
  refine TW.region ?_
  refine TO.y (Y.assign rfl) rfl rfl rfl ?_
  refine TO.nil ?_
  refine TE.next ?_
  refine TW.seq ?_
  refine TW.region ?_
  refine TO.y (Y.move rfl) rfl rfl rfl ?_
  refine TO.bind fun R1 H2 => ?_
  refine TO.ef (Ef.call (rest := []) [] (impl_inRange_con n (0 : Int) (1000000 : Int)  R1 H2) kc47 rfl rfl trivial) rfl rfl rfl (fun _ => ?_)
  refine TO.y (Y.assign rfl) rfl rfl rfl ?_
  refine TO.nil ?_
  refine TE.next ?_
  refine TW.ret ?_
  exact TE.leaf fun _ _ hf_ hs_ => ret_any (rs := [.tmp 2]) (vs := [.bool R1]) (.inl rfl) rfl ⟨rfl, trivial⟩ hf_ hs_ ⟨(), rfl, hs_.pulls [] rfl⟩

/-- loop.example/g00950/impl.totalOf -/
noncomputable def impl_totalOf (l : List (List Ent)) : Option Int :=
  bindC (loopO (fun (S1 : Int × Int) => if (decide (S1.2 < ((l.length : Nat) : Int))) = true then ((idx l S1.2).bind fun E6 =>
  some (.go (IntKind.i64.wrap (S1.1 + ((E6.length : Nat) : Int)), IntKind.i64.wrap (S1.2 + (1 : Int)))))
  else (some (.done (.go S1.1))))
  ((0 : Int), (0 : Int)))
  (fun (T3 : Int) => some T3)

theorem impl_totalOf_con (l : List (List Ent)) (V_l0 : Value) (r : Int) (hm : impl_totalOf l = some r) :
    Con Try.prog 53 [V_l0] [] [(V_l0, lc l)] (fun _ : Unit => .int .i64 r) (fun _ => []) := by
  refine Con.intro (args := [V_l0]) (n := 18) (val := fun r (_ : Unit) => .int .i64 r) (post := fun _ _ => []) (m := impl_totalOf l) Try.func53 rfl rfl rfl hm ?_
  intro w S hrd
  have HB_V_l0 := hrd _ (.head _)
  clear hrd
  unfold impl_totalOf
  refine TW.seq ?_
  refine TW.region ?_
  refine TO.y (Y.assign rfl) rfl rfl rfl ?_
  refine TO.nil ?_
  refine TE.next ?_
  refine TW.seq ?_
  refine TW.region ?_
  refine TO.y (Y.assign rfl) rfl rfl rfl ?_
  refine TO.nil ?_
  refine TE.next ?_
  refine TW.seq ?_
  refine TW.seq ?_
  refine TW.region ?_
  refine TO.y (Y.move rfl) rfl rfl rfl ?_
  refine TO.y (Y.len (l := l) ke31 (Base.can HB_V_l0) rfl) rfl rfl rfl ?_
  refine TO.y (Y.move rfl) rfl rfl rfl ?_
  refine TO.nil ?_
  refine TE.next ?_
  refine TW.joinX (τ := Int) (X := Unit) (fun T _ => [(3, .int .i64 T)]) (fun _ _ => []) ?_ (fun T3 X4 => ?_)
  ·refine TW.block ?_
   refine TW.loopX (σ := Int × Int) (X := Unit) (fun T _ => [(3, .int .i64 T.1), (6, V_l0), (7, .int .i64 ((l.length : Nat) : Int)), (8, .int .i64 T.2)]) (fun _ _ => []) () [] ⟨rfl, rfl, rfl, rfl, trivial⟩ rfl (fun S1 X2 => ?_)
   refine TW.seq ?_
   refine TW.region ?_
   refine TO.y (Y.lss rfl rfl) rfl rfl rfl ?_
   refine TO.nil ?_
   refine TE.next ?_
   refine TW.seq ?_
   refine TW.cond rfl (fun H5 => ?_) (fun H5 => ?_)
   ·refine TW.skip ?_
    refine TE.next ?_
    refine TW.seq ?_
    refine TW.block ?_
    refine TW.seq ?_
    refine TW.region ?_
    refine TO.bind fun E6 H7 => ?_
    refine TO.y (Y.index ke31 (Base.can HB_V_l0) H7 rfl rfl) rfl rfl rfl ?_
    have Q8 : Base w S (elv w V_l0 (S1.2.toNat * 1 + 0)) (lc E6) := Base.el HB_V_l0 (idx_get H7).2.2 rfl rfl
    refine TO.y (Y.load_base (α := List Ent) (u := (elv w V_l0 (S1.2.toNat * 1 + 0))) kk30 rfl HB_V_l0 (idx_get H7).2.2 rfl rfl rfl rfl rfl) rfl rfl rfl ?_
    refine TO.y (Y.assign rfl) rfl rfl rfl ?_
    refine TO.nil ?_
    refine TE.next ?_
    refine TW.region ?_
    refine TO.y (Y.move rfl) rfl rfl rfl ?_
    refine TO.y (Y.move rfl) rfl rfl rfl ?_
    refine TO.y (Y.len (l := E6) ke30 (Base.can Q8) rfl) rfl rfl rfl ?_
    refine TO.y (Y.add rfl rfl) rfl rfl rfl ?_
    refine TO.y (Y.assign rfl) rfl rfl rfl ?_
    refine TO.nil ?_
    refine TE.block_normal ?_
    refine TE.next ?_
    refine TW.region ?_
    refine TO.y (Y.add rfl rfl) rfl rfl rfl ?_
    refine TO.y (Y.move rfl) rfl rfl rfl ?_
    refine TO.nil ?_
    exact TE.lp_go () [] ⟨rfl, rfl, rfl, rfl, trivial⟩ rfl
   refine TW.exit ?_
   refine TE.then_exit ?_
   refine TE.lp_exit ?_
   refine TE.block_exit ?_
   exact TE.jn_go () [] ⟨rfl, trivial⟩ rfl
  refine TE.next ?_
  refine TW.seq ?_
  refine TW.region ?_
  refine TO.y (Y.move rfl) rfl rfl rfl ?_
  refine TO.y (Y.assign rfl) rfl rfl rfl ?_
  refine TO.nil ?_
  refine TE.next ?_
  refine TW.ret ?_
  exact TE.leaf fun _ _ hf_ hs_ => ret_any (rs := [.tmp 2]) (vs := [.int .i64 T3]) (.inl rfl) rfl ⟨rfl, trivial⟩ hf_ hs_ ⟨(), rfl, hs_.pulls [] rfl⟩

/-- loop.example/g00950/impl.isKey -/
noncomputable def impl_isKey (s : List UInt8) : Option Bool :=
  (impl_inRange ((s.length : Nat) : Int) (1 : Int) (10 : Int)).bind fun R1 =>
  some R1

theorem impl_isKey_con (s : List UInt8)  (r : Bool) (hm : impl_isKey s = some r) :
    Con Try.prog 70 [strV s] [] [] (fun _ : Unit => .bool r) (fun _ => []) := by
  refine Con.intro (args := [strV s]) (n := 6) (val := fun r (_ : Unit) => .bool r) (post := fun _ _ => []) (m := impl_isKey s) Try.func70 rfl rfl rfl hm ?_
  intro w S _
  unfold impl_isKey
  refine TW.seq ?_
  refine TW.region ?_
  refine TO.y (Y.assign rfl) rfl rfl rfl ?_
  refine TO.nil ?_
  refine TE.next ?_
  refine TW.seq ?_
  refine TW.region ?_
  refine TO.y (Y.move rfl) rfl rfl rfl ?_
  refine TO.y (Y.slen ks9 rfl) rfl rfl rfl ?_
  refine TO.bind fun R1 H2 => ?_
  refine TO.ef (Ef.call (rest := []) [] (impl_inRange_con ((s.length : Nat) : Int) (1 : Int) (10 : Int)  R1 H2) kc47 rfl rfl trivial) rfl rfl rfl (fun _ => ?_)
  refine TO.y (Y.assign rfl) rfl rfl rfl ?_
  refine TO.nil ?_
  refine TE.next ?_
  refine TW.ret ?_
  exact TE.leaf fun _ _ hf_ hs_ => ret_any (rs := [.tmp 2]) (vs := [.bool R1]) (.inl rfl) rfl ⟨rfl, trivial⟩ hf_ hs_ ⟨(), rfl, hs_.pulls [] rfl⟩

/-- loop.example/g00950/impl.isVal -/
noncomputable def impl_isVal (del : Bool) (val : List UInt8) : Option Bool :=
  (if (decide (((val.length : Nat) : Int) ≤ (16 : Int))) = true then (if del = true then (some (!(!(decide (val = ([]))))))
  else (some (!false)))
  else (some false)).bind (fun (T1 : Bool) =>
  some T1)

theorem impl_isVal_con (del : Bool) (val : List UInt8)  (r : Bool) (hm : impl_isVal del val = some r) :
    Con Try.prog 71 [.bool del, strV val] [] [] (fun _ : Unit => .bool r) (fun _ => []) := by
  refine Con.intro (args := [.bool del, strV val]) (n := 16) (val := fun r (_ : Unit) => .bool r) (post := fun _ _ => []) (m := impl_isVal del val) Try.func71 rfl rfl rfl hm ?_
  intro w S _
  unfold impl_isVal
  refine TW.seq ?_
  refine TW.region ?_
  refine TO.y (Y.assign rfl) rfl rfl rfl ?_
  refine TO.nil ?_
  refine TE.next ?_
  refine TW.seq ?_
  refine TW.joinBX (τ := Bool) (X := Unit) (fun T _ => [(4, .bool T)]) (fun _ _ => []) ?_ (fun T1 X2 => ?_)
  ·refine TW.region ?_
   refine TO.y (Y.move rfl) rfl rfl rfl ?_
   refine TO.y (Y.slen ks9 rfl) rfl rfl rfl ?_
   refine TO.y (Y.leq rfl rfl) rfl rfl rfl ?_
   refine TO.y (Y.move rfl) rfl rfl rfl ?_
   refine TO.ite (b := decide (((val.length : Nat) : Int) ≤ (16 : Int))) (fun H3 => ?_) (fun H3 => ?_)
   ·refine TO.y (Y.move rfl) (Gd.at 3 true 8 (decide (((val.length : Nat) : Int) ≤ (16 : Int))) rfl rfl rfl (beq_tt H3)) rfl rfl ?_
    refine TO.y (Y.move rfl) (Gd.at 3 true 8 (decide (((val.length : Nat) : Int) ≤ (16 : Int))) rfl rfl rfl (beq_tt H3)) rfl rfl ?_
    refine TO.ite (b := del) (fun H4 => ?_) (fun H4 => ?_)
    ·refine TO.y (Y.move rfl) (Gd.at 5 true 10 del rfl rfl rfl (beq_tt H4)) rfl rfl ?_
     refine TO.y (Y.sneq rfl rfl) (Gd.at 5 true 10 del rfl rfl rfl (beq_tt H4)) rfl rfl ?_
     refine TO.y (Y.pick_t H4 rfl rfl) (Gd.at 3 true 8 (decide (((val.length : Nat) : Int) ≤ (16 : Int))) rfl rfl rfl (beq_tt H3)) rfl rfl ?_
     refine TO.y (Y.not rfl) (Gd.at 3 true 8 (decide (((val.length : Nat) : Int) ≤ (16 : Int))) rfl rfl rfl (beq_tt H3)) rfl rfl ?_
     refine TO.y (Y.pick_t H3 rfl rfl) rfl rfl rfl ?_
     refine TO.y (Y.assign rfl) rfl rfl rfl ?_
     refine TO.nil ?_
     exact TE.jb_go () [] ⟨rfl, trivial⟩ rfl
    refine TO.off (Gd.at 5 true 10 del rfl rfl rfl (beq_ft H4)) rfl rfl ?_
    refine TO.off (Gd.at 5 true 10 del rfl rfl rfl (beq_ft H4)) rfl rfl ?_
    refine TO.y (Y.pick_f H4 rfl rfl) (Gd.at 3 true 8 (decide (((val.length : Nat) : Int) ≤ (16 : Int))) rfl rfl rfl (beq_tt H3)) rfl rfl ?_
    refine TO.y (Y.not rfl) (Gd.at 3 true 8 (decide (((val.length : Nat) : Int) ≤ (16 : Int))) rfl rfl rfl (beq_tt H3)) rfl rfl ?_
    refine TO.y (Y.pick_t H3 rfl rfl) rfl rfl rfl ?_
    refine TO.y (Y.assign rfl) rfl rfl rfl ?_
    refine TO.nil ?_
    exact TE.jb_go () [] ⟨rfl, trivial⟩ rfl
   refine TO.off (Gd.at 3 true 8 (decide (((val.length : Nat) : Int) ≤ (16 : Int))) rfl rfl rfl (beq_ft H3)) rfl rfl ?_
   refine TO.off (Gd.at 3 true 8 (decide (((val.length : Nat) : Int) ≤ (16 : Int))) rfl rfl rfl (beq_ft H3)) rfl rfl ?_
   refine TO.off (Gd.un 5 true 10 rfl rfl rfl) rfl rfl ?_
   refine TO.off (Gd.un 5 true 10 rfl rfl rfl) rfl rfl ?_
   refine TO.off (Gd.at 3 true 8 (decide (((val.length : Nat) : Int) ≤ (16 : Int))) rfl rfl rfl (beq_ft H3)) rfl rfl ?_
   refine TO.off (Gd.at 3 true 8 (decide (((val.length : Nat) : Int) ≤ (16 : Int))) rfl rfl rfl (beq_ft H3)) rfl rfl ?_
   refine TO.y (Y.pick_f H3 rfl rfl) rfl rfl rfl ?_
   refine TO.y (Y.assign rfl) rfl rfl rfl ?_
   refine TO.nil ?_
   exact TE.jb_go () [] ⟨rfl, trivial⟩ rfl
  refine TE.next ?_
  refine TW.ret ?_
  exact TE.leaf fun _ _ hf_ hs_ => ret_any (rs := [.tmp 4]) (vs := [.bool T1]) (.inl rfl) rfl ⟨rfl, trivial⟩ hf_ hs_ ⟨(), rfl, hs_.pulls [] rfl⟩

end Go.Proofs.Ytnfejohfdkoibaa
