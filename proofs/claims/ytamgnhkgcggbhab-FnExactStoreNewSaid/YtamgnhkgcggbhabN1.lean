/-
  The functions that a law reaches, each as a pure function, with the proof that the program computes it, and the step from a pure law to the given statement. Conditions: none.
-/
import Derived.Test.YtamgnhkgcggbhabSw
import Derived.Test.YtamgnhkgcggbhabRows
set_option linter.unusedVariables false
set_option maxRecDepth 100000
set_option maxHeartbeats 4000000
namespace Go.Proofs.Ytamgnhkgcggbhab
open Go Sl

structure Ent where
  Key : List UInt8
  Seq : Int
  Del : Bool
  Val : List UInt8
  deriving DecidableEq
instance : Enc Ent := ⟨4, fun x => [.str x.Key, .int .i64 x.Seq, .bool x.Del, .str x.Val], fun _ => rfl, by decide⟩
instance : Dec Ent where
  sh := [.str, .int .i64, .bool, .str]
  ok x := x.Key.length ≤ 9223372036854775807 ∧ okI x.Seq ∧ True ∧ x.Val.length ≤ 9223372036854775807
  dec cs h := by
    obtain ⟨c0, r0, rfl, h0, h⟩ := h.cons_inv
    obtain ⟨c1, r1, rfl, h1, h⟩ := h.cons_inv
    obtain ⟨c2, r2, rfl, h2, h⟩ := h.cons_inv
    obtain ⟨c3, r3, rfl, h3, h⟩ := h.cons_inv
    obtain rfl := h.nil_inv
    obtain ⟨y0, rfl, w0⟩ := h0.str_inv
    obtain ⟨y1, rfl, w1_⟩ := h1.int_inv
    have w1 := okI_of w1_
    obtain ⟨y2, rfl⟩ := h2.bool_inv
    have w2 := True.intro
    obtain ⟨y3, rfl, w3⟩ := h3.str_inv
    exact ⟨{ Key := y0, Seq := y1, Del := y2, Val := y3 : Ent }, rfl, w0, w1, w2, w3⟩
instance : Flat Ent := { vals := fun x => [strV x.Key, .int .i64 x.Seq, .bool x.Del, strV x.Val], flat := fun _ => rfl }
instance : Enc (List Ent) := ⟨1, fun l => [lc l], fun _ => rfl, Nat.one_pos⟩
instance : Dec (List Ent) where
  sh := [.sl 4 (Dec.sh Ent)]
  ok l := okl l
  dec cs h := by
    obtain ⟨c0, r0, rfl, h0, h⟩ := h.cons_inv
    obtain rfl := h.nil_inv
    obtain ⟨y0, rfl, w0⟩ := h0.sl_inv (α := Ent) rfl
    exact ⟨y0, rfl, w0⟩
structure Eng where
  Mem : List Ent
  Tables : List (List Ent)
  Seq : Int
  Snaps : List Int
  deriving DecidableEq
instance : Enc Eng := ⟨4, fun x => [lc x.Mem, lc x.Tables, .int .i64 x.Seq, lc x.Snaps], fun _ => rfl, by decide⟩
instance : Dec Eng where
  sh := [.sl 4 (Dec.sh Ent), .sl 1 (Dec.sh (List Ent)), .int .i64, .sl 1 (Dec.sh Int)]
  ok x := okl x.Mem ∧ okl x.Tables ∧ okI x.Seq ∧ okl x.Snaps
  dec cs h := by
    obtain ⟨c0, r0, rfl, h0, h⟩ := h.cons_inv
    obtain ⟨c1, r1, rfl, h1, h⟩ := h.cons_inv
    obtain ⟨c2, r2, rfl, h2, h⟩ := h.cons_inv
    obtain ⟨c3, r3, rfl, h3, h⟩ := h.cons_inv
    obtain rfl := h.nil_inv
    obtain ⟨y0, rfl, w0⟩ := h0.sl_inv (α := Ent) rfl
    obtain ⟨y1, rfl, w1⟩ := h1.sl_inv (α := List Ent) rfl
    obtain ⟨y2, rfl, w2_⟩ := h2.int_inv
    have w2 := okI_of w2_
    obtain ⟨y3, rfl, w3⟩ := h3.sl_inv (α := Int) rfl
    exact ⟨{ Mem := y0, Tables := y1, Seq := y2, Snaps := y3 : Eng }, rfl, w0, w1, w2, w3⟩
structure Op where
  Key : List UInt8
  Del : Bool
  Val : List UInt8
  deriving DecidableEq
instance : Enc Op := ⟨3, fun x => [.str x.Key, .bool x.Del, .str x.Val], fun _ => rfl, by decide⟩
instance : Dec Op where
  sh := [.str, .bool, .str]
  ok x := x.Key.length ≤ 9223372036854775807 ∧ True ∧ x.Val.length ≤ 9223372036854775807
  dec cs h := by
    obtain ⟨c0, r0, rfl, h0, h⟩ := h.cons_inv
    obtain ⟨c1, r1, rfl, h1, h⟩ := h.cons_inv
    obtain ⟨c2, r2, rfl, h2, h⟩ := h.cons_inv
    obtain rfl := h.nil_inv
    obtain ⟨y0, rfl, w0⟩ := h0.str_inv
    obtain ⟨y1, rfl⟩ := h1.bool_inv
    have w1 := True.intro
    obtain ⟨y2, rfl, w2⟩ := h2.str_inv
    exact ⟨{ Key := y0, Del := y1, Val := y2 : Op }, rfl, w0, w1, w2⟩
instance : Flat Op := { vals := fun x => [strV x.Key, .bool x.Del, strV x.Val], flat := fun _ => rfl }
structure KeySlot where
  Tenant : Int
  Key : List UInt8
  deriving DecidableEq
instance : Enc KeySlot := ⟨2, fun x => [.int .i64 x.Tenant, .str x.Key], fun _ => rfl, by decide⟩
instance : Dec KeySlot where
  sh := [.int .i64, .str]
  ok x := okI x.Tenant ∧ x.Key.length ≤ 9223372036854775807
  dec cs h := by
    obtain ⟨c0, r0, rfl, h0, h⟩ := h.cons_inv
    obtain ⟨c1, r1, rfl, h1, h⟩ := h.cons_inv
    obtain rfl := h.nil_inv
    obtain ⟨y0, rfl, w0_⟩ := h0.int_inv
    have w0 := okI_of w0_
    obtain ⟨y1, rfl, w1⟩ := h1.str_inv
    exact ⟨{ Tenant := y0, Key := y1 : KeySlot }, rfl, w0, w1⟩
instance : Flat KeySlot := { vals := fun x => [.int .i64 x.Tenant, strV x.Key], flat := fun _ => rfl }
structure KeyDev where
  Master : List UInt8
  Slots : List KeySlot
  Wiped : Int
  deriving DecidableEq
instance : Enc KeyDev := ⟨3, fun x => [.str x.Master, lc x.Slots, .int .i64 x.Wiped], fun _ => rfl, by decide⟩
instance : Dec KeyDev where
  sh := [.str, .sl 2 (Dec.sh KeySlot), .int .i64]
  ok x := x.Master.length ≤ 9223372036854775807 ∧ okl x.Slots ∧ okI x.Wiped
  dec cs h := by
    obtain ⟨c0, r0, rfl, h0, h⟩ := h.cons_inv
    obtain ⟨c1, r1, rfl, h1, h⟩ := h.cons_inv
    obtain ⟨c2, r2, rfl, h2, h⟩ := h.cons_inv
    obtain rfl := h.nil_inv
    obtain ⟨y0, rfl, w0⟩ := h0.str_inv
    obtain ⟨y1, rfl, w1⟩ := h1.sl_inv (α := KeySlot) rfl
    obtain ⟨y2, rfl, w2_⟩ := h2.int_inv
    have w2 := okI_of w2_
    exact ⟨{ Master := y0, Slots := y1, Wiped := y2 : KeyDev }, rfl, w0, w1, w2⟩
structure Share where
  Tenant : Int
  Quota : Int
  deriving DecidableEq
instance : Enc Share := ⟨2, fun x => [.int .i64 x.Tenant, .int .i64 x.Quota], fun _ => rfl, by decide⟩
instance : Dec Share where
  sh := [.int .i64, .int .i64]
  ok x := okI x.Tenant ∧ okI x.Quota
  dec cs h := by
    obtain ⟨c0, r0, rfl, h0, h⟩ := h.cons_inv
    obtain ⟨c1, r1, rfl, h1, h⟩ := h.cons_inv
    obtain rfl := h.nil_inv
    obtain ⟨y0, rfl, w0_⟩ := h0.int_inv
    have w0 := okI_of w0_
    obtain ⟨y1, rfl, w1_⟩ := h1.int_inv
    have w1 := okI_of w1_
    exact ⟨{ Tenant := y0, Quota := y1 : Share }, rfl, w0, w1⟩
instance : Flat Share := { vals := fun x => [.int .i64 x.Tenant, .int .i64 x.Quota], flat := fun _ => rfl }
structure Shares where
  Size : Int
  List : _root_.List Share
  deriving DecidableEq
instance : Enc Shares := ⟨2, fun x => [.int .i64 x.Size, lc x.List], fun _ => rfl, by decide⟩
instance : Dec Shares where
  sh := [.int .i64, .sl 2 (Dec.sh Share)]
  ok x := okI x.Size ∧ okl x.List
  dec cs h := by
    obtain ⟨c0, r0, rfl, h0, h⟩ := h.cons_inv
    obtain ⟨c1, r1, rfl, h1, h⟩ := h.cons_inv
    obtain rfl := h.nil_inv
    obtain ⟨y0, rfl, w0_⟩ := h0.int_inv
    have w0 := okI_of w0_
    obtain ⟨y1, rfl, w1⟩ := h1.sl_inv (α := Share) rfl
    exact ⟨{ Size := y0, List := y1 : Shares }, rfl, w0, w1⟩
structure STen where
  Id : Int
  Epoch : Int
  Base : Int
  Eng : Eng
  deriving DecidableEq
instance : Enc STen := ⟨7, fun x => [.int .i64 x.Id, .int .i64 x.Epoch, .int .i64 x.Base, lc x.Eng.Mem, lc x.Eng.Tables, .int .i64 x.Eng.Seq, lc x.Eng.Snaps], fun _ => rfl, by decide⟩
instance : Dec STen where
  sh := [.int .i64, .int .i64, .int .i64, .sl 4 (Dec.sh Ent), .sl 1 (Dec.sh (List Ent)), .int .i64, .sl 1 (Dec.sh Int)]
  ok x := okI x.Id ∧ okI x.Epoch ∧ okI x.Base ∧ okl x.Eng.Mem ∧ okl x.Eng.Tables ∧ okI x.Eng.Seq ∧ okl x.Eng.Snaps
  dec cs h := by
    obtain ⟨c0, r0, rfl, h0, h⟩ := h.cons_inv
    obtain ⟨c1, r1, rfl, h1, h⟩ := h.cons_inv
    obtain ⟨c2, r2, rfl, h2, h⟩ := h.cons_inv
    obtain ⟨c3, r3, rfl, h3, h⟩ := h.cons_inv
    obtain ⟨c4, r4, rfl, h4, h⟩ := h.cons_inv
    obtain ⟨c5, r5, rfl, h5, h⟩ := h.cons_inv
    obtain ⟨c6, r6, rfl, h6, h⟩ := h.cons_inv
    obtain rfl := h.nil_inv
    obtain ⟨y0, rfl, w0_⟩ := h0.int_inv
    have w0 := okI_of w0_
    obtain ⟨y1, rfl, w1_⟩ := h1.int_inv
    have w1 := okI_of w1_
    obtain ⟨y2, rfl, w2_⟩ := h2.int_inv
    have w2 := okI_of w2_
    obtain ⟨y3, rfl, w3⟩ := h3.sl_inv (α := Ent) rfl
    obtain ⟨y4, rfl, w4⟩ := h4.sl_inv (α := List Ent) rfl
    obtain ⟨y5, rfl, w5_⟩ := h5.int_inv
    have w5 := okI_of w5_
    obtain ⟨y6, rfl, w6⟩ := h6.sl_inv (α := Int) rfl
    exact ⟨{ Id := y0, Epoch := y1, Base := y2, Eng := { Mem := y3, Tables := y4, Seq := y5, Snaps := y6 : Eng } : STen }, rfl, w0, w1, w2, w3, w4, w5, w6⟩
structure LogRow where
  Tenant : Int
  Boot : Int
  Seq : Int
  Text : List UInt8
  Synced : Bool
  deriving DecidableEq
instance : Enc LogRow := ⟨5, fun x => [.int .i64 x.Tenant, .int .i64 x.Boot, .int .i64 x.Seq, .str x.Text, .bool x.Synced], fun _ => rfl, by decide⟩
instance : Dec LogRow where
  sh := [.int .i64, .int .i64, .int .i64, .str, .bool]
  ok x := okI x.Tenant ∧ okI x.Boot ∧ okI x.Seq ∧ x.Text.length ≤ 9223372036854775807 ∧ True
  dec cs h := by
    obtain ⟨c0, r0, rfl, h0, h⟩ := h.cons_inv
    obtain ⟨c1, r1, rfl, h1, h⟩ := h.cons_inv
    obtain ⟨c2, r2, rfl, h2, h⟩ := h.cons_inv
    obtain ⟨c3, r3, rfl, h3, h⟩ := h.cons_inv
    obtain ⟨c4, r4, rfl, h4, h⟩ := h.cons_inv
    obtain rfl := h.nil_inv
    obtain ⟨y0, rfl, w0_⟩ := h0.int_inv
    have w0 := okI_of w0_
    obtain ⟨y1, rfl, w1_⟩ := h1.int_inv
    have w1 := okI_of w1_
    obtain ⟨y2, rfl, w2_⟩ := h2.int_inv
    have w2 := okI_of w2_
    obtain ⟨y3, rfl, w3⟩ := h3.str_inv
    obtain ⟨y4, rfl⟩ := h4.bool_inv
    have w4 := True.intro
    exact ⟨{ Tenant := y0, Boot := y1, Seq := y2, Text := y3, Synced := y4 : LogRow }, rfl, w0, w1, w2, w3, w4⟩
instance : Flat LogRow := { vals := fun x => [.int .i64 x.Tenant, .int .i64 x.Boot, .int .i64 x.Seq, strV x.Text, .bool x.Synced], flat := fun _ => rfl }
structure Store where
  Secret : List UInt8
  Keys : KeyDev
  Shares : Shares
  Tens : List STen
  Rows : List LogRow
  Hist : List LogRow
  Boot : Int
  deriving DecidableEq
instance : Enc Store := ⟨10, fun x => [.str x.Secret, .str x.Keys.Master, lc x.Keys.Slots, .int .i64 x.Keys.Wiped, .int .i64 x.Shares.Size, lc x.Shares.List, lc x.Tens, lc x.Rows, lc x.Hist, .int .i64 x.Boot], fun _ => rfl, by decide⟩
instance : Dec Store where
  sh := [.str, .str, .sl 2 (Dec.sh KeySlot), .int .i64, .int .i64, .sl 2 (Dec.sh Share), .sl 7 (Dec.sh STen), .sl 5 (Dec.sh LogRow), .sl 5 (Dec.sh LogRow), .int .i64]
  ok x := x.Secret.length ≤ 9223372036854775807 ∧ x.Keys.Master.length ≤ 9223372036854775807 ∧ okl x.Keys.Slots ∧ okI x.Keys.Wiped ∧ okI x.Shares.Size ∧ okl x.Shares.List ∧ okl x.Tens ∧ okl x.Rows ∧ okl x.Hist ∧ okI x.Boot
  dec cs h := by
    obtain ⟨c0, r0, rfl, h0, h⟩ := h.cons_inv
    obtain ⟨c1, r1, rfl, h1, h⟩ := h.cons_inv
    obtain ⟨c2, r2, rfl, h2, h⟩ := h.cons_inv
    obtain ⟨c3, r3, rfl, h3, h⟩ := h.cons_inv
    obtain ⟨c4, r4, rfl, h4, h⟩ := h.cons_inv
    obtain ⟨c5, r5, rfl, h5, h⟩ := h.cons_inv
    obtain ⟨c6, r6, rfl, h6, h⟩ := h.cons_inv
    obtain ⟨c7, r7, rfl, h7, h⟩ := h.cons_inv
    obtain ⟨c8, r8, rfl, h8, h⟩ := h.cons_inv
    obtain ⟨c9, r9, rfl, h9, h⟩ := h.cons_inv
    obtain rfl := h.nil_inv
    obtain ⟨y0, rfl, w0⟩ := h0.str_inv
    obtain ⟨y1, rfl, w1⟩ := h1.str_inv
    obtain ⟨y2, rfl, w2⟩ := h2.sl_inv (α := KeySlot) rfl
    obtain ⟨y3, rfl, w3_⟩ := h3.int_inv
    have w3 := okI_of w3_
    obtain ⟨y4, rfl, w4_⟩ := h4.int_inv
    have w4 := okI_of w4_
    obtain ⟨y5, rfl, w5⟩ := h5.sl_inv (α := Share) rfl
    obtain ⟨y6, rfl, w6⟩ := h6.sl_inv (α := STen) rfl
    obtain ⟨y7, rfl, w7⟩ := h7.sl_inv (α := LogRow) rfl
    obtain ⟨y8, rfl, w8⟩ := h8.sl_inv (α := LogRow) rfl
    obtain ⟨y9, rfl, w9_⟩ := h9.int_inv
    have w9 := okI_of w9_
    exact ⟨{ Secret := y0, Keys := { Master := y1, Slots := y2, Wiped := y3 : KeyDev }, Shares := { Size := y4, List := y5 : Shares }, Tens := y6, Rows := y7, Hist := y8, Boot := y9 : Store }, rfl, w0, w1, w2, w3, w4, w5, w6, w7, w8, w9⟩

theorem hMix : Try.prog.follows .mixedOrders = true := by kernel_rfl
theorem kf99_0 : fieldB Try.prog 99 0 = some 0 := by kernel_rfl
theorem kk9 : kindB Try.prog 9 = some (false, 1) := by kernel_rfl
theorem ks9 : isStrB Try.prog 9 = true := by kernel_rfl
theorem kf99_3 : fieldB Try.prog 99 3 = some 3 := by kernel_rfl
theorem ke33 : elemB Try.prog 33 = some (99, 4, 48) := by kernel_rfl
theorem kk99 : kindB Try.prog 99 = some (true, 4) := by kernel_rfl
theorem kc76 : callB Try.prog 76 = true := by kernel_rfl
theorem ke22 : elemB Try.prog 22 = some (33, 1, 24) := by kernel_rfl
theorem kk33 : kindB Try.prog 33 = some (false, 1) := by kernel_rfl
theorem kc36 : callB Try.prog 36 = true := by kernel_rfl
theorem ke34 : elemB Try.prog 34 = some (3, 1, 8) := by kernel_rfl
theorem kf36_0 : fieldB Try.prog 36 0 = some 0 := by kernel_rfl
theorem kf36_1 : fieldB Try.prog 36 1 = some 1 := by kernel_rfl
theorem kk22 : kindB Try.prog 22 = some (false, 1) := by kernel_rfl
theorem kc9 : callB Try.prog 9 = true := by kernel_rfl
theorem kf36_3 : fieldB Try.prog 36 3 = some 3 := by kernel_rfl
theorem kk34 : kindB Try.prog 34 = some (false, 1) := by kernel_rfl
theorem kc45 : callB Try.prog 45 = true := by kernel_rfl
theorem kz72 : zeroB Try.prog 72 = some (.agg #[strV ([]), .int .i64 (0 : Int), .bool false, strV ([])]) := by kernel_rfl
theorem kf72_0 : fieldB Try.prog 72 0 = some 0 := by kernel_rfl
theorem kf99_1 : fieldB Try.prog 99 1 = some 1 := by kernel_rfl
theorem kk3 : kindB Try.prog 3 = some (false, 1) := by kernel_rfl
theorem kf72_1 : fieldB Try.prog 72 1 = some 1 := by kernel_rfl
theorem kf99_2 : fieldB Try.prog 99 2 = some 2 := by kernel_rfl
theorem kk4 : kindB Try.prog 4 = some (false, 1) := by kernel_rfl
theorem kf72_2 : fieldB Try.prog 72 2 = some 2 := by kernel_rfl
theorem kf72_3 : fieldB Try.prog 72 3 = some 3 := by kernel_rfl
theorem kk72 : kindB Try.prog 72 = some (true, 4) := by kernel_rfl
theorem ke24 : elemB Try.prog 24 = some (72, 4, 48) := by kernel_rfl
theorem kc78 : callB Try.prog 78 = true := by kernel_rfl
theorem kz24 : zeroB Try.prog 24 = some (.slice none 0 0) := by kernel_rfl
theorem ke26 : elemB Try.prog 26 = some (24, 1, 24) := by kernel_rfl
theorem kc39 : callB Try.prog 39 = true := by kernel_rfl
theorem kk24 : kindB Try.prog 24 = some (false, 1) := by kernel_rfl
theorem kz3 : zeroB Try.prog 3 = some (.int .i64 (0 : Int)) := by kernel_rfl
theorem kz39 : zeroB Try.prog 39 = some (.agg #[.slice none 0 0, .slice none 0 0, .int .i64 (0 : Int), .slice none 0 0]) := by kernel_rfl
theorem kf39_0 : fieldB Try.prog 39 0 = some 0 := by kernel_rfl
theorem kc11 : callB Try.prog 11 = true := by kernel_rfl
theorem kf39_1 : fieldB Try.prog 39 1 = some 1 := by kernel_rfl
theorem kk26 : kindB Try.prog 26 = some (false, 1) := by kernel_rfl
theorem kf36_2 : fieldB Try.prog 36 2 = some 2 := by kernel_rfl
theorem kf39_2 : fieldB Try.prog 39 2 = some 2 := by kernel_rfl
theorem kc48 : callB Try.prog 48 = true := by kernel_rfl
theorem kf39_3 : fieldB Try.prog 39 3 = some 3 := by kernel_rfl
theorem kk39 : kindB Try.prog 39 = some (true, 4) := by kernel_rfl
theorem kf126_0 : fieldB Try.prog 126 0 = some 0 := by kernel_rfl
theorem kc56 : callB Try.prog 56 = true := by kernel_rfl
theorem kf126_2 : fieldB Try.prog 126 2 = some 2 := by kernel_rfl
theorem kf126_1 : fieldB Try.prog 126 1 = some 1 := by kernel_rfl
theorem kz126 : zeroB Try.prog 126 = some (.agg #[strV ([]), .bool false, strV ([])]) := by kernel_rfl
theorem kp126 : placesB Try.prog 126 = some [(0, 1), (1, 1), (2, 1)] := by kernel_rfl
theorem kc103 : callB Try.prog 103 = true := by kernel_rfl
theorem kc77 : callB Try.prog 77 = true := by kernel_rfl
theorem kc38 : callB Try.prog 38 = true := by kernel_rfl
theorem kc37 : callB Try.prog 37 = true := by kernel_rfl
theorem kc86 : callB Try.prog 86 = true := by kernel_rfl
theorem kc87 : callB Try.prog 87 = true := by kernel_rfl
theorem kp39 : placesB Try.prog 39 = some [(0, 1), (1, 1), (2, 1), (3, 1)] := by kernel_rfl
theorem kc46 : callB Try.prog 46 = true := by kernel_rfl
theorem kc47 : callB Try.prog 47 = true := by kernel_rfl
theorem kc57 : callB Try.prog 57 = true := by kernel_rfl
theorem kc116 : callB Try.prog 116 = true := by kernel_rfl
theorem kc88 : callB Try.prog 88 = true := by kernel_rfl
theorem kc117 : callB Try.prog 117 = true := by kernel_rfl
theorem kc120 : callB Try.prog 120 = true := by kernel_rfl
theorem kc121 : callB Try.prog 121 = true := by kernel_rfl
theorem kc108 : callB Try.prog 108 = true := by kernel_rfl
theorem kc109 : callB Try.prog 109 = true := by kernel_rfl
theorem kc107 : callB Try.prog 107 = true := by kernel_rfl
theorem kc104 : callB Try.prog 104 = true := by kernel_rfl
theorem kc82 : callB Try.prog 82 = true := by kernel_rfl
theorem kc79 : callB Try.prog 79 = true := by kernel_rfl
theorem kc40 : callB Try.prog 40 = true := by kernel_rfl
theorem kc110 : callB Try.prog 110 = true := by kernel_rfl
theorem kc111 : callB Try.prog 111 = true := by kernel_rfl
theorem kc89 : callB Try.prog 89 = true := by kernel_rfl
theorem kc90 : callB Try.prog 90 = true := by kernel_rfl
theorem kc91 : callB Try.prog 91 = true := by kernel_rfl
theorem kc70 : callB Try.prog 70 = true := by kernel_rfl
theorem kc49 : callB Try.prog 49 = true := by kernel_rfl
theorem kc50 : callB Try.prog 50 = true := by kernel_rfl
theorem kc51 : callB Try.prog 51 = true := by kernel_rfl
theorem kb4 : Try.prog.underlying 4 = some .bool := by kernel_rfl
theorem kc43 : callB Try.prog 43 = true := by kernel_rfl
theorem kc13 : callB Try.prog 13 = true := by kernel_rfl
theorem kc14 : callB Try.prog 14 = true := by kernel_rfl
theorem kc52 : callB Try.prog 52 = true := by kernel_rfl
theorem ki3 : intB Try.prog 3 = some .i64 := by kernel_rfl
theorem ki5 : intB Try.prog 5 = some .u8 := by kernel_rfl
theorem kz5 : zeroB Try.prog 5 = some (.int .u8 (0 : Int)) := by kernel_rfl
theorem ke107 : elemB Try.prog 107 = some (5, 1, 1) := by kernel_rfl
theorem kc44 : callB Try.prog 44 = true := by kernel_rfl
theorem kc16 : callB Try.prog 16 = true := by kernel_rfl
theorem kc15 : callB Try.prog 15 = true := by kernel_rfl
theorem kc53 : callB Try.prog 53 = true := by kernel_rfl
theorem kc17 : callB Try.prog 17 = true := by kernel_rfl
theorem kc54 : callB Try.prog 54 = true := by kernel_rfl
theorem kc55 : callB Try.prog 55 = true := by kernel_rfl
theorem kk36 : kindB Try.prog 36 = some (true, 4) := by kernel_rfl
theorem kc18 : callB Try.prog 18 = true := by kernel_rfl
theorem kc20 : callB Try.prog 20 = true := by kernel_rfl
theorem kc19 : callB Try.prog 19 = true := by kernel_rfl
theorem kc21 : callB Try.prog 21 = true := by kernel_rfl
theorem kc22 : callB Try.prog 22 = true := by kernel_rfl
theorem kc23 : callB Try.prog 23 = true := by kernel_rfl
theorem kc24 : callB Try.prog 24 = true := by kernel_rfl
theorem kz55 : zeroB Try.prog 55 = some (.agg #[strV ([]), strV ([]), .slice none 0 0, .int .i64 (0 : Int), .int .i64 (0 : Int), .slice none 0 0, .slice none 0 0, .slice none 0 0, .slice none 0 0, .int .i64 (0 : Int)]) := by kernel_rfl
theorem kp55 : placesB Try.prog 55 = some [(0, 1), (1, 3), (4, 2), (6, 1), (7, 1), (8, 1), (9, 1)] := by kernel_rfl
theorem kk55 : kindB Try.prog 55 = some (true, 10) := by kernel_rfl
theorem kz48 : zeroB Try.prog 48 = some (.agg #[strV ([]), .slice none 0 0, .int .i64 (0 : Int)]) := by kernel_rfl
theorem kp48 : placesB Try.prog 48 = some [(0, 1), (1, 1), (2, 1)] := by kernel_rfl
theorem kz51 : zeroB Try.prog 51 = some (.agg #[.int .i64 (0 : Int), .slice none 0 0]) := by kernel_rfl
theorem kp51 : placesB Try.prog 51 = some [(0, 1), (1, 1)] := by kernel_rfl
theorem kf134_0 : fieldB Try.prog 134 0 = some 0 := by kernel_rfl
theorem kf134_1 : fieldB Try.prog 134 1 = some 1 := by kernel_rfl
theorem ke46 : elemB Try.prog 46 = some (134, 2, 24) := by kernel_rfl
theorem kk134 : kindB Try.prog 134 = some (true, 2) := by kernel_rfl
theorem kc112 : callB Try.prog 112 = true := by kernel_rfl
theorem kf48_0 : fieldB Try.prog 48 0 = some 0 := by kernel_rfl
theorem kf48_1 : fieldB Try.prog 48 1 = some 1 := by kernel_rfl
theorem kk46 : kindB Try.prog 46 = some (false, 1) := by kernel_rfl
theorem kc92 : callB Try.prog 92 = true := by kernel_rfl
theorem kf48_2 : fieldB Try.prog 48 2 = some 2 := by kernel_rfl
theorem kf137_0 : fieldB Try.prog 137 0 = some 0 := by kernel_rfl
theorem kf137_1 : fieldB Try.prog 137 1 = some 1 := by kernel_rfl
theorem ke49 : elemB Try.prog 49 = some (137, 2, 16) := by kernel_rfl
theorem kk137 : kindB Try.prog 137 = some (true, 2) := by kernel_rfl
theorem kc113 : callB Try.prog 113 = true := by kernel_rfl
theorem kf51_0 : fieldB Try.prog 51 0 = some 0 := by kernel_rfl
theorem kf51_1 : fieldB Try.prog 51 1 = some 1 := by kernel_rfl
theorem kk49 : kindB Try.prog 49 = some (false, 1) := by kernel_rfl
theorem kc93 : callB Try.prog 93 = true := by kernel_rfl
theorem kf115_0 : fieldB Try.prog 115 0 = some 0 := by kernel_rfl
theorem kf115_1 : fieldB Try.prog 115 1 = some 1 := by kernel_rfl
theorem kf115_2 : fieldB Try.prog 115 2 = some 2 := by kernel_rfl
theorem kf115_3 : fieldB Try.prog 115 3 = some 3 := by kernel_rfl
theorem ke52 : elemB Try.prog 52 = some (115, 7, 104) := by kernel_rfl
theorem kk115 : kindB Try.prog 115 = some (true, 7) := by kernel_rfl
theorem kc94 : callB Try.prog 94 = true := by kernel_rfl
theorem kf118_0 : fieldB Try.prog 118 0 = some 0 := by kernel_rfl
theorem kf118_1 : fieldB Try.prog 118 1 = some 1 := by kernel_rfl
theorem kf118_2 : fieldB Try.prog 118 2 = some 2 := by kernel_rfl
theorem kf118_3 : fieldB Try.prog 118 3 = some 3 := by kernel_rfl
theorem kf118_4 : fieldB Try.prog 118 4 = some 4 := by kernel_rfl
theorem ke53 : elemB Try.prog 53 = some (118, 5, 48) := by kernel_rfl
theorem kk118 : kindB Try.prog 118 = some (true, 5) := by kernel_rfl
theorem kc95 : callB Try.prog 95 = true := by kernel_rfl
theorem kf55_0 : fieldB Try.prog 55 0 = some 0 := by kernel_rfl
theorem kf55_1 : fieldB Try.prog 55 1 = some 1 := by kernel_rfl
theorem kk48 : kindB Try.prog 48 = some (true, 3) := by kernel_rfl
theorem kc58 : callB Try.prog 58 = true := by kernel_rfl
theorem kf55_2 : fieldB Try.prog 55 2 = some 4 := by kernel_rfl
theorem kk51 : kindB Try.prog 51 = some (true, 2) := by kernel_rfl
theorem kc59 : callB Try.prog 59 = true := by kernel_rfl
theorem kf55_3 : fieldB Try.prog 55 3 = some 6 := by kernel_rfl
theorem kk52 : kindB Try.prog 52 = some (false, 1) := by kernel_rfl
theorem kc60 : callB Try.prog 60 = true := by kernel_rfl
theorem kf55_4 : fieldB Try.prog 55 4 = some 7 := by kernel_rfl
theorem kk53 : kindB Try.prog 53 = some (false, 1) := by kernel_rfl
theorem kc61 : callB Try.prog 61 = true := by kernel_rfl
theorem kf55_5 : fieldB Try.prog 55 5 = some 8 := by kernel_rfl
theorem kf55_6 : fieldB Try.prog 55 6 = some 9 := by kernel_rfl
theorem kc96 : callB Try.prog 96 = true := by kernel_rfl
theorem kc97 : callB Try.prog 97 = true := by kernel_rfl
theorem kc62 : callB Try.prog 62 = true := by kernel_rfl
theorem kc63 : callB Try.prog 63 = true := by kernel_rfl
theorem kc64 : callB Try.prog 64 = true := by kernel_rfl
theorem kc65 : callB Try.prog 65 = true := by kernel_rfl
theorem kc98 : callB Try.prog 98 = true := by kernel_rfl
theorem kc99 : callB Try.prog 99 = true := by kernel_rfl
theorem kc66 : callB Try.prog 66 = true := by kernel_rfl
theorem kc67 : callB Try.prog 67 = true := by kernel_rfl
theorem kc68 : callB Try.prog 68 = true := by kernel_rfl
theorem kc69 : callB Try.prog 69 = true := by kernel_rfl
theorem kc25 : callB Try.prog 25 = true := by kernel_rfl
theorem kc26 : callB Try.prog 26 = true := by kernel_rfl
theorem kc27 : callB Try.prog 27 = true := by kernel_rfl
theorem kc28 : callB Try.prog 28 = true := by kernel_rfl
theorem kc29 : callB Try.prog 29 = true := by kernel_rfl
theorem kc71 : callB Try.prog 71 = true := by kernel_rfl
theorem kc30 : callB Try.prog 30 = true := by kernel_rfl
theorem kc31 : callB Try.prog 31 = true := by kernel_rfl
theorem hu36 : Try.prog.underlying 36 = some (.struct #[⟨ "Mem", 33, 0, Bool.false, "", "", 0⟩, ⟨ "Tables", 22, 1, Bool.false, "", "", 24⟩, ⟨ "Seq", 3, 2, Bool.false, "", "", 48⟩, ⟨ "Snaps", 34, 3, Bool.false, "", "", 56⟩]) := by kernel_rfl
theorem hs36 : shB Try.prog 20 36 = some (Dec.sh Eng) := by kernel_rfl
theorem hu9 : Try.prog.underlying 9 = some (.string) := by kernel_rfl
theorem hs9 : shB Try.prog 20 9 = some ([.str]) := by kernel_rfl
theorem hu3 : Try.prog.underlying 3 = some (.int .i64) := by kernel_rfl
theorem hs3 : shB Try.prog 20 3 = some ([.int .i64]) := by kernel_rfl

/-- loop.example/g00950/laws.szEnt -/
noncomputable def laws_szEnt (a : Ent) (left : Int) : Option Int :=
  if (decide (IntKind.i64.wrap (left - ((a.Key.length : Nat) : Int)) < (0 : Int))) = true then (some (-1 : Int))
  else (if (decide (IntKind.i64.wrap (IntKind.i64.wrap (left - ((a.Key.length : Nat) : Int)) - ((a.Val.length : Nat) : Int)) < (0 : Int))) = true then (some (-1 : Int))
  else (some (IntKind.i64.wrap (IntKind.i64.wrap (left - ((a.Key.length : Nat) : Int)) - ((a.Val.length : Nat) : Int)))))

theorem laws_szEnt_con (a : Ent) (left : Int)  (r : Int) (hm : laws_szEnt a left = some r) :
    Con Try.prog 76 [.agg #[strV a.Key, .int .i64 a.Seq, .bool a.Del, strV a.Val], .int .i64 left] [] [] (fun _ : Unit => .int .i64 r) (fun _ => []) := by
  refine Con.intro (args := [.agg #[strV a.Key, .int .i64 a.Seq, .bool a.Del, strV a.Val], .int .i64 left]) (n := 20) (val := fun r (_ : Unit) => .int .i64 r) (post := fun _ _ => []) (m := laws_szEnt a left) Try.func76 rfl rfl rfl hm ?_
  intro w S _
  unfold laws_szEnt
  refine TW.seq ?_
  refine TW.region ?_
  refine TO.ef (Ef.box rfl (Cel.plain rfl rfl)) rfl rfl rfl (fun B1 => ?_)
  refine TO.y (Y.assign rfl) rfl rfl rfl ?_
  refine TO.nil ?_
  refine TE.next ?_
  refine TW.seq ?_
  refine TW.region ?_
  refine TO.y (Y.move rfl) rfl rfl rfl ?_
  refine TO.y (Y.field_box kf99_0 rfl rfl) rfl rfl rfl ?_
  refine TO.y (Y.load_box (v := strV a.Key) 0 kk9 rfl rfl rfl) rfl rfl rfl ?_
  refine TO.y (Y.slen ks9 rfl) rfl rfl rfl ?_
  refine TO.y (Y.sub rfl rfl) rfl rfl rfl ?_
  refine TO.y (Y.assign rfl) rfl rfl rfl ?_
  refine TO.nil ?_
  refine TE.next ?_
  refine TW.seq ?_
  refine TW.seq ?_
  refine TW.region ?_
  refine TO.y (Y.move rfl) rfl rfl rfl ?_
  refine TO.y (Y.lss rfl rfl) rfl rfl rfl ?_
  refine TO.nil ?_
  refine TE.next ?_
  refine TW.cond rfl (fun H2 => ?_) (fun H2 => ?_)
  · refine TW.seq ?_
    refine TW.region ?_
    refine TO.y (Y.assign rfl) rfl rfl rfl ?_
    refine TO.nil ?_
    refine TE.next ?_
    refine TW.ret ?_
    refine TE.then_ret ?_
    exact TE.leaf fun _ _ hf_ hs_ => ret_any (rs := [.tmp 4]) (vs := [.int .i64 (-1 : Int)]) (.inl rfl) rfl ⟨rfl, trivial⟩ hf_ hs_ ⟨(), rfl, hs_.pulls [] rfl⟩
  · refine TW.skip ?_
    refine TE.next ?_
    refine TW.seq ?_
    refine TW.region ?_
    refine TO.y (Y.move rfl) rfl rfl rfl ?_
    refine TO.y (Y.field_box kf99_3 rfl rfl) rfl rfl rfl ?_
    refine TO.y (Y.load_box (v := strV a.Val) 0 kk9 rfl rfl rfl) rfl rfl rfl ?_
    refine TO.y (Y.slen ks9 rfl) rfl rfl rfl ?_
    refine TO.y (Y.sub rfl rfl) rfl rfl rfl ?_
    refine TO.y (Y.assign rfl) rfl rfl rfl ?_
    refine TO.nil ?_
    refine TE.next ?_
    refine TW.seq ?_
    refine TW.seq ?_
    refine TW.region ?_
    refine TO.y (Y.move rfl) rfl rfl rfl ?_
    refine TO.y (Y.lss rfl rfl) rfl rfl rfl ?_
    refine TO.nil ?_
    refine TE.next ?_
    refine TW.cond rfl (fun H3 => ?_) (fun H3 => ?_)
    · refine TW.seq ?_
      refine TW.region ?_
      refine TO.y (Y.assign rfl) rfl rfl rfl ?_
      refine TO.nil ?_
      refine TE.next ?_
      refine TW.ret ?_
      refine TE.then_ret ?_
      exact TE.leaf fun _ _ hf_ hs_ => ret_any (rs := [.tmp 4]) (vs := [.int .i64 (-1 : Int)]) (.inl rfl) rfl ⟨rfl, trivial⟩ hf_ hs_ ⟨(), rfl, hs_.pulls [] rfl⟩
    · refine TW.skip ?_
      refine TE.next ?_
      refine TW.seq ?_
      refine TW.region ?_
      refine TO.y (Y.move rfl) rfl rfl rfl ?_
      refine TO.y (Y.assign rfl) rfl rfl rfl ?_
      refine TO.nil ?_
      refine TE.next ?_
      refine TW.ret ?_
      exact TE.leaf fun _ _ hf_ hs_ => ret_any (rs := [.tmp 4]) (vs := [.int .i64 (IntKind.i64.wrap (IntKind.i64.wrap (left - ((a.Key.length : Nat) : Int)) - ((a.Val.length : Nat) : Int)))]) (.inl rfl) rfl ⟨rfl, trivial⟩ hf_ hs_ ⟨(), rfl, hs_.pulls [] rfl⟩

/-- loop.example/g00950/laws.szEntS -/
noncomputable def laws_szEntS (a : List Ent) (left : Int) : Option Int :=
  if (decide (IntKind.i64.wrap (left - ((a.length : Nat) : Int)) < (0 : Int))) = true then (some (-1 : Int))
  else (bindC (loopO (fun (S2 : Int × Int) => if (decide (S2.2 < ((a.length : Nat) : Int))) = true then ((idx a S2.2).bind fun E7 =>
  (laws_szEnt E7 S2.1).bind fun R9 =>
  if (decide (R9 < (0 : Int))) = true then (some (.done (.done (-1 : Int))))
  else (some (.go (R9, IntKind.i64.wrap (S2.2 + (1 : Int))))))
  else (some (.done (.go S2.1))))
  (IntKind.i64.wrap (left - ((a.length : Nat) : Int)), (0 : Int)))
  (fun (T4 : Int) => some T4))

theorem laws_szEntS_con (a : List Ent) (left : Int) (V_a0 : Value) (r : Int) (hm : laws_szEntS a left = some r) :
    Con Try.prog 36 [V_a0, .int .i64 left] [] [(V_a0, lc a)] (fun _ : Unit => .int .i64 r) (fun _ => []) := by
  refine Con.intro (args := [V_a0, .int .i64 left]) (n := 27) (val := fun r (_ : Unit) => .int .i64 r) (post := fun _ _ => []) (m := laws_szEntS a left) Try.func36 rfl rfl rfl hm ?_
  intro w S hrd
  have HB_V_a0 := hrd _ (.head _)
  clear hrd
  unfold laws_szEntS
  refine TW.seq ?_
  refine TW.region ?_
  refine TO.y (Y.assign rfl) rfl rfl rfl ?_
  refine TO.nil ?_
  refine TE.next ?_
  refine TW.seq ?_
  refine TW.region ?_
  refine TO.y (Y.move rfl) rfl rfl rfl ?_
  refine TO.y (Y.move rfl) rfl rfl rfl ?_
  refine TO.y (Y.len (l := a) ke33 (Base.can HB_V_a0) rfl) rfl rfl rfl ?_
  refine TO.y (Y.sub rfl rfl) rfl rfl rfl ?_
  refine TO.y (Y.assign rfl) rfl rfl rfl ?_
  refine TO.nil ?_
  refine TE.next ?_
  refine TW.seq ?_
  refine TW.seq ?_
  refine TW.region ?_
  refine TO.y (Y.move rfl) rfl rfl rfl ?_
  refine TO.y (Y.lss rfl rfl) rfl rfl rfl ?_
  refine TO.nil ?_
  refine TE.next ?_
  refine TW.cond rfl (fun H1 => ?_) (fun H1 => ?_)
  · refine TW.seq ?_
    refine TW.region ?_
    refine TO.y (Y.assign rfl) rfl rfl rfl ?_
    refine TO.nil ?_
    refine TE.next ?_
    refine TW.ret ?_
    refine TE.then_ret ?_
    exact TE.leaf fun _ _ hf_ hs_ => ret_any (rs := [.tmp 4]) (vs := [.int .i64 (-1 : Int)]) (.inl rfl) rfl ⟨rfl, trivial⟩ hf_ hs_ ⟨(), rfl, hs_.pulls [] rfl⟩
  · refine TW.skip ?_
    refine TE.next ?_
    refine TW.seq ?_
    refine TW.seq ?_
    refine TW.region ?_
    refine TO.y (Y.assign rfl) rfl rfl rfl ?_
    refine TO.nil ?_
    refine TE.next ?_
    refine TW.joinX (τ := Int) (X := Unit) (fun T _ => [(1, .int .i64 T)]) (fun _ _ => []) ?_ (fun T4 X5 => ?_)
    · refine TW.block ?_
      refine TW.loopX (σ := Int × Int) (X := Unit) (fun T _ => [(0, V_a0), (1, .int .i64 T.1), (5, .int .i64 T.2)]) (fun _ _ => []) () [] ⟨rfl, rfl, rfl, trivial⟩ rfl (fun S2 X3 => ?_)
      refine TW.seq ?_
      refine TW.seq ?_
      refine TW.region ?_
      refine TO.y (Y.move rfl) rfl rfl rfl ?_
      refine TO.y (Y.move rfl) rfl rfl rfl ?_
      refine TO.y (Y.len (l := a) ke33 (Base.can HB_V_a0) rfl) rfl rfl rfl ?_
      refine TO.y (Y.lss rfl rfl) rfl rfl rfl ?_
      refine TO.nil ?_
      refine TE.next ?_
      refine TW.cond rfl (fun H6 => ?_) (fun H6 => ?_)
      · refine TW.skip ?_
        refine TE.next ?_
        refine TW.seq ?_
        refine TW.block ?_
        refine TW.seq ?_
        refine TW.region ?_
        refine TO.y (Y.move rfl) rfl rfl rfl ?_
        refine TO.y (Y.move rfl) rfl rfl rfl ?_
        refine TO.bind fun E7 H8 => ?_
        refine TO.y (Y.index ke33 (Base.can HB_V_a0) H8 rfl rfl) rfl rfl rfl ?_
        refine TO.y (Y.load_el (us := [strV E7.Key, .int .i64 E7.Seq, .bool E7.Del, strV E7.Val]) (u := .agg #[strV E7.Key, .int .i64 E7.Seq, .bool E7.Del, strV E7.Val]) kk99 rfl (Base.can HB_V_a0) (idx_get H8).2.2 rfl rfl rfl rfl rfl) rfl rfl rfl ?_
        refine TO.y (Y.move rfl) rfl rfl rfl ?_
        refine TO.bind fun R9 H10 => ?_
        refine TO.ef (Ef.call (rest := []) [] (laws_szEnt_con E7 S2.1  R9 H10) kc76 rfl rfl trivial) rfl rfl rfl (fun _ => ?_)
        refine TO.y (Y.assign rfl) rfl rfl rfl ?_
        refine TO.nil ?_
        refine TE.next ?_
        refine TW.seq ?_
        refine TW.region ?_
        refine TO.y (Y.move rfl) rfl rfl rfl ?_
        refine TO.y (Y.lss rfl rfl) rfl rfl rfl ?_
        refine TO.nil ?_
        refine TE.next ?_
        refine TW.cond rfl (fun H12 => ?_) (fun H12 => ?_)
        · refine TW.seq ?_
          refine TW.region ?_
          refine TO.y (Y.assign rfl) rfl rfl rfl ?_
          refine TO.nil ?_
          refine TE.next ?_
          refine TW.ret ?_
          refine TE.block_ret ?_
          refine TE.then_ret ?_
          refine TE.lp_ret ?_
          refine TE.block_ret ?_
          refine TE.jn_done ?_
          refine TE.then_ret ?_
          exact TE.leaf fun _ _ hf_ hs_ => ret_any (rs := [.tmp 4]) (vs := [.int .i64 (-1 : Int)]) (.inl rfl) rfl ⟨rfl, trivial⟩ hf_ hs_ ⟨(), rfl, hs_.pulls [] rfl⟩
        · refine TW.skip ?_
          refine TE.block_normal ?_
          refine TE.next ?_
          refine TW.region ?_
          refine TO.y (Y.move rfl) rfl rfl rfl ?_
          refine TO.y (Y.add rfl rfl) rfl rfl rfl ?_
          refine TO.y (Y.assign rfl) rfl rfl rfl ?_
          refine TO.nil ?_
          exact TE.lp_go () [] ⟨rfl, rfl, rfl, trivial⟩ rfl
      · refine TW.exit ?_
        refine TE.then_exit ?_
        refine TE.lp_exit ?_
        refine TE.block_exit ?_
        exact TE.jn_go () [] ⟨rfl, trivial⟩ rfl
    · refine TE.next ?_
      refine TW.seq ?_
      refine TW.region ?_
      refine TO.y (Y.move rfl) rfl rfl rfl ?_
      refine TO.y (Y.assign rfl) rfl rfl rfl ?_
      refine TO.nil ?_
      refine TE.next ?_
      refine TW.ret ?_
      exact TE.leaf fun _ _ hf_ hs_ => ret_any (rs := [.tmp 4]) (vs := [.int .i64 T4]) (.inl rfl) rfl ⟨rfl, trivial⟩ hf_ hs_ ⟨(), rfl, hs_.pulls [] rfl⟩

/-- loop.example/g00950/laws.szEntSS -/
noncomputable def laws_szEntSS (a : List (List Ent)) (left : Int) : Option Int :=
  if (decide (IntKind.i64.wrap (left - ((a.length : Nat) : Int)) < (0 : Int))) = true then (some (-1 : Int))
  else (bindC (loopO (fun (S2 : Int × Int) => if (decide (S2.2 < ((a.length : Nat) : Int))) = true then ((idx a S2.2).bind fun E7 =>
  (laws_szEntS E7 S2.1).bind fun R10 =>
  if (decide (R10 < (0 : Int))) = true then (some (.done (.done (-1 : Int))))
  else (some (.go (R10, IntKind.i64.wrap (S2.2 + (1 : Int))))))
  else (some (.done (.go S2.1))))
  (IntKind.i64.wrap (left - ((a.length : Nat) : Int)), (0 : Int)))
  (fun (T4 : Int) => some T4))

theorem laws_szEntSS_con (a : List (List Ent)) (left : Int) (V_a0 : Value) (r : Int) (hm : laws_szEntSS a left = some r) :
    Con Try.prog 9 [V_a0, .int .i64 left] [] [(V_a0, lc a)] (fun _ : Unit => .int .i64 r) (fun _ => []) := by
  refine Con.intro (args := [V_a0, .int .i64 left]) (n := 27) (val := fun r (_ : Unit) => .int .i64 r) (post := fun _ _ => []) (m := laws_szEntSS a left) Try.func9 rfl rfl rfl hm ?_
  intro w S hrd
  have HB_V_a0 := hrd _ (.head _)
  clear hrd
  unfold laws_szEntSS
  refine TW.seq ?_
  refine TW.region ?_
  refine TO.y (Y.assign rfl) rfl rfl rfl ?_
  refine TO.nil ?_
  refine TE.next ?_
  refine TW.seq ?_
  refine TW.region ?_
  refine TO.y (Y.move rfl) rfl rfl rfl ?_
  refine TO.y (Y.move rfl) rfl rfl rfl ?_
  refine TO.y (Y.len (l := a) ke22 (Base.can HB_V_a0) rfl) rfl rfl rfl ?_
  refine TO.y (Y.sub rfl rfl) rfl rfl rfl ?_
  refine TO.y (Y.assign rfl) rfl rfl rfl ?_
  refine TO.nil ?_
  refine TE.next ?_
  refine TW.seq ?_
  refine TW.seq ?_
  refine TW.region ?_
  refine TO.y (Y.move rfl) rfl rfl rfl ?_
  refine TO.y (Y.lss rfl rfl) rfl rfl rfl ?_
  refine TO.nil ?_
  refine TE.next ?_
  refine TW.cond rfl (fun H1 => ?_) (fun H1 => ?_)
  · refine TW.seq ?_
    refine TW.region ?_
    refine TO.y (Y.assign rfl) rfl rfl rfl ?_
    refine TO.nil ?_
    refine TE.next ?_
    refine TW.ret ?_
    refine TE.then_ret ?_
    exact TE.leaf fun _ _ hf_ hs_ => ret_any (rs := [.tmp 4]) (vs := [.int .i64 (-1 : Int)]) (.inl rfl) rfl ⟨rfl, trivial⟩ hf_ hs_ ⟨(), rfl, hs_.pulls [] rfl⟩
  · refine TW.skip ?_
    refine TE.next ?_
    refine TW.seq ?_
    refine TW.seq ?_
    refine TW.region ?_
    refine TO.y (Y.assign rfl) rfl rfl rfl ?_
    refine TO.nil ?_
    refine TE.next ?_
    refine TW.joinX (τ := Int) (X := Unit) (fun T _ => [(1, .int .i64 T)]) (fun _ _ => []) ?_ (fun T4 X5 => ?_)
    · refine TW.block ?_
      refine TW.loopX (σ := Int × Int) (X := Unit) (fun T _ => [(0, V_a0), (1, .int .i64 T.1), (5, .int .i64 T.2)]) (fun _ _ => []) () [] ⟨rfl, rfl, rfl, trivial⟩ rfl (fun S2 X3 => ?_)
      refine TW.seq ?_
      refine TW.seq ?_
      refine TW.region ?_
      refine TO.y (Y.move rfl) rfl rfl rfl ?_
      refine TO.y (Y.move rfl) rfl rfl rfl ?_
      refine TO.y (Y.len (l := a) ke22 (Base.can HB_V_a0) rfl) rfl rfl rfl ?_
      refine TO.y (Y.lss rfl rfl) rfl rfl rfl ?_
      refine TO.nil ?_
      refine TE.next ?_
      refine TW.cond rfl (fun H6 => ?_) (fun H6 => ?_)
      · refine TW.skip ?_
        refine TE.next ?_
        refine TW.seq ?_
        refine TW.block ?_
        refine TW.seq ?_
        refine TW.region ?_
        refine TO.y (Y.move rfl) rfl rfl rfl ?_
        refine TO.y (Y.move rfl) rfl rfl rfl ?_
        refine TO.bind fun E7 H8 => ?_
        refine TO.y (Y.index ke22 (Base.can HB_V_a0) H8 rfl rfl) rfl rfl rfl ?_
        have Q9 : Base w S (elv w V_a0 (S2.2.toNat * 1 + 0)) (lc E7) := Base.el HB_V_a0 (idx_get H8).2.2 rfl rfl
        refine TO.y (Y.load_base (α := List Ent) (u := (elv w V_a0 (S2.2.toNat * 1 + 0))) kk33 rfl HB_V_a0 (idx_get H8).2.2 rfl rfl rfl rfl rfl) rfl rfl rfl ?_
        refine TO.y (Y.move rfl) rfl rfl rfl ?_
        refine TO.bind fun R10 H11 => ?_
        refine TO.ef (Ef.call (rest := []) [] (laws_szEntS_con E7 S2.1 (elv w V_a0 (S2.2.toNat * 1 + 0)) R10 H11) kc36 rfl rfl ⟨(Base.can Q9), trivial⟩) rfl rfl rfl (fun _ => ?_)
        refine TO.y (Y.assign rfl) rfl rfl rfl ?_
        refine TO.nil ?_
        refine TE.next ?_
        refine TW.seq ?_
        refine TW.region ?_
        refine TO.y (Y.move rfl) rfl rfl rfl ?_
        refine TO.y (Y.lss rfl rfl) rfl rfl rfl ?_
        refine TO.nil ?_
        refine TE.next ?_
        refine TW.cond rfl (fun H13 => ?_) (fun H13 => ?_)
        · refine TW.seq ?_
          refine TW.region ?_
          refine TO.y (Y.assign rfl) rfl rfl rfl ?_
          refine TO.nil ?_
          refine TE.next ?_
          refine TW.ret ?_
          refine TE.block_ret ?_
          refine TE.then_ret ?_
          refine TE.lp_ret ?_
          refine TE.block_ret ?_
          refine TE.jn_done ?_
          refine TE.then_ret ?_
          exact TE.leaf fun _ _ hf_ hs_ => ret_any (rs := [.tmp 4]) (vs := [.int .i64 (-1 : Int)]) (.inl rfl) rfl ⟨rfl, trivial⟩ hf_ hs_ ⟨(), rfl, hs_.pulls [] rfl⟩
        · refine TW.skip ?_
          refine TE.block_normal ?_
          refine TE.next ?_
          refine TW.region ?_
          refine TO.y (Y.move rfl) rfl rfl rfl ?_
          refine TO.y (Y.add rfl rfl) rfl rfl rfl ?_
          refine TO.y (Y.assign rfl) rfl rfl rfl ?_
          refine TO.nil ?_
          exact TE.lp_go () [] ⟨rfl, rfl, rfl, trivial⟩ rfl
      · refine TW.exit ?_
        refine TE.then_exit ?_
        refine TE.lp_exit ?_
        refine TE.block_exit ?_
        exact TE.jn_go () [] ⟨rfl, trivial⟩ rfl
    · refine TE.next ?_
      refine TW.seq ?_
      refine TW.region ?_
      refine TO.y (Y.move rfl) rfl rfl rfl ?_
      refine TO.y (Y.assign rfl) rfl rfl rfl ?_
      refine TO.nil ?_
      refine TE.next ?_
      refine TW.ret ?_
      exact TE.leaf fun _ _ hf_ hs_ => ret_any (rs := [.tmp 4]) (vs := [.int .i64 T4]) (.inl rfl) rfl ⟨rfl, trivial⟩ hf_ hs_ ⟨(), rfl, hs_.pulls [] rfl⟩

/-- loop.example/g00950/laws.szIntS -/
noncomputable def laws_szIntS (a : List Int) (left : Int) : Option Int :=
  if (decide (IntKind.i64.wrap (left - ((a.length : Nat) : Int)) < (0 : Int))) = true then (some (-1 : Int))
  else (some (IntKind.i64.wrap (left - ((a.length : Nat) : Int))))

theorem laws_szIntS_con (a : List Int) (left : Int) (V_a0 : Value) (r : Int) (hm : laws_szIntS a left = some r) :
    Con Try.prog 45 [V_a0, .int .i64 left] [] [(V_a0, lc a)] (fun _ : Unit => .int .i64 r) (fun _ => []) := by
  refine Con.intro (args := [V_a0, .int .i64 left]) (n := 12) (val := fun r (_ : Unit) => .int .i64 r) (post := fun _ _ => []) (m := laws_szIntS a left) Try.func45 rfl rfl rfl hm ?_
  intro w S hrd
  have HB_V_a0 := hrd _ (.head _)
  clear hrd
  unfold laws_szIntS
  refine TW.seq ?_
  refine TW.region ?_
  refine TO.y (Y.assign rfl) rfl rfl rfl ?_
  refine TO.nil ?_
  refine TE.next ?_
  refine TW.seq ?_
  refine TW.region ?_
  refine TO.y (Y.move rfl) rfl rfl rfl ?_
  refine TO.y (Y.move rfl) rfl rfl rfl ?_
  refine TO.y (Y.len (l := a) ke34 (Base.can HB_V_a0) rfl) rfl rfl rfl ?_
  refine TO.y (Y.sub rfl rfl) rfl rfl rfl ?_
  refine TO.y (Y.assign rfl) rfl rfl rfl ?_
  refine TO.nil ?_
  refine TE.next ?_
  refine TW.seq ?_
  refine TW.seq ?_
  refine TW.region ?_
  refine TO.y (Y.move rfl) rfl rfl rfl ?_
  refine TO.y (Y.lss rfl rfl) rfl rfl rfl ?_
  refine TO.nil ?_
  refine TE.next ?_
  refine TW.cond rfl (fun H1 => ?_) (fun H1 => ?_)
  · refine TW.seq ?_
    refine TW.region ?_
    refine TO.y (Y.assign rfl) rfl rfl rfl ?_
    refine TO.nil ?_
    refine TE.next ?_
    refine TW.ret ?_
    refine TE.then_ret ?_
    exact TE.leaf fun _ _ hf_ hs_ => ret_any (rs := [.tmp 4]) (vs := [.int .i64 (-1 : Int)]) (.inl rfl) rfl ⟨rfl, trivial⟩ hf_ hs_ ⟨(), rfl, hs_.pulls [] rfl⟩
  · refine TW.skip ?_
    refine TE.next ?_
    refine TW.seq ?_
    refine TW.region ?_
    refine TO.y (Y.move rfl) rfl rfl rfl ?_
    refine TO.y (Y.assign rfl) rfl rfl rfl ?_
    refine TO.nil ?_
    refine TE.next ?_
    refine TW.ret ?_
    exact TE.leaf fun _ _ hf_ hs_ => ret_any (rs := [.tmp 4]) (vs := [.int .i64 (IntKind.i64.wrap (left - ((a.length : Nat) : Int)))]) (.inl rfl) rfl ⟨rfl, trivial⟩ hf_ hs_ ⟨(), rfl, hs_.pulls [] rfl⟩

/-- loop.example/g00950/laws.szEng -/
noncomputable def laws_szEng (a : Eng) (left : Int) : Option Int :=
  (laws_szEntS a.Mem left).bind fun R2 =>
  if (decide (R2 < (0 : Int))) = true then (some (-1 : Int))
  else ((laws_szEntSS a.Tables R2).bind fun R6 =>
  if (decide (R6 < (0 : Int))) = true then (some (-1 : Int))
  else ((laws_szIntS a.Snaps R6).bind fun R10 =>
  if (decide (R10 < (0 : Int))) = true then (some (-1 : Int))
  else (some R10)))

theorem laws_szEng_con (a : Eng) (left : Int) (V_a0 : Value) (V_a1 : Value) (V_a3 : Value) (r : Int) (hm : laws_szEng a left = some r) :
    Con Try.prog 18 [.agg #[V_a0, V_a1, .int .i64 a.Seq, V_a3], .int .i64 left] [] [(V_a0, lc a.Mem), (V_a1, lc a.Tables), (V_a3, lc a.Snaps)] (fun _ : Unit => .int .i64 r) (fun _ => []) := by
  refine Con.intro (args := [.agg #[V_a0, V_a1, .int .i64 a.Seq, V_a3], .int .i64 left]) (n := 24) (val := fun r (_ : Unit) => .int .i64 r) (post := fun _ _ => []) (m := laws_szEng a left) Try.func18 rfl rfl rfl hm ?_
  intro w S hrd
  have HB_V_a0 := hrd _ (.head _)
  have HB_V_a1 := hrd _ (.tail _ (.head _))
  have HB_V_a3 := hrd _ (.tail _ (.tail _ (.head _)))
  clear hrd
  unfold laws_szEng
  refine TW.seq ?_
  refine TW.region ?_
  refine TO.ef (Ef.box rfl (Cel.agg ⟨(One.can (Base.can HB_V_a0)), (One.can (Base.can HB_V_a1)), (One.plain rfl), (One.can (Base.can HB_V_a3)), trivial⟩)) rfl rfl rfl (fun B1 => ?_)
  refine TO.y (Y.assign rfl) rfl rfl rfl ?_
  refine TO.nil ?_
  refine TE.next ?_
  refine TW.seq ?_
  refine TW.region ?_
  refine TO.y (Y.field_box kf36_0 rfl rfl) rfl rfl rfl ?_
  refine TO.y (Y.load_box (v := V_a0) 0 kk33 rfl rfl rfl) rfl rfl rfl ?_
  refine TO.y (Y.move rfl) rfl rfl rfl ?_
  refine TO.bind fun R2 H3 => ?_
  refine TO.ef (Ef.call (rest := [.box B1 36 [V_a0, V_a1, .int .i64 a.Seq, V_a3]]) [0] (laws_szEntS_con a.Mem left V_a0 R2 H3) kc36 rfl rfl ⟨(Base.can HB_V_a0), trivial⟩) rfl rfl rfl (fun _ => ?_)
  refine TO.y (Y.assign rfl) rfl rfl rfl ?_
  refine TO.nil ?_
  refine TE.next ?_
  refine TW.seq ?_
  refine TW.seq ?_
  refine TW.region ?_
  refine TO.y (Y.move rfl) rfl rfl rfl ?_
  refine TO.y (Y.lss rfl rfl) rfl rfl rfl ?_
  refine TO.nil ?_
  refine TE.next ?_
  refine TW.cond rfl (fun H5 => ?_) (fun H5 => ?_)
  · refine TW.seq ?_
    refine TW.region ?_
    refine TO.y (Y.assign rfl) rfl rfl rfl ?_
    refine TO.nil ?_
    refine TE.next ?_
    refine TW.ret ?_
    refine TE.then_ret ?_
    exact TE.leaf fun _ _ hf_ hs_ => ret_any (rs := [.tmp 4]) (vs := [.int .i64 (-1 : Int)]) (.inl rfl) rfl ⟨rfl, trivial⟩ hf_ hs_ ⟨(), rfl, hs_.pulls [] rfl⟩
  · refine TW.skip ?_
    refine TE.next ?_
    refine TW.seq ?_
    refine TW.region ?_
    refine TO.y (Y.field_box kf36_1 rfl rfl) rfl rfl rfl ?_
    refine TO.y (Y.load_box (v := V_a1) 0 kk22 rfl rfl rfl) rfl rfl rfl ?_
    refine TO.y (Y.move rfl) rfl rfl rfl ?_
    refine TO.bind fun R6 H7 => ?_
    refine TO.ef (Ef.call (rest := [.box B1 36 [V_a0, V_a1, .int .i64 a.Seq, V_a3]]) [0] (laws_szEntSS_con a.Tables R2 V_a1 R6 H7) kc9 rfl rfl ⟨(Base.can HB_V_a1), trivial⟩) rfl rfl rfl (fun _ => ?_)
    refine TO.y (Y.assign rfl) rfl rfl rfl ?_
    refine TO.nil ?_
    refine TE.next ?_
    refine TW.seq ?_
    refine TW.seq ?_
    refine TW.region ?_
    refine TO.y (Y.move rfl) rfl rfl rfl ?_
    refine TO.y (Y.lss rfl rfl) rfl rfl rfl ?_
    refine TO.nil ?_
    refine TE.next ?_
    refine TW.cond rfl (fun H9 => ?_) (fun H9 => ?_)
    · refine TW.seq ?_
      refine TW.region ?_
      refine TO.y (Y.assign rfl) rfl rfl rfl ?_
      refine TO.nil ?_
      refine TE.next ?_
      refine TW.ret ?_
      refine TE.then_ret ?_
      exact TE.leaf fun _ _ hf_ hs_ => ret_any (rs := [.tmp 4]) (vs := [.int .i64 (-1 : Int)]) (.inl rfl) rfl ⟨rfl, trivial⟩ hf_ hs_ ⟨(), rfl, hs_.pulls [] rfl⟩
    · refine TW.skip ?_
      refine TE.next ?_
      refine TW.seq ?_
      refine TW.region ?_
      refine TO.y (Y.field_box kf36_3 rfl rfl) rfl rfl rfl ?_
      refine TO.y (Y.load_box (v := V_a3) 0 kk34 rfl rfl rfl) rfl rfl rfl ?_
      refine TO.y (Y.move rfl) rfl rfl rfl ?_
      refine TO.bind fun R10 H11 => ?_
      refine TO.ef (Ef.call (rest := [.box B1 36 [V_a0, V_a1, .int .i64 a.Seq, V_a3]]) [0] (laws_szIntS_con a.Snaps R6 V_a3 R10 H11) kc45 rfl rfl ⟨(Base.can HB_V_a3), trivial⟩) rfl rfl rfl (fun _ => ?_)
      refine TO.y (Y.assign rfl) rfl rfl rfl ?_
      refine TO.nil ?_
      refine TE.next ?_
      refine TW.seq ?_
      refine TW.seq ?_
      refine TW.region ?_
      refine TO.y (Y.move rfl) rfl rfl rfl ?_
      refine TO.y (Y.lss rfl rfl) rfl rfl rfl ?_
      refine TO.nil ?_
      refine TE.next ?_
      refine TW.cond rfl (fun H13 => ?_) (fun H13 => ?_)
      · refine TW.seq ?_
        refine TW.region ?_
        refine TO.y (Y.assign rfl) rfl rfl rfl ?_
        refine TO.nil ?_
        refine TE.next ?_
        refine TW.ret ?_
        refine TE.then_ret ?_
        exact TE.leaf fun _ _ hf_ hs_ => ret_any (rs := [.tmp 4]) (vs := [.int .i64 (-1 : Int)]) (.inl rfl) rfl ⟨rfl, trivial⟩ hf_ hs_ ⟨(), rfl, hs_.pulls [] rfl⟩
      · refine TW.skip ?_
        refine TE.next ?_
        refine TW.seq ?_
        refine TW.region ?_
        refine TO.y (Y.move rfl) rfl rfl rfl ?_
        refine TO.y (Y.assign rfl) rfl rfl rfl ?_
        refine TO.nil ?_
        refine TE.next ?_
        refine TW.ret ?_
        exact TE.leaf fun _ _ hf_ hs_ => ret_any (rs := [.tmp 4]) (vs := [.int .i64 R10]) (.inl rfl) rfl ⟨rfl, trivial⟩ hf_ hs_ ⟨(), rfl, hs_.pulls [] rfl⟩

/-- loop.example/g00950/laws.toEnt -/
noncomputable def laws_toEnt (a : Ent) : Option Ent :=
  some a

theorem laws_toEnt_con (a : Ent)  (r : Ent) (hm : laws_toEnt a = some r) :
    Con Try.prog 78 [.agg #[strV a.Key, .int .i64 a.Seq, .bool a.Del, strV a.Val]] [] [] (fun _ : Unit => .agg #[strV r.Key, .int .i64 r.Seq, .bool r.Del, strV r.Val]) (fun _ => []) := by
  refine Con.intro (args := [.agg #[strV a.Key, .int .i64 a.Seq, .bool a.Del, strV a.Val]]) (n := 17) (val := fun r (_ : Unit) => .agg #[strV r.Key, .int .i64 r.Seq, .bool r.Del, strV r.Val]) (post := fun _ _ => []) (m := laws_toEnt a) Try.func78 rfl rfl rfl hm ?_
  intro w S _
  unfold laws_toEnt
  refine TW.seq ?_
  refine TW.region ?_
  refine TO.ef (Ef.box rfl (Cel.plain rfl rfl)) rfl rfl rfl (fun B1 => ?_)
  refine TO.ef (Ef.alloc kz72 rfl) rfl rfl rfl (fun B2 => ?_)
  refine TO.nil ?_
  refine TE.next ?_
  refine TW.seq ?_
  refine TW.region ?_
  refine TO.ef (Ef.alloc kz72 rfl) rfl rfl rfl (fun B3 => ?_)
  refine TO.nil ?_
  refine TE.next ?_
  refine TW.seq ?_
  refine TW.region ?_
  refine TO.y (Y.field_box kf99_0 rfl rfl) rfl rfl rfl ?_
  refine TO.y (Y.load_box (v := strV a.Key) 2 kk9 rfl rfl rfl) rfl rfl rfl ?_
  refine TO.y (Y.field_box kf72_0 rfl rfl) rfl rfl rfl ?_
  refine TO.ef0 (Ef.store_box (us := [strV a.Key]) (vs' := [strV a.Key, .int .i64 (0 : Int), .bool false, strV ([])]) (is' := [.box B3 72 [strV a.Key, .int .i64 (0 : Int), .bool false, strV ([])], .box B2 72 [strV ([]), .int .i64 (0 : Int), .bool false, strV ([])], .box B1 99 [strV a.Key, .int .i64 a.Seq, .bool a.Del, strV a.Val]]) 0 kk9 rfl rfl rfl (Cel.plain rfl rfl) rfl rfl rfl rfl) rfl rfl (fun _ => ?_)
  refine TO.nil ?_
  refine TE.next ?_
  refine TW.seq ?_
  refine TW.region ?_
  refine TO.y (Y.field_box kf99_1 rfl rfl) rfl rfl rfl ?_
  refine TO.y (Y.load_box (v := .int .i64 a.Seq) 2 kk3 rfl rfl rfl) rfl rfl rfl ?_
  refine TO.y (Y.field_box kf72_1 rfl rfl) rfl rfl rfl ?_
  refine TO.ef0 (Ef.store_box (us := [.int .i64 a.Seq]) (vs' := [strV a.Key, .int .i64 a.Seq, .bool false, strV ([])]) (is' := [.box B3 72 [strV a.Key, .int .i64 a.Seq, .bool false, strV ([])], .box B2 72 [strV ([]), .int .i64 (0 : Int), .bool false, strV ([])], .box B1 99 [strV a.Key, .int .i64 a.Seq, .bool a.Del, strV a.Val]]) 0 kk3 rfl rfl rfl (Cel.plain rfl rfl) rfl rfl rfl rfl) rfl rfl (fun _ => ?_)
  refine TO.nil ?_
  refine TE.next ?_
  refine TW.seq ?_
  refine TW.region ?_
  refine TO.y (Y.field_box kf99_2 rfl rfl) rfl rfl rfl ?_
  refine TO.y (Y.load_box (v := .bool a.Del) 2 kk4 rfl rfl rfl) rfl rfl rfl ?_
  refine TO.y (Y.field_box kf72_2 rfl rfl) rfl rfl rfl ?_
  refine TO.ef0 (Ef.store_box (us := [.bool a.Del]) (vs' := [strV a.Key, .int .i64 a.Seq, .bool a.Del, strV ([])]) (is' := [.box B3 72 [strV a.Key, .int .i64 a.Seq, .bool a.Del, strV ([])], .box B2 72 [strV ([]), .int .i64 (0 : Int), .bool false, strV ([])], .box B1 99 [strV a.Key, .int .i64 a.Seq, .bool a.Del, strV a.Val]]) 0 kk4 rfl rfl rfl (Cel.plain rfl rfl) rfl rfl rfl rfl) rfl rfl (fun _ => ?_)
  refine TO.nil ?_
  refine TE.next ?_
  refine TW.seq ?_
  refine TW.region ?_
  refine TO.y (Y.field_box kf99_3 rfl rfl) rfl rfl rfl ?_
  refine TO.y (Y.load_box (v := strV a.Val) 2 kk9 rfl rfl rfl) rfl rfl rfl ?_
  refine TO.y (Y.field_box kf72_3 rfl rfl) rfl rfl rfl ?_
  refine TO.ef0 (Ef.store_box (us := [strV a.Val]) (vs' := [strV a.Key, .int .i64 a.Seq, .bool a.Del, strV a.Val]) (is' := [.box B3 72 [strV a.Key, .int .i64 a.Seq, .bool a.Del, strV a.Val], .box B2 72 [strV ([]), .int .i64 (0 : Int), .bool false, strV ([])], .box B1 99 [strV a.Key, .int .i64 a.Seq, .bool a.Del, strV a.Val]]) 0 kk9 rfl rfl rfl (Cel.plain rfl rfl) rfl rfl rfl rfl) rfl rfl (fun _ => ?_)
  refine TO.nil ?_
  refine TE.next ?_
  refine TW.seq ?_
  refine TW.region ?_
  refine TO.y (Y.load_box (v := .agg #[strV a.Key, .int .i64 a.Seq, .bool a.Del, strV a.Val]) 0 kk72 rfl rfl rfl) rfl rfl rfl ?_
  refine TO.ef0 (Ef.store_box (us := [strV a.Key, .int .i64 a.Seq, .bool a.Del, strV a.Val]) (vs' := [strV a.Key, .int .i64 a.Seq, .bool a.Del, strV a.Val]) (is' := [.box B3 72 [strV a.Key, .int .i64 a.Seq, .bool a.Del, strV a.Val], .box B2 72 [strV a.Key, .int .i64 a.Seq, .bool a.Del, strV a.Val], .box B1 99 [strV a.Key, .int .i64 a.Seq, .bool a.Del, strV a.Val]]) 1 kk72 rfl rfl rfl (Cel.plain rfl rfl) rfl rfl rfl rfl) rfl rfl (fun _ => ?_)
  refine TO.nil ?_
  refine TE.next ?_
  refine TW.ret ?_
  exact TE.leaf fun _ _ hf_ hs_ => ret_any (rs := [.cell 2 72]) (vs := [.agg #[strV a.Key, .int .i64 a.Seq, .bool a.Del, strV a.Val]]) (.inl rfl) rfl (RV.cell 1 rfl rfl kk72 rfl trivial) hf_ hs_ ⟨(), rfl, hs_.pulls [] rfl⟩

/-- loop.example/g00950/laws.toEntS -/
noncomputable def laws_toEntS (a : List Ent) : Option (List Ent) :=
  (mkLen 48 ((a.length : Nat) : Int)).bind fun E2 =>
  bindC (loopO (fun (S4 : Int × List Ent) => if (decide (S4.1 < ((a.length : Nat) : Int))) = true then ((idx a S4.1).bind fun E9 =>
  (laws_toEnt E9).bind fun R11 =>
  (idx S4.2 S4.1).bind fun E14 =>
  some (.go (IntKind.i64.wrap (S4.1 + (1 : Int)), (S4.2.set S4.1.toNat R11))))
  else (some (.done (.go S4.2))))
  ((0 : Int), (List.replicate E2 ({ Key := [], Seq := (0 : Int), Del := false, Val := [] : Ent } : Ent))))
  (fun (T6 : List Ent) => some T6)

theorem laws_toEntS_con (a : List Ent) (V_a0 : Value) (r : List Ent) (hm : laws_toEntS a = some r) :
    Con Try.prog 39 [V_a0] [] [(V_a0, lc a)] (fun X : Value => X) (fun X => [.own X (lc r)]) := by
  refine Con.intro (args := [V_a0]) (n := 23) (val := fun _ (X : Value) => X) (post := fun r X => [.own X (lc r)]) (m := laws_toEntS a) Try.func39 rfl rfl rfl hm ?_
  intro w S hrd
  have HB_V_a0 := hrd _ (.head _)
  clear hrd
  unfold laws_toEntS
  refine TW.seq ?_
  refine TW.region ?_
  refine TO.y (Y.assign rfl) rfl rfl rfl ?_
  refine TO.nil ?_
  refine TE.next ?_
  refine TW.seq ?_
  refine TW.region ?_
  refine TO.y (Y.move rfl) rfl rfl rfl ?_
  refine TO.y (Y.len (l := a) ke33 (Base.can HB_V_a0) rfl) rfl rfl rfl ?_
  refine TO.bind fun E2 H3 => ?_
  refine TO.ef (Ef.make (α := Ent) (z := ({ Key := [], Seq := (0 : Int), Del := false, Val := [] : Ent } : Ent)) H3 ke24 kz72 rfl rfl rfl rfl) rfl rfl rfl (fun V1 => ?_)
  refine TO.y (Y.assign rfl) rfl rfl rfl ?_
  refine TO.nil ?_
  refine TE.next ?_
  refine TW.seq ?_
  refine TW.seq ?_
  refine TW.region ?_
  refine TO.y (Y.assign rfl) rfl rfl rfl ?_
  refine TO.nil ?_
  refine TE.next ?_
  refine TW.joinX (τ := List Ent) (X := Unit) (fun _ _ => [(3, V1)]) (fun T _ => [.own V1 (lc T)]) ?_ (fun T6 X7 => ?_)
  · refine TW.block ?_
    refine TW.loopX (σ := Int × List Ent) (X := Unit) (fun T _ => [(0, V_a0), (3, V1), (4, .int .i64 T.1)]) (fun T _ => [.own V1 (lc T.2)]) () [0] ⟨rfl, rfl, rfl, trivial⟩ rfl (fun S4 X5 => ?_)
    refine TW.seq ?_
    refine TW.seq ?_
    refine TW.region ?_
    refine TO.y (Y.move rfl) rfl rfl rfl ?_
    refine TO.y (Y.move rfl) rfl rfl rfl ?_
    refine TO.y (Y.len (l := a) ke33 (Base.can HB_V_a0) rfl) rfl rfl rfl ?_
    refine TO.y (Y.lss rfl rfl) rfl rfl rfl ?_
    refine TO.nil ?_
    refine TE.next ?_
    refine TW.cond rfl (fun H8 => ?_) (fun H8 => ?_)
    · refine TW.skip ?_
      refine TE.next ?_
      refine TW.seq ?_
      refine TW.block ?_
      refine TW.region ?_
      refine TO.y (Y.move rfl) rfl rfl rfl ?_
      refine TO.y (Y.move rfl) rfl rfl rfl ?_
      refine TO.y (Y.move rfl) rfl rfl rfl ?_
      refine TO.y (Y.move rfl) rfl rfl rfl ?_
      refine TO.bind fun E9 H10 => ?_
      refine TO.y (Y.index ke33 (Base.can HB_V_a0) H10 rfl rfl) rfl rfl rfl ?_
      refine TO.y (Y.load_el (us := [strV E9.Key, .int .i64 E9.Seq, .bool E9.Del, strV E9.Val]) (u := .agg #[strV E9.Key, .int .i64 E9.Seq, .bool E9.Del, strV E9.Val]) kk99 rfl (Base.can HB_V_a0) (idx_get H10).2.2 rfl rfl rfl rfl rfl) rfl rfl rfl ?_
      refine TO.bind fun R11 H12 => ?_
      refine TO.ef (Ef.call (rest := [.own V1 (lc S4.2)]) [0] (laws_toEnt_con E9  R11 H12) kc78 rfl rfl trivial) rfl rfl rfl (fun _ => ?_)
      refine TO.bind fun E14 H15 => ?_
      refine TO.y (Y.index ke24 (Can.own 0 rfl) H15 rfl rfl) rfl rfl rfl ?_
      refine TO.ef0 (Ef.store_el (us := [strV R11.Key, .int .i64 R11.Seq, .bool R11.Del, strV R11.Val]) (is' := [.own V1 (lc (S4.2.set S4.1.toNat R11))]) R11 0 kk72 rfl rfl (idx_get H15).2.2 rfl rfl (Cel.plain rfl rfl) rfl rfl rfl rfl) rfl rfl (fun _ => ?_)
      refine TO.nil ?_
      refine TE.block_normal ?_
      refine TE.next ?_
      refine TW.region ?_
      refine TO.y (Y.move rfl) rfl rfl rfl ?_
      refine TO.y (Y.add rfl rfl) rfl rfl rfl ?_
      refine TO.y (Y.assign rfl) rfl rfl rfl ?_
      refine TO.nil ?_
      exact TE.lp_go () [0] ⟨rfl, rfl, rfl, trivial⟩ rfl
    · refine TW.exit ?_
      refine TE.then_exit ?_
      refine TE.lp_exit ?_
      refine TE.block_exit ?_
      exact TE.jn_go () [0] ⟨rfl, trivial⟩ rfl
  · refine TE.next ?_
    refine TW.seq ?_
    refine TW.region ?_
    refine TO.y (Y.move rfl) rfl rfl rfl ?_
    refine TO.y (Y.assign rfl) rfl rfl rfl ?_
    refine TO.nil ?_
    refine TE.next ?_
    refine TW.ret ?_
    exact TE.leaf fun _ _ hf_ hs_ => ret_any (rs := [.tmp 2]) (vs := [V1]) (.inl rfl) rfl ⟨rfl, trivial⟩ hf_ hs_ ⟨V1, rfl, hs_.pulls [0] rfl⟩

/-- loop.example/g00950/laws.toEntSS -/
noncomputable def laws_toEntSS (a : List (List Ent)) : Option (List (List Ent)) :=
  (mkLen 24 ((a.length : Nat) : Int)).bind fun E2 =>
  bindC (loopO (fun (S4 : Int × List (List Ent)) => if (decide (S4.1 < ((a.length : Nat) : Int))) = true then ((idx a S4.1).bind fun E9 =>
  (laws_toEntS E9).bind fun R12 =>
  (idx S4.2 S4.1).bind fun E15 =>
  some (.go (IntKind.i64.wrap (S4.1 + (1 : Int)), (S4.2.set S4.1.toNat R12))))
  else (some (.done (.go S4.2))))
  ((0 : Int), (List.replicate E2 ([] : List Ent))))
  (fun (T6 : List (List Ent)) => some T6)

theorem laws_toEntSS_con (a : List (List Ent)) (V_a0 : Value) (r : List (List Ent)) (hm : laws_toEntSS a = some r) :
    Con Try.prog 11 [V_a0] [] [(V_a0, lc a)] (fun X : Value => X) (fun X => [.own X (lc r)]) := by
  refine Con.intro (args := [V_a0]) (n := 23) (val := fun _ (X : Value) => X) (post := fun r X => [.own X (lc r)]) (m := laws_toEntSS a) Try.func11 rfl rfl rfl hm ?_
  intro w S hrd
  have HB_V_a0 := hrd _ (.head _)
  clear hrd
  unfold laws_toEntSS
  refine TW.seq ?_
  refine TW.region ?_
  refine TO.y (Y.assign rfl) rfl rfl rfl ?_
  refine TO.nil ?_
  refine TE.next ?_
  refine TW.seq ?_
  refine TW.region ?_
  refine TO.y (Y.move rfl) rfl rfl rfl ?_
  refine TO.y (Y.len (l := a) ke22 (Base.can HB_V_a0) rfl) rfl rfl rfl ?_
  refine TO.bind fun E2 H3 => ?_
  refine TO.ef (Ef.makeN (α := List Ent) (z := ([] : List Ent)) (zs := [.slice none 0 0]) H3 ke26 kz24 rfl rfl rfl rfl rfl) rfl rfl rfl (fun V1 => ?_)
  refine TO.y (Y.assign rfl) rfl rfl rfl ?_
  refine TO.nil ?_
  refine TE.next ?_
  refine TW.seq ?_
  refine TW.seq ?_
  refine TW.region ?_
  refine TO.y (Y.assign rfl) rfl rfl rfl ?_
  refine TO.nil ?_
  refine TE.next ?_
  refine TW.joinX (τ := List (List Ent)) (X := Unit) (fun _ _ => [(3, V1)]) (fun T _ => [.own V1 (lc T)]) ?_ (fun T6 X7 => ?_)
  · refine TW.block ?_
    refine TW.loopX (σ := Int × List (List Ent)) (X := Unit) (fun T _ => [(0, V_a0), (3, V1), (4, .int .i64 T.1)]) (fun T _ => [.own V1 (lc T.2)]) () [0] ⟨rfl, rfl, rfl, trivial⟩ rfl (fun S4 X5 => ?_)
    refine TW.seq ?_
    refine TW.seq ?_
    refine TW.region ?_
    refine TO.y (Y.move rfl) rfl rfl rfl ?_
    refine TO.y (Y.move rfl) rfl rfl rfl ?_
    refine TO.y (Y.len (l := a) ke22 (Base.can HB_V_a0) rfl) rfl rfl rfl ?_
    refine TO.y (Y.lss rfl rfl) rfl rfl rfl ?_
    refine TO.nil ?_
    refine TE.next ?_
    refine TW.cond rfl (fun H8 => ?_) (fun H8 => ?_)
    · refine TW.skip ?_
      refine TE.next ?_
      refine TW.seq ?_
      refine TW.block ?_
      refine TW.region ?_
      refine TO.y (Y.move rfl) rfl rfl rfl ?_
      refine TO.y (Y.move rfl) rfl rfl rfl ?_
      refine TO.y (Y.move rfl) rfl rfl rfl ?_
      refine TO.y (Y.move rfl) rfl rfl rfl ?_
      refine TO.bind fun E9 H10 => ?_
      refine TO.y (Y.index ke22 (Base.can HB_V_a0) H10 rfl rfl) rfl rfl rfl ?_
      have Q11 : Base w S (elv w V_a0 (S4.1.toNat * 1 + 0)) (lc E9) := Base.el HB_V_a0 (idx_get H10).2.2 rfl rfl
      refine TO.y (Y.load_base (α := List Ent) (u := (elv w V_a0 (S4.1.toNat * 1 + 0))) kk33 rfl HB_V_a0 (idx_get H10).2.2 rfl rfl rfl rfl rfl) rfl rfl rfl ?_
      refine TO.bind fun R12 H13 => ?_
      refine TO.ef (Ef.call (rest := [.own V1 (lc S4.2)]) [0] (laws_toEntS_con E9 (elv w V_a0 (S4.1.toNat * 1 + 0)) R12 H13) kc39 rfl rfl ⟨(Base.can Q11), trivial⟩) rfl rfl rfl (fun Y14 => ?_)
      refine TO.bind fun E15 H16 => ?_
      refine TO.y (Y.index ke26 (Can.own 1 rfl) H16 rfl rfl) rfl rfl rfl ?_
      refine TO.ghost (X := Value) (is' := fun X17 => [.own V1 (hl S4.2 S4.1.toNat [.raw X17]), .own X17 (lc E15), .own Y14 (lc R12)]) (Gh.open 1 S4.1.toNat [1, 0] rfl (idx_get H16).2.2 rfl) (fun X17 => ?_)
      refine TO.ef0 (Ef.store_hole (α := List Ent) (us := [Y14]) (zs' := [.raw Y14]) (is' := [.own V1 (hl S4.2 S4.1.toNat [.raw Y14]), .own X17 (lc E15), .own Y14 (lc R12)]) 0 kk24 rfl rfl (idx_get H16).2.2 rfl rfl (Cel.one (One.can (Can.own 2 rfl))) rfl rfl rfl rfl rfl rfl) rfl rfl (fun _ => ?_)
      refine TO.nil ?_
      refine TE.block_normal ?_
      refine TE.next ?_
      refine TW.region ?_
      refine TO.y (Y.move rfl) rfl rfl rfl ?_
      refine TO.y (Y.add rfl rfl) rfl rfl rfl ?_
      refine TO.y (Y.assign rfl) rfl rfl rfl ?_
      refine TO.nil ?_
      refine TE.ghost (is' := fun _ => [.own V1 (lc (S4.2.set S4.1.toNat R12)), .own X17 (lc E15)]) (Gh.close (y := R12) (js := [.own Y14 (lc R12)]) (r := [.own X17 (lc E15)]) [0, 1, 0] rfl (idx_get H16).2.2 (Cls.fill Cls.nil) rfl) (fun _ => ?_)
      exact TE.lp_go () [0] ⟨rfl, rfl, rfl, trivial⟩ rfl
    · refine TW.exit ?_
      refine TE.then_exit ?_
      refine TE.lp_exit ?_
      refine TE.block_exit ?_
      exact TE.jn_go () [0] ⟨rfl, trivial⟩ rfl
  · refine TE.next ?_
    refine TW.seq ?_
    refine TW.region ?_
    refine TO.y (Y.move rfl) rfl rfl rfl ?_
    refine TO.y (Y.assign rfl) rfl rfl rfl ?_
    refine TO.nil ?_
    refine TE.next ?_
    refine TW.ret ?_
    exact TE.leaf fun _ _ hf_ hs_ => ret_any (rs := [.tmp 2]) (vs := [V1]) (.inl rfl) rfl ⟨rfl, trivial⟩ hf_ hs_ ⟨V1, rfl, hs_.pulls [0] rfl⟩

/-- loop.example/g00950/laws.toIntS -/
noncomputable def laws_toIntS (a : List Int) : Option (List Int) :=
  (mkLen 8 ((a.length : Nat) : Int)).bind fun E2 =>
  bindC (loopO (fun (S4 : Int × List Int) => if (decide (S4.1 < ((a.length : Nat) : Int))) = true then ((idx a S4.1).bind fun E9 =>
  (idx S4.2 S4.1).bind fun E11 =>
  some (.go (IntKind.i64.wrap (S4.1 + (1 : Int)), (S4.2.set S4.1.toNat E9))))
  else (some (.done (.go S4.2))))
  ((0 : Int), (List.replicate E2 (0 : Int))))
  (fun (T6 : List Int) => some T6)

theorem laws_toIntS_con (a : List Int) (V_a0 : Value) (r : List Int) (hm : laws_toIntS a = some r) :
    Con Try.prog 48 [V_a0] [] [(V_a0, lc a)] (fun X : Value => X) (fun X => [.own X (lc r)]) := by
  refine Con.intro (args := [V_a0]) (n := 22) (val := fun _ (X : Value) => X) (post := fun r X => [.own X (lc r)]) (m := laws_toIntS a) Try.func48 rfl rfl rfl hm ?_
  intro w S hrd
  have HB_V_a0 := hrd _ (.head _)
  clear hrd
  unfold laws_toIntS
  refine TW.seq ?_
  refine TW.region ?_
  refine TO.y (Y.assign rfl) rfl rfl rfl ?_
  refine TO.nil ?_
  refine TE.next ?_
  refine TW.seq ?_
  refine TW.region ?_
  refine TO.y (Y.move rfl) rfl rfl rfl ?_
  refine TO.y (Y.len (l := a) ke34 (Base.can HB_V_a0) rfl) rfl rfl rfl ?_
  refine TO.bind fun E2 H3 => ?_
  refine TO.ef (Ef.make (α := Int) (z := (0 : Int)) H3 ke34 kz3 rfl rfl rfl rfl) rfl rfl rfl (fun V1 => ?_)
  refine TO.y (Y.assign rfl) rfl rfl rfl ?_
  refine TO.nil ?_
  refine TE.next ?_
  refine TW.seq ?_
  refine TW.seq ?_
  refine TW.region ?_
  refine TO.y (Y.assign rfl) rfl rfl rfl ?_
  refine TO.nil ?_
  refine TE.next ?_
  refine TW.joinX (τ := List Int) (X := Unit) (fun _ _ => [(3, V1)]) (fun T _ => [.own V1 (lc T)]) ?_ (fun T6 X7 => ?_)
  · refine TW.block ?_
    refine TW.loopX (σ := Int × List Int) (X := Unit) (fun T _ => [(0, V_a0), (3, V1), (4, .int .i64 T.1)]) (fun T _ => [.own V1 (lc T.2)]) () [0] ⟨rfl, rfl, rfl, trivial⟩ rfl (fun S4 X5 => ?_)
    refine TW.seq ?_
    refine TW.seq ?_
    refine TW.region ?_
    refine TO.y (Y.move rfl) rfl rfl rfl ?_
    refine TO.y (Y.move rfl) rfl rfl rfl ?_
    refine TO.y (Y.len (l := a) ke34 (Base.can HB_V_a0) rfl) rfl rfl rfl ?_
    refine TO.y (Y.lss rfl rfl) rfl rfl rfl ?_
    refine TO.nil ?_
    refine TE.next ?_
    refine TW.cond rfl (fun H8 => ?_) (fun H8 => ?_)
    · refine TW.skip ?_
      refine TE.next ?_
      refine TW.seq ?_
      refine TW.block ?_
      refine TW.region ?_
      refine TO.y (Y.move rfl) rfl rfl rfl ?_
      refine TO.y (Y.move rfl) rfl rfl rfl ?_
      refine TO.y (Y.move rfl) rfl rfl rfl ?_
      refine TO.y (Y.move rfl) rfl rfl rfl ?_
      refine TO.bind fun E9 H10 => ?_
      refine TO.y (Y.index ke34 (Base.can HB_V_a0) H10 rfl rfl) rfl rfl rfl ?_
      refine TO.y (Y.load_el (us := [.int .i64 E9]) (u := .int .i64 E9) kk3 rfl (Base.can HB_V_a0) (idx_get H10).2.2 rfl rfl rfl rfl rfl) rfl rfl rfl ?_
      refine TO.bind fun E11 H12 => ?_
      refine TO.y (Y.index ke34 (Can.own 0 rfl) H12 rfl rfl) rfl rfl rfl ?_
      refine TO.ef0 (Ef.store_el (us := [.int .i64 E9]) (is' := [.own V1 (lc (S4.2.set S4.1.toNat E9))]) E9 0 kk3 rfl rfl (idx_get H12).2.2 rfl rfl (Cel.plain rfl rfl) rfl rfl rfl rfl) rfl rfl (fun _ => ?_)
      refine TO.nil ?_
      refine TE.block_normal ?_
      refine TE.next ?_
      refine TW.region ?_
      refine TO.y (Y.move rfl) rfl rfl rfl ?_
      refine TO.y (Y.add rfl rfl) rfl rfl rfl ?_
      refine TO.y (Y.assign rfl) rfl rfl rfl ?_
      refine TO.nil ?_
      exact TE.lp_go () [0] ⟨rfl, rfl, rfl, trivial⟩ rfl
    · refine TW.exit ?_
      refine TE.then_exit ?_
      refine TE.lp_exit ?_
      refine TE.block_exit ?_
      exact TE.jn_go () [0] ⟨rfl, trivial⟩ rfl
  · refine TE.next ?_
    refine TW.seq ?_
    refine TW.region ?_
    refine TO.y (Y.move rfl) rfl rfl rfl ?_
    refine TO.y (Y.assign rfl) rfl rfl rfl ?_
    refine TO.nil ?_
    refine TE.next ?_
    refine TW.ret ?_
    exact TE.leaf fun _ _ hf_ hs_ => ret_any (rs := [.tmp 2]) (vs := [V1]) (.inl rfl) rfl ⟨rfl, trivial⟩ hf_ hs_ ⟨V1, rfl, hs_.pulls [0] rfl⟩

/-- loop.example/g00950/laws.toEng -/
noncomputable def laws_toEng (a : Eng) : Option Eng :=
  (laws_toEntS a.Mem).bind fun R4 =>
  (laws_toEntSS a.Tables).bind fun R7 =>
  (laws_toIntS a.Snaps).bind fun R10 =>
  some ({ Mem := R4, Tables := R7, Seq := a.Seq, Snaps := R10 : Eng })

theorem laws_toEng_con (a : Eng) (V_a0 : Value) (V_a1 : Value) (V_a3 : Value) (r : Eng) (hm : laws_toEng a = some r) :
    Con Try.prog 20 [.agg #[V_a0, V_a1, .int .i64 a.Seq, V_a3]] [] [(V_a0, lc a.Mem), (V_a1, lc a.Tables), (V_a3, lc a.Snaps)] (fun X : Value × Value × Value => .agg #[X.1, X.2.1, .int .i64 r.Seq, X.2.2]) (fun X => [.own X.1 (lc r.Mem), .own X.2.1 (lc r.Tables), .own X.2.2 (lc r.Snaps)]) := by
  refine Con.intro (args := [.agg #[V_a0, V_a1, .int .i64 a.Seq, V_a3]]) (n := 20) (val := fun r (X : Value × Value × Value) => .agg #[X.1, X.2.1, .int .i64 r.Seq, X.2.2]) (post := fun r X => [.own X.1 (lc r.Mem), .own X.2.1 (lc r.Tables), .own X.2.2 (lc r.Snaps)]) (m := laws_toEng a) Try.func20 rfl rfl rfl hm ?_
  intro w S hrd
  have HB_V_a0 := hrd _ (.head _)
  have HB_V_a1 := hrd _ (.tail _ (.head _))
  have HB_V_a3 := hrd _ (.tail _ (.tail _ (.head _)))
  clear hrd
  unfold laws_toEng
  refine TW.seq ?_
  refine TW.region ?_
  refine TO.ef (Ef.box rfl (Cel.agg ⟨(One.can (Base.can HB_V_a0)), (One.can (Base.can HB_V_a1)), (One.plain rfl), (One.can (Base.can HB_V_a3)), trivial⟩)) rfl rfl rfl (fun B1 => ?_)
  refine TO.ef (Ef.alloc kz39 rfl) rfl rfl rfl (fun B2 => ?_)
  refine TO.nil ?_
  refine TE.next ?_
  refine TW.seq ?_
  refine TW.region ?_
  refine TO.ef (Ef.alloc kz39 rfl) rfl rfl rfl (fun B3 => ?_)
  refine TO.nil ?_
  refine TE.next ?_
  refine TW.seq ?_
  refine TW.region ?_
  refine TO.y (Y.field_box kf36_0 rfl rfl) rfl rfl rfl ?_
  refine TO.y (Y.load_box (v := V_a0) 2 kk33 rfl rfl rfl) rfl rfl rfl ?_
  refine TO.bind fun R4 H5 => ?_
  refine TO.ef (Ef.call (rest := [.box B3 39 [.slice none 0 0, .slice none 0 0, .int .i64 (0 : Int), .slice none 0 0], .box B2 39 [.slice none 0 0, .slice none 0 0, .int .i64 (0 : Int), .slice none 0 0], .box B1 36 [V_a0, V_a1, .int .i64 a.Seq, V_a3]]) [0, 0, 0] (laws_toEntS_con a.Mem V_a0 R4 H5) kc39 rfl rfl ⟨(Base.can HB_V_a0), trivial⟩) rfl rfl rfl (fun Y6 => ?_)
  refine TO.y (Y.field_box kf39_0 rfl rfl) rfl rfl rfl ?_
  refine TO.ef0 (Ef.store_box (us := [Y6]) (vs' := [Y6, .slice none 0 0, .int .i64 (0 : Int), .slice none 0 0]) (is' := [.own Y6 (lc R4), .box B3 39 [Y6, .slice none 0 0, .int .i64 (0 : Int), .slice none 0 0], .box B2 39 [.slice none 0 0, .slice none 0 0, .int .i64 (0 : Int), .slice none 0 0], .box B1 36 [V_a0, V_a1, .int .i64 a.Seq, V_a3]]) 1 kk24 rfl rfl rfl (Cel.one (One.can (Can.own 0 rfl))) rfl rfl rfl rfl) rfl rfl (fun _ => ?_)
  refine TO.nil ?_
  refine TE.next ?_
  refine TW.seq ?_
  refine TW.region ?_
  refine TO.y (Y.field_box kf36_1 rfl rfl) rfl rfl rfl ?_
  refine TO.y (Y.load_box (v := V_a1) 3 kk22 rfl rfl rfl) rfl rfl rfl ?_
  refine TO.bind fun R7 H8 => ?_
  refine TO.ef (Ef.call (rest := [.own Y6 (lc R4), .box B3 39 [Y6, .slice none 0 0, .int .i64 (0 : Int), .slice none 0 0], .box B2 39 [.slice none 0 0, .slice none 0 0, .int .i64 (0 : Int), .slice none 0 0], .box B1 36 [V_a0, V_a1, .int .i64 a.Seq, V_a3]]) [0, 0, 0, 0] (laws_toEntSS_con a.Tables V_a1 R7 H8) kc11 rfl rfl ⟨(Base.can HB_V_a1), trivial⟩) rfl rfl rfl (fun Y9 => ?_)
  refine TO.y (Y.field_box kf39_1 rfl rfl) rfl rfl rfl ?_
  refine TO.ef0 (Ef.store_box (us := [Y9]) (vs' := [Y6, Y9, .int .i64 (0 : Int), .slice none 0 0]) (is' := [.own Y9 (lc R7), .own Y6 (lc R4), .box B3 39 [Y6, Y9, .int .i64 (0 : Int), .slice none 0 0], .box B2 39 [.slice none 0 0, .slice none 0 0, .int .i64 (0 : Int), .slice none 0 0], .box B1 36 [V_a0, V_a1, .int .i64 a.Seq, V_a3]]) 2 kk26 rfl rfl rfl (Cel.one (One.can (Can.own 0 rfl))) rfl rfl rfl rfl) rfl rfl (fun _ => ?_)
  refine TO.nil ?_
  refine TE.next ?_
  refine TW.seq ?_
  refine TW.region ?_
  refine TO.y (Y.field_box kf36_2 rfl rfl) rfl rfl rfl ?_
  refine TO.y (Y.load_box (v := .int .i64 a.Seq) 4 kk3 rfl rfl rfl) rfl rfl rfl ?_
  refine TO.y (Y.field_box kf39_2 rfl rfl) rfl rfl rfl ?_
  refine TO.ef0 (Ef.store_box (us := [.int .i64 a.Seq]) (vs' := [Y6, Y9, .int .i64 a.Seq, .slice none 0 0]) (is' := [.own Y9 (lc R7), .own Y6 (lc R4), .box B3 39 [Y6, Y9, .int .i64 a.Seq, .slice none 0 0], .box B2 39 [.slice none 0 0, .slice none 0 0, .int .i64 (0 : Int), .slice none 0 0], .box B1 36 [V_a0, V_a1, .int .i64 a.Seq, V_a3]]) 2 kk3 rfl rfl rfl (Cel.plain rfl rfl) rfl rfl rfl rfl) rfl rfl (fun _ => ?_)
  refine TO.nil ?_
  refine TE.next ?_
  refine TW.seq ?_
  refine TW.region ?_
  refine TO.y (Y.field_box kf36_3 rfl rfl) rfl rfl rfl ?_
  refine TO.y (Y.load_box (v := V_a3) 4 kk34 rfl rfl rfl) rfl rfl rfl ?_
  refine TO.bind fun R10 H11 => ?_
  refine TO.ef (Ef.call (rest := [.own Y9 (lc R7), .own Y6 (lc R4), .box B3 39 [Y6, Y9, .int .i64 a.Seq, .slice none 0 0], .box B2 39 [.slice none 0 0, .slice none 0 0, .int .i64 (0 : Int), .slice none 0 0], .box B1 36 [V_a0, V_a1, .int .i64 a.Seq, V_a3]]) [0, 0, 0, 0, 0] (laws_toIntS_con a.Snaps V_a3 R10 H11) kc48 rfl rfl ⟨(Base.can HB_V_a3), trivial⟩) rfl rfl rfl (fun Y12 => ?_)
  refine TO.y (Y.field_box kf39_3 rfl rfl) rfl rfl rfl ?_
  refine TO.ef0 (Ef.store_box (us := [Y12]) (vs' := [Y6, Y9, .int .i64 a.Seq, Y12]) (is' := [.own Y12 (lc R10), .own Y9 (lc R7), .own Y6 (lc R4), .box B3 39 [Y6, Y9, .int .i64 a.Seq, Y12], .box B2 39 [.slice none 0 0, .slice none 0 0, .int .i64 (0 : Int), .slice none 0 0], .box B1 36 [V_a0, V_a1, .int .i64 a.Seq, V_a3]]) 3 kk34 rfl rfl rfl (Cel.one (One.can (Can.own 0 rfl))) rfl rfl rfl rfl) rfl rfl (fun _ => ?_)
  refine TO.nil ?_
  refine TE.next ?_
  refine TW.seq ?_
  refine TW.region ?_
  refine TO.y (Y.load_box (v := .agg #[Y6, Y9, .int .i64 a.Seq, Y12]) 3 kk39 rfl rfl rfl) rfl rfl rfl ?_
  refine TO.ef0 (Ef.store_box (us := [Y6, Y9, .int .i64 a.Seq, Y12]) (vs' := [Y6, Y9, .int .i64 a.Seq, Y12]) (is' := [.own Y12 (lc R10), .own Y9 (lc R7), .own Y6 (lc R4), .box B3 39 [Y6, Y9, .int .i64 a.Seq, Y12], .box B2 39 [Y6, Y9, .int .i64 a.Seq, Y12], .box B1 36 [V_a0, V_a1, .int .i64 a.Seq, V_a3]]) 4 kk39 rfl rfl rfl (Cel.agg ⟨(One.can (Can.own 2 rfl)), (One.can (Can.own 1 rfl)), (One.plain rfl), (One.can (Can.own 0 rfl)), trivial⟩) rfl rfl rfl rfl) rfl rfl (fun _ => ?_)
  refine TO.nil ?_
  refine TE.next ?_
  refine TW.ret ?_
  exact TE.leaf fun _ _ hf_ hs_ => ret_any (rs := [.cell 2 39]) (vs := [.agg #[Y6, Y9, .int .i64 a.Seq, Y12]]) (.inl rfl) rfl (RV.cell 4 rfl rfl kk39 rfl trivial) hf_ hs_ ⟨(Y6, Y9, Y12), rfl, hs_.pulls [2, 1, 0] rfl⟩

/-- loop.example/g00950/spec.l1In -/
noncomputable def spec_l1In (x : Int) (low : Int) (high : Int) : Option Bool :=
  (if (decide (x ≥ low)) = true then (some (decide (x ≤ high)))
  else (some false)).bind (fun (T1 : Bool) =>
  some T1)

theorem spec_l1In_con (x : Int) (low : Int) (high : Int)  (r : Bool) (hm : spec_l1In x low high = some r) :
    Con Try.prog 56 [.int .i64 x, .int .i64 low, .int .i64 high] [] [] (fun _ : Unit => .bool r) (fun _ => []) := by
  refine Con.intro (args := [.int .i64 x, .int .i64 low, .int .i64 high]) (n := 15) (val := fun r (_ : Unit) => .bool r) (post := fun _ _ => []) (m := spec_l1In x low high) Try.func56 rfl rfl rfl hm ?_
  intro w S _
  unfold spec_l1In
  refine TW.seq ?_
  refine TW.region ?_
  refine TO.y (Y.assign rfl) rfl rfl rfl ?_
  refine TO.nil ?_
  refine TE.next ?_
  refine TW.seq ?_
  refine TW.joinBX (τ := Bool) (X := Unit) (fun T _ => [(6, .bool T)]) (fun _ _ => []) ?_ (fun T1 X2 => ?_)
  · refine TW.region ?_
    refine TO.y (Y.move rfl) rfl rfl rfl ?_
    refine TO.y (Y.move rfl) rfl rfl rfl ?_
    refine TO.y (Y.geq rfl rfl) rfl rfl rfl ?_
    refine TO.y (Y.move rfl) rfl rfl rfl ?_
    refine TO.ite (b := decide (x ≥ low)) (fun H3 => ?_) (fun H3 => ?_)
    · refine TO.y (Y.move rfl) (Gd.at 3 true 10 (decide (x ≥ low)) rfl rfl rfl (beq_tt H3)) rfl rfl ?_
      refine TO.y (Y.move rfl) (Gd.at 3 true 10 (decide (x ≥ low)) rfl rfl rfl (beq_tt H3)) rfl rfl ?_
      refine TO.y (Y.leq rfl rfl) (Gd.at 3 true 10 (decide (x ≥ low)) rfl rfl rfl (beq_tt H3)) rfl rfl ?_
      refine TO.y (Y.pick_t H3 rfl rfl) rfl rfl rfl ?_
      refine TO.y (Y.assign rfl) rfl rfl rfl ?_
      refine TO.nil ?_
      exact TE.jb_go () [] ⟨rfl, trivial⟩ rfl
    · refine TO.off (Gd.at 3 true 10 (decide (x ≥ low)) rfl rfl rfl (beq_ft H3)) rfl rfl ?_
      refine TO.off (Gd.at 3 true 10 (decide (x ≥ low)) rfl rfl rfl (beq_ft H3)) rfl rfl ?_
      refine TO.off (Gd.at 3 true 10 (decide (x ≥ low)) rfl rfl rfl (beq_ft H3)) rfl rfl ?_
      refine TO.y (Y.pick_f H3 rfl rfl) rfl rfl rfl ?_
      refine TO.y (Y.assign rfl) rfl rfl rfl ?_
      refine TO.nil ?_
      exact TE.jb_go () [] ⟨rfl, trivial⟩ rfl
  · refine TE.next ?_
    refine TW.ret ?_
    exact TE.leaf fun _ _ hf_ hs_ => ret_any (rs := [.tmp 6]) (vs := [.bool T1]) (.inl rfl) rfl ⟨rfl, trivial⟩ hf_ hs_ ⟨(), rfl, hs_.pulls [] rfl⟩

/-- loop.example/g00950/spec.l7Op -/
noncomputable def spec_l7Op (o : Op) : Option Bool :=
  ((spec_l1In ((o.Key.length : Nat) : Int) (1 : Int) (10 : Int)).bind fun R4 =>
  if R4 = true then (if (decide (((o.Val.length : Nat) : Int) ≤ (16 : Int))) = true then (if (!o.Del) = true then (some true)
  else (some (decide (o.Val = ([])))))
  else (some false))
  else (some false)).bind (fun (T2 : Bool) =>
  some T2)

theorem spec_l7Op_con (o : Op)  (r : Bool) (hm : spec_l7Op o = some r) :
    Con Try.prog 103 [.agg #[strV o.Key, .bool o.Del, strV o.Val]] [] [] (fun _ : Unit => .bool r) (fun _ => []) := by
  refine Con.intro (args := [.agg #[strV o.Key, .bool o.Del, strV o.Val]]) (n := 23) (val := fun r (_ : Unit) => .bool r) (post := fun _ _ => []) (m := spec_l7Op o) Try.func103 rfl rfl rfl hm ?_
  intro w S _
  unfold spec_l7Op
  refine TW.seq ?_
  refine TW.region ?_
  refine TO.ef (Ef.box rfl (Cel.plain rfl rfl)) rfl rfl rfl (fun B1 => ?_)
  refine TO.y (Y.assign rfl) rfl rfl rfl ?_
  refine TO.nil ?_
  refine TE.next ?_
  refine TW.seq ?_
  refine TW.joinBX (τ := Bool) (X := Unit) (fun T _ => [(2, .bool T)]) (fun _ _ => []) ?_ (fun T2 X3 => ?_)
  · refine TW.region ?_
    refine TO.y (Y.field_box kf126_0 rfl rfl) rfl rfl rfl ?_
    refine TO.y (Y.load_box (v := strV o.Key) 0 kk9 rfl rfl rfl) rfl rfl rfl ?_
    refine TO.y (Y.slen ks9 rfl) rfl rfl rfl ?_
    refine TO.bind fun R4 H5 => ?_
    refine TO.ef (Ef.call (rest := [.box B1 126 [strV o.Key, .bool o.Del, strV o.Val]]) [0] (spec_l1In_con ((o.Key.length : Nat) : Int) (1 : Int) (10 : Int)  R4 H5) kc56 rfl rfl trivial) rfl rfl rfl (fun _ => ?_)
    refine TO.y (Y.move rfl) rfl rfl rfl ?_
    refine TO.ite (b := R4) (fun H7 => ?_) (fun H7 => ?_)
    · refine TO.y (Y.field_box kf126_2 rfl rfl) (Gd.at 4 true 7 R4 rfl rfl rfl (beq_tt H7)) rfl rfl ?_
      refine TO.y (Y.load_box (v := strV o.Val) 0 kk9 rfl rfl rfl) (Gd.at 4 true 7 R4 rfl rfl rfl (beq_tt H7)) rfl rfl ?_
      refine TO.y (Y.slen ks9 rfl) (Gd.at 4 true 7 R4 rfl rfl rfl (beq_tt H7)) rfl rfl ?_
      refine TO.y (Y.leq rfl rfl) (Gd.at 4 true 7 R4 rfl rfl rfl (beq_tt H7)) rfl rfl ?_
      refine TO.y (Y.pick_t H7 rfl rfl) rfl rfl rfl ?_
      refine TO.y (Y.move rfl) rfl rfl rfl ?_
      refine TO.ite (b := decide (((o.Val.length : Nat) : Int) ≤ (16 : Int))) (fun H8 => ?_) (fun H8 => ?_)
      · refine TO.y (Y.field_box kf126_1 rfl rfl) (Gd.at 10 true 13 (decide (((o.Val.length : Nat) : Int) ≤ (16 : Int))) rfl rfl rfl (beq_tt H8)) rfl rfl ?_
        refine TO.y (Y.load_box (v := .bool o.Del) 0 kk4 rfl rfl rfl) (Gd.at 10 true 13 (decide (((o.Val.length : Nat) : Int) ≤ (16 : Int))) rfl rfl rfl (beq_tt H8)) rfl rfl ?_
        refine TO.y (Y.not rfl) (Gd.at 10 true 13 (decide (((o.Val.length : Nat) : Int) ≤ (16 : Int))) rfl rfl rfl (beq_tt H8)) rfl rfl ?_
        refine TO.y (Y.move rfl) (Gd.at 10 true 13 (decide (((o.Val.length : Nat) : Int) ≤ (16 : Int))) rfl rfl rfl (beq_tt H8)) rfl rfl ?_
        refine TO.ite (b := !o.Del) (fun H9 => ?_) (fun H9 => ?_)
        · refine TO.off (Gd.at 14 false 17 (!o.Del) rfl rfl rfl (beq_tf H9)) rfl rfl ?_
          refine TO.off (Gd.at 14 false 17 (!o.Del) rfl rfl rfl (beq_tf H9)) rfl rfl ?_
          refine TO.off (Gd.at 14 false 17 (!o.Del) rfl rfl rfl (beq_tf H9)) rfl rfl ?_
          refine TO.y (Y.pick_t H9 rfl rfl) (Gd.at 10 true 13 (decide (((o.Val.length : Nat) : Int) ≤ (16 : Int))) rfl rfl rfl (beq_tt H8)) rfl rfl ?_
          refine TO.y (Y.pick_t H8 rfl rfl) rfl rfl rfl ?_
          refine TO.y (Y.assign rfl) rfl rfl rfl ?_
          refine TO.nil ?_
          exact TE.jb_go () [] ⟨rfl, trivial⟩ rfl
        · refine TO.y (Y.field_box kf126_2 rfl rfl) (Gd.at 14 false 17 (!o.Del) rfl rfl rfl (beq_ff H9)) rfl rfl ?_
          refine TO.y (Y.load_box (v := strV o.Val) 0 kk9 rfl rfl rfl) (Gd.at 14 false 17 (!o.Del) rfl rfl rfl (beq_ff H9)) rfl rfl ?_
          refine TO.y (Y.seql rfl rfl) (Gd.at 14 false 17 (!o.Del) rfl rfl rfl (beq_ff H9)) rfl rfl ?_
          refine TO.y (Y.pick_f H9 rfl rfl) (Gd.at 10 true 13 (decide (((o.Val.length : Nat) : Int) ≤ (16 : Int))) rfl rfl rfl (beq_tt H8)) rfl rfl ?_
          refine TO.y (Y.pick_t H8 rfl rfl) rfl rfl rfl ?_
          refine TO.y (Y.assign rfl) rfl rfl rfl ?_
          refine TO.nil ?_
          exact TE.jb_go () [] ⟨rfl, trivial⟩ rfl
      · refine TO.off (Gd.at 10 true 13 (decide (((o.Val.length : Nat) : Int) ≤ (16 : Int))) rfl rfl rfl (beq_ft H8)) rfl rfl ?_
        refine TO.off (Gd.at 10 true 13 (decide (((o.Val.length : Nat) : Int) ≤ (16 : Int))) rfl rfl rfl (beq_ft H8)) rfl rfl ?_
        refine TO.off (Gd.at 10 true 13 (decide (((o.Val.length : Nat) : Int) ≤ (16 : Int))) rfl rfl rfl (beq_ft H8)) rfl rfl ?_
        refine TO.off (Gd.at 10 true 13 (decide (((o.Val.length : Nat) : Int) ≤ (16 : Int))) rfl rfl rfl (beq_ft H8)) rfl rfl ?_
        refine TO.off (Gd.un 14 false 17 rfl rfl rfl) rfl rfl ?_
        refine TO.off (Gd.un 14 false 17 rfl rfl rfl) rfl rfl ?_
        refine TO.off (Gd.un 14 false 17 rfl rfl rfl) rfl rfl ?_
        refine TO.off (Gd.at 10 true 13 (decide (((o.Val.length : Nat) : Int) ≤ (16 : Int))) rfl rfl rfl (beq_ft H8)) rfl rfl ?_
        refine TO.y (Y.pick_f H8 rfl rfl) rfl rfl rfl ?_
        refine TO.y (Y.assign rfl) rfl rfl rfl ?_
        refine TO.nil ?_
        exact TE.jb_go () [] ⟨rfl, trivial⟩ rfl
    · refine TO.off (Gd.at 4 true 7 R4 rfl rfl rfl (beq_ft H7)) rfl rfl ?_
      refine TO.off (Gd.at 4 true 7 R4 rfl rfl rfl (beq_ft H7)) rfl rfl ?_
      refine TO.off (Gd.at 4 true 7 R4 rfl rfl rfl (beq_ft H7)) rfl rfl ?_
      refine TO.off (Gd.at 4 true 7 R4 rfl rfl rfl (beq_ft H7)) rfl rfl ?_
      refine TO.y (Y.pick_f H7 rfl rfl) rfl rfl rfl ?_
      refine TO.y (Y.move rfl) rfl rfl rfl ?_
      refine TO.off (Gd.at 10 true 13 false rfl rfl rfl rfl) rfl rfl ?_
      refine TO.off (Gd.at 10 true 13 false rfl rfl rfl rfl) rfl rfl ?_
      refine TO.off (Gd.at 10 true 13 false rfl rfl rfl rfl) rfl rfl ?_
      refine TO.off (Gd.at 10 true 13 false rfl rfl rfl rfl) rfl rfl ?_
      refine TO.off (Gd.un 14 false 17 rfl rfl rfl) rfl rfl ?_
      refine TO.off (Gd.un 14 false 17 rfl rfl rfl) rfl rfl ?_
      refine TO.off (Gd.un 14 false 17 rfl rfl rfl) rfl rfl ?_
      refine TO.off (Gd.at 10 true 13 false rfl rfl rfl rfl) rfl rfl ?_
      refine TO.y (Y.pick_f rfl rfl rfl) rfl rfl rfl ?_
      refine TO.y (Y.assign rfl) rfl rfl rfl ?_
      refine TO.nil ?_
      exact TE.jb_go () [] ⟨rfl, trivial⟩ rfl
  · refine TE.next ?_
    refine TW.ret ?_
    exact TE.leaf fun _ _ hf_ hs_ => ret_any (rs := [.tmp 2]) (vs := [.bool T2]) (.inl rfl) rfl ⟨rfl, trivial⟩ hf_ hs_ ⟨(), rfl, hs_.pulls [] rfl⟩

/-- loop.example/g00950/spec.l9Ent -/
noncomputable def spec_l9Ent (e : Ent) : Option Bool :=
  ((spec_l7Op ({ Key := e.Key, Del := e.Del, Val := e.Val : Op })).bind fun R4 =>
  if R4 = true then ((spec_l1In e.Seq (0 : Int) (1000000 : Int)).bind fun R8 =>
  some R8)
  else (some false)).bind (fun (T2 : Bool) =>
  some T2)

theorem spec_l9Ent_con (e : Ent)  (r : Bool) (hm : spec_l9Ent e = some r) :
    Con Try.prog 77 [.agg #[strV e.Key, .int .i64 e.Seq, .bool e.Del, strV e.Val]] [] [] (fun _ : Unit => .bool r) (fun _ => []) := by
  refine Con.intro (args := [.agg #[strV e.Key, .int .i64 e.Seq, .bool e.Del, strV e.Val]]) (n := 16) (val := fun r (_ : Unit) => .bool r) (post := fun _ _ => []) (m := spec_l9Ent e) Try.func77 rfl rfl rfl hm ?_
  intro w S _
  unfold spec_l9Ent
  refine TW.seq ?_
  refine TW.region ?_
  refine TO.ef (Ef.box rfl (Cel.plain rfl rfl)) rfl rfl rfl (fun B1 => ?_)
  refine TO.y (Y.assign rfl) rfl rfl rfl ?_
  refine TO.nil ?_
  refine TE.next ?_
  refine TW.seq ?_
  refine TW.joinBX (τ := Bool) (X := Unit) (fun T _ => [(2, .bool T)]) (fun _ _ => []) ?_ (fun T2 X3 => ?_)
  · refine TW.region ?_
    refine TO.y (Y.field_box kf72_0 rfl rfl) rfl rfl rfl ?_
    refine TO.y (Y.load_box (v := strV e.Key) 0 kk9 rfl rfl rfl) rfl rfl rfl ?_
    refine TO.y (Y.field_box kf72_2 rfl rfl) rfl rfl rfl ?_
    refine TO.y (Y.load_box (v := .bool e.Del) 0 kk4 rfl rfl rfl) rfl rfl rfl ?_
    refine TO.y (Y.field_box kf72_3 rfl rfl) rfl rfl rfl ?_
    refine TO.y (Y.load_box (v := strV e.Val) 0 kk9 rfl rfl rfl) rfl rfl rfl ?_
    refine TO.y (Y.build (cells := [strV e.Key, .bool e.Del, strV e.Val]) [(0, [strV e.Key]), (1, [.bool e.Del]), (2, [strV e.Val])] kp126 kz126 ⟨rfl, ⟨_, rfl, (Cel.plain rfl rfl)⟩, ⟨rfl, ⟨_, rfl, (Cel.plain rfl rfl)⟩, ⟨rfl, ⟨_, rfl, (Cel.plain rfl rfl)⟩, trivial⟩⟩⟩ rfl) rfl rfl rfl ?_
    refine TO.bind fun R4 H5 => ?_
    refine TO.ef (Ef.call (rest := [.box B1 72 [strV e.Key, .int .i64 e.Seq, .bool e.Del, strV e.Val]]) [0] (spec_l7Op_con ({ Key := e.Key, Del := e.Del, Val := e.Val : Op })  R4 H5) kc103 rfl rfl trivial) rfl rfl rfl (fun _ => ?_)
    refine TO.y (Y.move rfl) rfl rfl rfl ?_
    refine TO.ite (b := R4) (fun H7 => ?_) (fun H7 => ?_)
    · refine TO.y (Y.field_box kf72_1 rfl rfl) (Gd.at 8 true 11 R4 rfl rfl rfl (beq_tt H7)) rfl rfl ?_
      refine TO.y (Y.load_box (v := .int .i64 e.Seq) 0 kk3 rfl rfl rfl) (Gd.at 8 true 11 R4 rfl rfl rfl (beq_tt H7)) rfl rfl ?_
      refine TO.bind fun R8 H9 => ?_
      refine TO.ef (Ef.call (rest := [.box B1 72 [strV e.Key, .int .i64 e.Seq, .bool e.Del, strV e.Val]]) [0] (spec_l1In_con e.Seq (0 : Int) (1000000 : Int)  R8 H9) kc56 rfl rfl trivial) (Gd.at 8 true 11 R4 rfl rfl rfl (beq_tt H7)) rfl rfl (fun _ => ?_)
      refine TO.y (Y.pick_t H7 rfl rfl) rfl rfl rfl ?_
      refine TO.y (Y.assign rfl) rfl rfl rfl ?_
      refine TO.nil ?_
      exact TE.jb_go () [] ⟨rfl, trivial⟩ rfl
    · refine TO.off (Gd.at 8 true 11 R4 rfl rfl rfl (beq_ft H7)) rfl rfl ?_
      refine TO.off (Gd.at 8 true 11 R4 rfl rfl rfl (beq_ft H7)) rfl rfl ?_
      refine TO.off (Gd.at 8 true 11 R4 rfl rfl rfl (beq_ft H7)) rfl rfl ?_
      refine TO.y (Y.pick_f H7 rfl rfl) rfl rfl rfl ?_
      refine TO.y (Y.assign rfl) rfl rfl rfl ?_
      refine TO.nil ?_
      exact TE.jb_go () [] ⟨rfl, trivial⟩ rfl
  · refine TE.next ?_
    refine TW.ret ?_
    exact TE.leaf fun _ _ hf_ hs_ => ret_any (rs := [.tmp 2]) (vs := [.bool T2]) (.inl rfl) rfl ⟨rfl, trivial⟩ hf_ hs_ ⟨(), rfl, hs_.pulls [] rfl⟩

/-- loop.example/g00950/spec.l9Ahead -/
noncomputable def spec_l9Ahead (a : Ent) (b : Ent) : Option Bool :=
  (if (sLt a.Key b.Key) = true then (some true)
  else (if (decide (a.Key = b.Key)) = true then (some (decide (a.Seq > b.Seq)))
  else (some false))).bind (fun (T3 : Bool) =>
  some T3)

theorem spec_l9Ahead_con (a : Ent) (b : Ent)  (r : Bool) (hm : spec_l9Ahead a b = some r) :
    Con Try.prog 38 [.agg #[strV a.Key, .int .i64 a.Seq, .bool a.Del, strV a.Val], .agg #[strV b.Key, .int .i64 b.Seq, .bool b.Del, strV b.Val]] [] [] (fun _ : Unit => .bool r) (fun _ => []) := by
  refine Con.intro (args := [.agg #[strV a.Key, .int .i64 a.Seq, .bool a.Del, strV a.Val], .agg #[strV b.Key, .int .i64 b.Seq, .bool b.Del, strV b.Val]]) (n := 24) (val := fun r (_ : Unit) => .bool r) (post := fun _ _ => []) (m := spec_l9Ahead a b) Try.func38 rfl rfl rfl hm ?_
  intro w S _
  unfold spec_l9Ahead
  refine TW.seq ?_
  refine TW.region ?_
  refine TO.ef (Ef.box rfl (Cel.plain rfl rfl)) rfl rfl rfl (fun B1 => ?_)
  refine TO.ef (Ef.box rfl (Cel.plain rfl rfl)) rfl rfl rfl (fun B2 => ?_)
  refine TO.y (Y.assign rfl) rfl rfl rfl ?_
  refine TO.nil ?_
  refine TE.next ?_
  refine TW.seq ?_
  refine TW.joinBX (τ := Bool) (X := Unit) (fun T _ => [(4, .bool T)]) (fun _ _ => []) ?_ (fun T3 X4 => ?_)
  · refine TW.region ?_
    refine TO.y (Y.field_box kf72_0 rfl rfl) rfl rfl rfl ?_
    refine TO.y (Y.load_box (v := strV a.Key) 1 kk9 rfl rfl rfl) rfl rfl rfl ?_
    refine TO.y (Y.field_box kf72_0 rfl rfl) rfl rfl rfl ?_
    refine TO.y (Y.load_box (v := strV b.Key) 0 kk9 rfl rfl rfl) rfl rfl rfl ?_
    refine TO.y (Y.slss rfl rfl) rfl rfl rfl ?_
    refine TO.y (Y.move rfl) rfl rfl rfl ?_
    refine TO.ite (b := sLt a.Key b.Key) (fun H5 => ?_) (fun H5 => ?_)
    · refine TO.off (Gd.at 5 false 10 (sLt a.Key b.Key) rfl rfl rfl (beq_tf H5)) rfl rfl ?_
      refine TO.off (Gd.at 5 false 10 (sLt a.Key b.Key) rfl rfl rfl (beq_tf H5)) rfl rfl ?_
      refine TO.off (Gd.at 5 false 10 (sLt a.Key b.Key) rfl rfl rfl (beq_tf H5)) rfl rfl ?_
      refine TO.off (Gd.at 5 false 10 (sLt a.Key b.Key) rfl rfl rfl (beq_tf H5)) rfl rfl ?_
      refine TO.off (Gd.at 5 false 10 (sLt a.Key b.Key) rfl rfl rfl (beq_tf H5)) rfl rfl ?_
      refine TO.off (Gd.at 5 false 10 (sLt a.Key b.Key) rfl rfl rfl (beq_tf H5)) rfl rfl ?_
      refine TO.off (Gd.un 11 true 16 rfl rfl rfl) rfl rfl ?_
      refine TO.off (Gd.un 11 true 16 rfl rfl rfl) rfl rfl ?_
      refine TO.off (Gd.un 11 true 16 rfl rfl rfl) rfl rfl ?_
      refine TO.off (Gd.un 11 true 16 rfl rfl rfl) rfl rfl ?_
      refine TO.off (Gd.un 11 true 16 rfl rfl rfl) rfl rfl ?_
      refine TO.off (Gd.at 5 false 10 (sLt a.Key b.Key) rfl rfl rfl (beq_tf H5)) rfl rfl ?_
      refine TO.y (Y.pick_t H5 rfl rfl) rfl rfl rfl ?_
      refine TO.y (Y.assign rfl) rfl rfl rfl ?_
      refine TO.nil ?_
      exact TE.jb_go () [] ⟨rfl, trivial⟩ rfl
    · refine TO.y (Y.field_box kf72_0 rfl rfl) (Gd.at 5 false 10 (sLt a.Key b.Key) rfl rfl rfl (beq_ff H5)) rfl rfl ?_
      refine TO.y (Y.load_box (v := strV a.Key) 1 kk9 rfl rfl rfl) (Gd.at 5 false 10 (sLt a.Key b.Key) rfl rfl rfl (beq_ff H5)) rfl rfl ?_
      refine TO.y (Y.field_box kf72_0 rfl rfl) (Gd.at 5 false 10 (sLt a.Key b.Key) rfl rfl rfl (beq_ff H5)) rfl rfl ?_
      refine TO.y (Y.load_box (v := strV b.Key) 0 kk9 rfl rfl rfl) (Gd.at 5 false 10 (sLt a.Key b.Key) rfl rfl rfl (beq_ff H5)) rfl rfl ?_
      refine TO.y (Y.seql rfl rfl) (Gd.at 5 false 10 (sLt a.Key b.Key) rfl rfl rfl (beq_ff H5)) rfl rfl ?_
      refine TO.y (Y.move rfl) (Gd.at 5 false 10 (sLt a.Key b.Key) rfl rfl rfl (beq_ff H5)) rfl rfl ?_
      refine TO.ite (b := decide (a.Key = b.Key)) (fun H6 => ?_) (fun H6 => ?_)
      · refine TO.y (Y.field_box kf72_1 rfl rfl) (Gd.at 11 true 16 (decide (a.Key = b.Key)) rfl rfl rfl (beq_tt H6)) rfl rfl ?_
        refine TO.y (Y.load_box (v := .int .i64 a.Seq) 1 kk3 rfl rfl rfl) (Gd.at 11 true 16 (decide (a.Key = b.Key)) rfl rfl rfl (beq_tt H6)) rfl rfl ?_
        refine TO.y (Y.field_box kf72_1 rfl rfl) (Gd.at 11 true 16 (decide (a.Key = b.Key)) rfl rfl rfl (beq_tt H6)) rfl rfl ?_
        refine TO.y (Y.load_box (v := .int .i64 b.Seq) 0 kk3 rfl rfl rfl) (Gd.at 11 true 16 (decide (a.Key = b.Key)) rfl rfl rfl (beq_tt H6)) rfl rfl ?_
        refine TO.y (Y.gtr rfl rfl) (Gd.at 11 true 16 (decide (a.Key = b.Key)) rfl rfl rfl (beq_tt H6)) rfl rfl ?_
        refine TO.y (Y.pick_t H6 rfl rfl) (Gd.at 5 false 10 (sLt a.Key b.Key) rfl rfl rfl (beq_ff H5)) rfl rfl ?_
        refine TO.y (Y.pick_f H5 rfl rfl) rfl rfl rfl ?_
        refine TO.y (Y.assign rfl) rfl rfl rfl ?_
        refine TO.nil ?_
        exact TE.jb_go () [] ⟨rfl, trivial⟩ rfl
      · refine TO.off (Gd.at 11 true 16 (decide (a.Key = b.Key)) rfl rfl rfl (beq_ft H6)) rfl rfl ?_
        refine TO.off (Gd.at 11 true 16 (decide (a.Key = b.Key)) rfl rfl rfl (beq_ft H6)) rfl rfl ?_
        refine TO.off (Gd.at 11 true 16 (decide (a.Key = b.Key)) rfl rfl rfl (beq_ft H6)) rfl rfl ?_
        refine TO.off (Gd.at 11 true 16 (decide (a.Key = b.Key)) rfl rfl rfl (beq_ft H6)) rfl rfl ?_
        refine TO.off (Gd.at 11 true 16 (decide (a.Key = b.Key)) rfl rfl rfl (beq_ft H6)) rfl rfl ?_
        refine TO.y (Y.pick_f H6 rfl rfl) (Gd.at 5 false 10 (sLt a.Key b.Key) rfl rfl rfl (beq_ff H5)) rfl rfl ?_
        refine TO.y (Y.pick_f H5 rfl rfl) rfl rfl rfl ?_
        refine TO.y (Y.assign rfl) rfl rfl rfl ?_
        refine TO.nil ?_
        exact TE.jb_go () [] ⟨rfl, trivial⟩ rfl
  · refine TE.next ?_
    refine TW.ret ?_
    exact TE.leaf fun _ _ hf_ hs_ => ret_any (rs := [.tmp 4]) (vs := [.bool T3]) (.inl rfl) rfl ⟨rfl, trivial⟩ hf_ hs_ ⟨(), rfl, hs_.pulls [] rfl⟩

/-- loop.example/g00950/spec.l9Ents -/
noncomputable def spec_l9Ents (l : List Ent) : Option Bool :=
  bindC (loopO (fun (S1 : Int) => if (decide (S1 < ((l.length : Nat) : Int))) = true then (((idx l S1).bind fun E8 =>
  (spec_l9Ent E8).bind fun R10 =>
  if (!R10) = true then (some true)
  else (if (decide (S1 > (0 : Int))) = true then ((idx l (IntKind.i64.wrap (S1 - (1 : Int)))).bind fun E15 =>
  (spec_l9Ahead E15 E8).bind fun R17 =>
  some (!R17))
  else (some false))).bind (fun (T6 : Bool) =>
  if T6 = true then (some (.done (.done false)))
  else (some (.go (IntKind.i64.wrap (S1 + (1 : Int)))))))
  else (some (.done (.go ()))))
  (0 : Int))
  (fun (T3 : Unit) => some true)

theorem spec_l9Ents_con (l : List Ent) (V_l0 : Value) (r : Bool) (hm : spec_l9Ents l = some r) :
    Con Try.prog 37 [V_l0] [] [(V_l0, lc l)] (fun _ : Unit => .bool r) (fun _ => []) := by
  refine Con.intro (args := [V_l0]) (n := 33) (val := fun r (_ : Unit) => .bool r) (post := fun _ _ => []) (m := spec_l9Ents l) Try.func37 rfl rfl rfl hm ?_
  intro w S hrd
  have HB_V_l0 := hrd _ (.head _)
  clear hrd
  unfold spec_l9Ents
  refine TW.seq ?_
  refine TW.region ?_
  refine TO.y (Y.assign rfl) rfl rfl rfl ?_
  refine TO.nil ?_
  refine TE.next ?_
  refine TW.seq ?_
  refine TW.seq ?_
  refine TW.region ?_
  refine TO.y (Y.assign rfl) rfl rfl rfl ?_
  refine TO.nil ?_
  refine TE.next ?_
  refine TW.joinX (τ := Unit) (X := Unit) (fun _ _ => []) (fun _ _ => []) ?_ (fun T3 X4 => ?_)
  · refine TW.block ?_
    refine TW.loopX (σ := Int) (X := Unit) (fun T _ => [(0, V_l0), (3, .int .i64 T)]) (fun _ _ => []) () [] ⟨rfl, rfl, trivial⟩ rfl (fun S1 X2 => ?_)
    refine TW.seq ?_
    refine TW.seq ?_
    refine TW.region ?_
    refine TO.y (Y.move rfl) rfl rfl rfl ?_
    refine TO.y (Y.move rfl) rfl rfl rfl ?_
    refine TO.y (Y.len (l := l) ke24 (Base.can HB_V_l0) rfl) rfl rfl rfl ?_
    refine TO.y (Y.lss rfl rfl) rfl rfl rfl ?_
    refine TO.nil ?_
    refine TE.next ?_
    refine TW.cond rfl (fun H5 => ?_) (fun H5 => ?_)
    · refine TW.skip ?_
      refine TE.next ?_
      refine TW.seq ?_
      refine TW.block ?_
      refine TW.seq ?_
      refine TW.joinBX (τ := Bool) (X := Unit) (fun T _ => [(0, V_l0), (3, .int .i64 S1), (32, .bool T)]) (fun _ _ => []) ?_ (fun T6 X7 => ?_)
      · refine TW.draw (isH := []) hMix ?_
        refine TA.y (listed' := #[true, false, false, false, false, false, false, false, false, false, false, false, false, false, false, false, false, false, false, false, false, false, false]) 0 [] rfl (Y.move rfl) rfl rfl rfl (by kernel_rfl) (by kernel_rfl) (by kernel_rfl) rfl rfl ?_
        refine TA.y (listed' := #[true, true, false, false, false, false, false, false, false, false, false, false, false, false, false, false, false, false, false, false, false, false, false]) 1 [] rfl (Y.move rfl) rfl rfl rfl (by kernel_rfl) (by kernel_rfl) (by kernel_rfl) rfl rfl ?_
        refine TA.bind fun E8 H9 => ?_
        refine TA.y (listed' := #[true, true, true, false, false, false, false, false, false, false, false, false, false, false, false, false, false, false, false, false, false, false, false]) 2 [] rfl (Y.index ke24 (Base.can HB_V_l0) H9 rfl rfl) rfl rfl rfl (by kernel_rfl) (by kernel_rfl) (by kernel_rfl) rfl rfl ?_
        refine TA.y (listed' := #[true, true, true, true, false, false, false, false, false, false, false, false, false, false, false, false, false, false, false, false, false, false, false]) 3 [] rfl (Y.load_el (us := [strV E8.Key, .int .i64 E8.Seq, .bool E8.Del, strV E8.Val]) (u := .agg #[strV E8.Key, .int .i64 E8.Seq, .bool E8.Del, strV E8.Val]) kk72 rfl (Base.can HB_V_l0) (idx_get H9).2.2 rfl rfl rfl rfl rfl) rfl rfl rfl (by kernel_rfl) (by kernel_rfl) (by kernel_rfl) rfl rfl ?_
        refine TA.bind fun R10 H11 => ?_
        refine TA.one 4 (by kernel_rfl) ?_
        refine TX.ef (listed' := #[true, true, true, true, true, false, false, false, false, false, false, false, false, false, false, false, false, false, false, false, false, false, false]) [] rfl (Ef.call (rest := []) [] (spec_l9Ent_con E8  R10 H11) kc77 rfl rfl trivial) rfl rfl rfl rfl (fun _ => rfl) (fun _ => ?_)
        refine TA.y (listed' := #[true, true, true, true, true, true, false, false, false, false, false, false, false, false, false, false, false, false, false, false, false, false, false]) 5 [] rfl (Y.not rfl) rfl rfl rfl (by kernel_rfl) (by kernel_rfl) (by kernel_rfl) rfl rfl ?_
        refine TA.y (listed' := #[true, true, true, true, true, true, true, false, false, false, false, false, false, false, false, false, false, false, false, false, false, false, false]) 6 [] rfl (Y.move rfl) rfl rfl rfl (by kernel_rfl) (by kernel_rfl) (by kernel_rfl) rfl rfl ?_
        refine TA.ite (b := !R10) (fun H13 => ?_) (fun H13 => ?_)
        · refine TA.off (listed' := #[true, true, true, true, true, true, true, true, false, false, false, false, false, false, false, false, false, false, false, false, false, false, false]) 7 [] rfl (Gd.at 6 false 16 (!R10) rfl rfl rfl (beq_tf H13)) rfl rfl (by kernel_rfl) (by kernel_rfl) (by kernel_rfl) rfl rfl ?_
          refine TA.off (listed' := #[true, true, true, true, true, true, true, true, true, false, false, false, false, false, false, false, false, false, false, false, false, false, false]) 8 [] rfl (Gd.at 6 false 16 (!R10) rfl rfl rfl (beq_tf H13)) rfl rfl (by kernel_rfl) (by kernel_rfl) (by kernel_rfl) rfl rfl ?_
          refine TA.off (listed' := #[true, true, true, true, true, true, true, true, true, true, false, false, false, false, false, false, false, false, false, false, false, false, false]) 9 [] rfl (Gd.at 6 false 16 (!R10) rfl rfl rfl (beq_tf H13)) rfl rfl (by kernel_rfl) (by kernel_rfl) (by kernel_rfl) rfl rfl ?_
          refine TA.off (listed' := #[true, true, true, true, true, true, true, true, true, true, true, false, false, false, false, false, false, false, false, false, false, false, false]) 10 [] rfl (Gd.un 9 true 19 rfl rfl rfl) rfl rfl (by kernel_rfl) (by kernel_rfl) (by kernel_rfl) rfl rfl ?_
          refine TA.off (listed' := #[true, true, true, true, true, true, true, true, true, true, true, true, false, false, false, false, false, false, false, false, false, false, false]) 11 [] rfl (Gd.un 9 true 19 rfl rfl rfl) rfl rfl (by kernel_rfl) (by kernel_rfl) (by kernel_rfl) rfl rfl ?_
          refine TA.off (listed' := #[true, true, true, true, true, true, true, true, true, true, true, true, true, false, false, false, false, false, false, false, false, false, false]) 12 [] rfl (Gd.un 9 true 19 rfl rfl rfl) rfl rfl (by kernel_rfl) (by kernel_rfl) (by kernel_rfl) rfl rfl ?_
          refine TA.off (listed' := #[true, true, true, true, true, true, true, true, true, true, true, true, true, true, false, false, false, false, false, false, false, false, false]) 13 [] rfl (Gd.un 9 true 19 rfl rfl rfl) rfl rfl (by kernel_rfl) (by kernel_rfl) (by kernel_rfl) rfl rfl ?_
          refine TA.off (listed' := #[true, true, true, true, true, true, true, true, true, true, true, true, true, true, true, false, false, false, false, false, false, false, false]) 14 [] rfl (Gd.un 9 true 19 rfl rfl rfl) rfl rfl (by kernel_rfl) (by kernel_rfl) (by kernel_rfl) rfl rfl ?_
          refine TA.off (listed' := #[true, true, true, true, true, true, true, true, true, true, true, true, true, true, true, true, false, false, false, false, false, false, false]) 15 [] rfl (Gd.un 9 true 19 rfl rfl rfl) rfl rfl (by kernel_rfl) (by kernel_rfl) (by kernel_rfl) rfl rfl ?_
          refine TA.off (listed' := #[true, true, true, true, true, true, true, true, true, true, true, true, true, true, true, true, true, false, false, false, false, false, false]) 16 [] rfl (Gd.un 9 true 19 rfl rfl rfl) rfl rfl (by kernel_rfl) (by kernel_rfl) (by kernel_rfl) rfl rfl ?_
          refine TA.off (listed' := #[true, true, true, true, true, true, true, true, true, true, true, true, true, true, true, true, true, true, false, false, false, false, false]) 17 [] rfl (Gd.un 9 true 19 rfl rfl rfl) rfl rfl (by kernel_rfl) (by kernel_rfl) (by kernel_rfl) rfl rfl ?_
          refine TA.off (listed' := #[true, true, true, true, true, true, true, true, true, true, true, true, true, true, true, true, true, true, true, false, false, false, false]) 18 [] rfl (Gd.un 9 true 19 rfl rfl rfl) rfl rfl (by kernel_rfl) (by kernel_rfl) (by kernel_rfl) rfl rfl ?_
          refine TA.off (listed' := #[true, true, true, true, true, true, true, true, true, true, true, true, true, true, true, true, true, true, true, true, false, false, false]) 19 [] rfl (Gd.un 9 true 19 rfl rfl rfl) rfl rfl (by kernel_rfl) (by kernel_rfl) (by kernel_rfl) rfl rfl ?_
          refine TA.off (listed' := #[true, true, true, true, true, true, true, true, true, true, true, true, true, true, true, true, true, true, true, true, true, false, false]) 20 [] rfl (Gd.un 9 true 19 rfl rfl rfl) rfl rfl (by kernel_rfl) (by kernel_rfl) (by kernel_rfl) rfl rfl ?_
          refine TA.off (listed' := #[true, true, true, true, true, true, true, true, true, true, true, true, true, true, true, true, true, true, true, true, true, true, false]) 21 [] rfl (Gd.at 6 false 16 (!R10) rfl rfl rfl (beq_tf H13)) rfl rfl (by kernel_rfl) (by kernel_rfl) (by kernel_rfl) rfl rfl ?_
          refine TA.y (listed' := #[true, true, true, true, true, true, true, true, true, true, true, true, true, true, true, true, true, true, true, true, true, true, true]) 22 [] rfl (Y.pick_t H13 rfl rfl) rfl rfl rfl (by kernel_rfl) (by kernel_rfl) (by kernel_rfl) rfl rfl ?_
          refine TA.nil (by kernel_rfl) ?_
          exact TE.jb_go () [] ⟨rfl, rfl, rfl, trivial⟩ rfl
        · refine TA.y (listed' := #[true, true, true, true, true, true, true, true, false, false, false, false, false, false, false, false, false, false, false, false, false, false, false]) 7 [] rfl (Y.move rfl) (Gd.at 6 false 16 (!R10) rfl rfl rfl (beq_ff H13)) rfl rfl (by kernel_rfl) (by kernel_rfl) (by kernel_rfl) rfl rfl ?_
          refine TA.y (listed' := #[true, true, true, true, true, true, true, true, true, false, false, false, false, false, false, false, false, false, false, false, false, false, false]) 8 [] rfl (Y.gtr rfl rfl) (Gd.at 6 false 16 (!R10) rfl rfl rfl (beq_ff H13)) rfl rfl (by kernel_rfl) (by kernel_rfl) (by kernel_rfl) rfl rfl ?_
          refine TA.y (listed' := #[true, true, true, true, true, true, true, true, true, true, false, false, false, false, false, false, false, false, false, false, false, false, false]) 9 [] rfl (Y.move rfl) (Gd.at 6 false 16 (!R10) rfl rfl rfl (beq_ff H13)) rfl rfl (by kernel_rfl) (by kernel_rfl) (by kernel_rfl) rfl rfl ?_
          refine TA.ite (b := decide (S1 > (0 : Int))) (fun H14 => ?_) (fun H14 => ?_)
          · refine TA.y (listed' := #[true, true, true, true, true, true, true, true, true, true, true, false, false, false, false, false, false, false, false, false, false, false, false]) 10 [] rfl (Y.move rfl) (Gd.at 9 true 19 (decide (S1 > (0 : Int))) rfl rfl rfl (beq_tt H14)) rfl rfl (by kernel_rfl) (by kernel_rfl) (by kernel_rfl) rfl rfl ?_
            refine TA.y (listed' := #[true, true, true, true, true, true, true, true, true, true, true, true, false, false, false, false, false, false, false, false, false, false, false]) 11 [] rfl (Y.move rfl) (Gd.at 9 true 19 (decide (S1 > (0 : Int))) rfl rfl rfl (beq_tt H14)) rfl rfl (by kernel_rfl) (by kernel_rfl) (by kernel_rfl) rfl rfl ?_
            refine TA.y (listed' := #[true, true, true, true, true, true, true, true, true, true, true, true, true, false, false, false, false, false, false, false, false, false, false]) 12 [] rfl (Y.sub rfl rfl) (Gd.at 9 true 19 (decide (S1 > (0 : Int))) rfl rfl rfl (beq_tt H14)) rfl rfl (by kernel_rfl) (by kernel_rfl) (by kernel_rfl) rfl rfl ?_
            refine TA.bind fun E15 H16 => ?_
            refine TA.y (listed' := #[true, true, true, true, true, true, true, true, true, true, true, true, true, true, false, false, false, false, false, false, false, false, false]) 13 [] rfl (Y.index ke24 (Base.can HB_V_l0) H16 rfl rfl) (Gd.at 9 true 19 (decide (S1 > (0 : Int))) rfl rfl rfl (beq_tt H14)) rfl rfl (by kernel_rfl) (by kernel_rfl) (by kernel_rfl) rfl rfl ?_
            refine TA.y (listed' := #[true, true, true, true, true, true, true, true, true, true, true, true, true, true, true, false, false, false, false, false, false, false, false]) 14 [] rfl (Y.load_el (us := [strV E15.Key, .int .i64 E15.Seq, .bool E15.Del, strV E15.Val]) (u := .agg #[strV E15.Key, .int .i64 E15.Seq, .bool E15.Del, strV E15.Val]) kk72 rfl (Base.can HB_V_l0) (idx_get H16).2.2 rfl rfl rfl rfl rfl) (Gd.at 9 true 19 (decide (S1 > (0 : Int))) rfl rfl rfl (beq_tt H14)) rfl rfl (by kernel_rfl) (by kernel_rfl) (by kernel_rfl) rfl rfl ?_
            refine TA.y (listed' := #[true, true, true, true, true, true, true, true, true, true, true, true, true, true, true, true, false, false, false, false, false, false, false]) 15 [] rfl (Y.move rfl) (Gd.at 9 true 19 (decide (S1 > (0 : Int))) rfl rfl rfl (beq_tt H14)) rfl rfl (by kernel_rfl) (by kernel_rfl) (by kernel_rfl) rfl rfl ?_
            refine TA.y (listed' := #[true, true, true, true, true, true, true, true, true, true, true, true, true, true, true, true, true, false, false, false, false, false, false]) 16 [] rfl (Y.move rfl) (Gd.at 9 true 19 (decide (S1 > (0 : Int))) rfl rfl rfl (beq_tt H14)) rfl rfl (by kernel_rfl) (by kernel_rfl) (by kernel_rfl) rfl rfl ?_
            refine TA.y (listed' := #[true, true, true, true, true, true, true, true, true, true, true, true, true, true, true, true, true, true, false, false, false, false, false]) 17 [] rfl (Y.index ke24 (Base.can HB_V_l0) H9 rfl rfl) (Gd.at 9 true 19 (decide (S1 > (0 : Int))) rfl rfl rfl (beq_tt H14)) rfl rfl (by kernel_rfl) (by kernel_rfl) (by kernel_rfl) rfl rfl ?_
            refine TA.y (listed' := #[true, true, true, true, true, true, true, true, true, true, true, true, true, true, true, true, true, true, true, false, false, false, false]) 18 [] rfl (Y.load_el (us := [strV E8.Key, .int .i64 E8.Seq, .bool E8.Del, strV E8.Val]) (u := .agg #[strV E8.Key, .int .i64 E8.Seq, .bool E8.Del, strV E8.Val]) kk72 rfl (Base.can HB_V_l0) (idx_get H9).2.2 rfl rfl rfl rfl rfl) (Gd.at 9 true 19 (decide (S1 > (0 : Int))) rfl rfl rfl (beq_tt H14)) rfl rfl (by kernel_rfl) (by kernel_rfl) (by kernel_rfl) rfl rfl ?_
            refine TA.bind fun R17 H18 => ?_
            refine TA.one 19 (by kernel_rfl) ?_
            refine TX.ef (listed' := #[true, true, true, true, true, true, true, true, true, true, true, true, true, true, true, true, true, true, true, true, false, false, false]) [] rfl (Ef.call (rest := []) [] (spec_l9Ahead_con E15 E8  R17 H18) kc38 rfl rfl trivial) (Gd.at 9 true 19 (decide (S1 > (0 : Int))) rfl rfl rfl (beq_tt H14)) rfl rfl rfl (fun _ => rfl) (fun _ => ?_)
            refine TA.y (listed' := #[true, true, true, true, true, true, true, true, true, true, true, true, true, true, true, true, true, true, true, true, true, false, false]) 20 [] rfl (Y.not rfl) (Gd.at 9 true 19 (decide (S1 > (0 : Int))) rfl rfl rfl (beq_tt H14)) rfl rfl (by kernel_rfl) (by kernel_rfl) (by kernel_rfl) rfl rfl ?_
            refine TA.y (listed' := #[true, true, true, true, true, true, true, true, true, true, true, true, true, true, true, true, true, true, true, true, true, true, false]) 21 [] rfl (Y.pick_t H14 rfl rfl) (Gd.at 6 false 16 (!R10) rfl rfl rfl (beq_ff H13)) rfl rfl (by kernel_rfl) (by kernel_rfl) (by kernel_rfl) rfl rfl ?_
            refine TA.y (listed' := #[true, true, true, true, true, true, true, true, true, true, true, true, true, true, true, true, true, true, true, true, true, true, true]) 22 [] rfl (Y.pick_f H13 rfl rfl) rfl rfl rfl (by kernel_rfl) (by kernel_rfl) (by kernel_rfl) rfl rfl ?_
            refine TA.nil (by kernel_rfl) ?_
            exact TE.jb_go () [] ⟨rfl, rfl, rfl, trivial⟩ rfl
          · refine TA.off (listed' := #[true, true, true, true, true, true, true, true, true, true, true, false, false, false, false, false, false, false, false, false, false, false, false]) 10 [] rfl (Gd.at 9 true 19 (decide (S1 > (0 : Int))) rfl rfl rfl (beq_ft H14)) rfl rfl (by kernel_rfl) (by kernel_rfl) (by kernel_rfl) rfl rfl ?_
            refine TA.off (listed' := #[true, true, true, true, true, true, true, true, true, true, true, true, false, false, false, false, false, false, false, false, false, false, false]) 11 [] rfl (Gd.at 9 true 19 (decide (S1 > (0 : Int))) rfl rfl rfl (beq_ft H14)) rfl rfl (by kernel_rfl) (by kernel_rfl) (by kernel_rfl) rfl rfl ?_
            refine TA.off (listed' := #[true, true, true, true, true, true, true, true, true, true, true, true, true, false, false, false, false, false, false, false, false, false, false]) 12 [] rfl (Gd.at 9 true 19 (decide (S1 > (0 : Int))) rfl rfl rfl (beq_ft H14)) rfl rfl (by kernel_rfl) (by kernel_rfl) (by kernel_rfl) rfl rfl ?_
            refine TA.off (listed' := #[true, true, true, true, true, true, true, true, true, true, true, true, true, true, false, false, false, false, false, false, false, false, false]) 13 [] rfl (Gd.at 9 true 19 (decide (S1 > (0 : Int))) rfl rfl rfl (beq_ft H14)) rfl rfl (by kernel_rfl) (by kernel_rfl) (by kernel_rfl) rfl rfl ?_
            refine TA.off (listed' := #[true, true, true, true, true, true, true, true, true, true, true, true, true, true, true, false, false, false, false, false, false, false, false]) 14 [] rfl (Gd.at 9 true 19 (decide (S1 > (0 : Int))) rfl rfl rfl (beq_ft H14)) rfl rfl (by kernel_rfl) (by kernel_rfl) (by kernel_rfl) rfl rfl ?_
            refine TA.off (listed' := #[true, true, true, true, true, true, true, true, true, true, true, true, true, true, true, true, false, false, false, false, false, false, false]) 15 [] rfl (Gd.at 9 true 19 (decide (S1 > (0 : Int))) rfl rfl rfl (beq_ft H14)) rfl rfl (by kernel_rfl) (by kernel_rfl) (by kernel_rfl) rfl rfl ?_
            refine TA.off (listed' := #[true, true, true, true, true, true, true, true, true, true, true, true, true, true, true, true, true, false, false, false, false, false, false]) 16 [] rfl (Gd.at 9 true 19 (decide (S1 > (0 : Int))) rfl rfl rfl (beq_ft H14)) rfl rfl (by kernel_rfl) (by kernel_rfl) (by kernel_rfl) rfl rfl ?_
            refine TA.off (listed' := #[true, true, true, true, true, true, true, true, true, true, true, true, true, true, true, true, true, true, false, false, false, false, false]) 17 [] rfl (Gd.at 9 true 19 (decide (S1 > (0 : Int))) rfl rfl rfl (beq_ft H14)) rfl rfl (by kernel_rfl) (by kernel_rfl) (by kernel_rfl) rfl rfl ?_
            refine TA.off (listed' := #[true, true, true, true, true, true, true, true, true, true, true, true, true, true, true, true, true, true, true, false, false, false, false]) 18 [] rfl (Gd.at 9 true 19 (decide (S1 > (0 : Int))) rfl rfl rfl (beq_ft H14)) rfl rfl (by kernel_rfl) (by kernel_rfl) (by kernel_rfl) rfl rfl ?_
            refine TA.off (listed' := #[true, true, true, true, true, true, true, true, true, true, true, true, true, true, true, true, true, true, true, true, false, false, false]) 19 [] rfl (Gd.at 9 true 19 (decide (S1 > (0 : Int))) rfl rfl rfl (beq_ft H14)) rfl rfl (by kernel_rfl) (by kernel_rfl) (by kernel_rfl) rfl rfl ?_
            refine TA.off (listed' := #[true, true, true, true, true, true, true, true, true, true, true, true, true, true, true, true, true, true, true, true, true, false, false]) 20 [] rfl (Gd.at 9 true 19 (decide (S1 > (0 : Int))) rfl rfl rfl (beq_ft H14)) rfl rfl (by kernel_rfl) (by kernel_rfl) (by kernel_rfl) rfl rfl ?_
            refine TA.y (listed' := #[true, true, true, true, true, true, true, true, true, true, true, true, true, true, true, true, true, true, true, true, true, true, false]) 21 [] rfl (Y.pick_f H14 rfl rfl) (Gd.at 6 false 16 (!R10) rfl rfl rfl (beq_ff H13)) rfl rfl (by kernel_rfl) (by kernel_rfl) (by kernel_rfl) rfl rfl ?_
            refine TA.y (listed' := #[true, true, true, true, true, true, true, true, true, true, true, true, true, true, true, true, true, true, true, true, true, true, true]) 22 [] rfl (Y.pick_f H13 rfl rfl) rfl rfl rfl (by kernel_rfl) (by kernel_rfl) (by kernel_rfl) rfl rfl ?_
            refine TA.nil (by kernel_rfl) ?_
            exact TE.jb_go () [] ⟨rfl, rfl, rfl, trivial⟩ rfl
      · refine TE.next ?_
        refine TW.cond rfl (fun H20 => ?_) (fun H20 => ?_)
        · refine TW.seq ?_
          refine TW.region ?_
          refine TO.y (Y.assign rfl) rfl rfl rfl ?_
          refine TO.nil ?_
          refine TE.next ?_
          refine TW.ret ?_
          refine TE.block_ret ?_
          refine TE.then_ret ?_
          refine TE.lp_ret ?_
          refine TE.block_ret ?_
          refine TE.jn_done ?_
          refine TE.then_ret ?_
          exact TE.leaf fun _ _ hf_ hs_ => ret_any (rs := [.tmp 2]) (vs := [.bool false]) (.inl rfl) rfl ⟨rfl, trivial⟩ hf_ hs_ ⟨(), rfl, hs_.pulls [] rfl⟩
        · refine TW.skip ?_
          refine TE.block_normal ?_
          refine TE.next ?_
          refine TW.region ?_
          refine TO.y (Y.move rfl) rfl rfl rfl ?_
          refine TO.y (Y.add rfl rfl) rfl rfl rfl ?_
          refine TO.y (Y.assign rfl) rfl rfl rfl ?_
          refine TO.nil ?_
          exact TE.lp_go () [] ⟨rfl, rfl, trivial⟩ rfl
    · refine TW.exit ?_
      refine TE.then_exit ?_
      refine TE.lp_exit ?_
      refine TE.block_exit ?_
      exact TE.jn_go () [] trivial rfl
  · refine TE.next ?_
    refine TW.seq ?_
    refine TW.region ?_
    refine TO.y (Y.assign rfl) rfl rfl rfl ?_
    refine TO.nil ?_
    refine TE.next ?_
    refine TW.ret ?_
    exact TE.leaf fun _ _ hf_ hs_ => ret_any (rs := [.tmp 2]) (vs := [.bool true]) (.inl rfl) rfl ⟨rfl, trivial⟩ hf_ hs_ ⟨(), rfl, hs_.pulls [] rfl⟩

/-- loop.example/g00950/spec.MemOk -/
noncomputable def spec_MemOk (l : List Ent) : Option Bool :=
  (if (decide (((l.length : Nat) : Int) ≤ (60 : Int))) = true then ((spec_l9Ents l).bind fun R4 =>
  some R4)
  else (some false)).bind (fun (T1 : Bool) =>
  some T1)

theorem spec_MemOk_con (l : List Ent) (V_l0 : Value) (r : Bool) (hm : spec_MemOk l = some r) :
    Con Try.prog 86 [V_l0] [] [(V_l0, lc l)] (fun _ : Unit => .bool r) (fun _ => []) := by
  refine Con.intro (args := [V_l0]) (n := 10) (val := fun r (_ : Unit) => .bool r) (post := fun _ _ => []) (m := spec_MemOk l) Try.func86 rfl rfl rfl hm ?_
  intro w S hrd
  have HB_V_l0 := hrd _ (.head _)
  clear hrd
  unfold spec_MemOk
  refine TW.seq ?_
  refine TW.region ?_
  refine TO.y (Y.assign rfl) rfl rfl rfl ?_
  refine TO.nil ?_
  refine TE.next ?_
  refine TW.seq ?_
  refine TW.joinBX (τ := Bool) (X := Unit) (fun T _ => [(2, .bool T)]) (fun _ _ => []) ?_ (fun T1 X2 => ?_)
  · refine TW.region ?_
    refine TO.y (Y.move rfl) rfl rfl rfl ?_
    refine TO.y (Y.len (l := l) ke24 (Base.can HB_V_l0) rfl) rfl rfl rfl ?_
    refine TO.y (Y.leq rfl rfl) rfl rfl rfl ?_
    refine TO.y (Y.move rfl) rfl rfl rfl ?_
    refine TO.ite (b := decide (((l.length : Nat) : Int) ≤ (60 : Int))) (fun H3 => ?_) (fun H3 => ?_)
    · refine TO.y (Y.move rfl) (Gd.at 3 true 6 (decide (((l.length : Nat) : Int) ≤ (60 : Int))) rfl rfl rfl (beq_tt H3)) rfl rfl ?_
      refine TO.bind fun R4 H5 => ?_
      refine TO.ef (Ef.call (rest := []) [] (spec_l9Ents_con l V_l0 R4 H5) kc37 rfl rfl ⟨(Base.can HB_V_l0), trivial⟩) (Gd.at 3 true 6 (decide (((l.length : Nat) : Int) ≤ (60 : Int))) rfl rfl rfl (beq_tt H3)) rfl rfl (fun _ => ?_)
      refine TO.y (Y.pick_t H3 rfl rfl) rfl rfl rfl ?_
      refine TO.y (Y.assign rfl) rfl rfl rfl ?_
      refine TO.nil ?_
      exact TE.jb_go () [] ⟨rfl, trivial⟩ rfl
    · refine TO.off (Gd.at 3 true 6 (decide (((l.length : Nat) : Int) ≤ (60 : Int))) rfl rfl rfl (beq_ft H3)) rfl rfl ?_
      refine TO.off (Gd.at 3 true 6 (decide (((l.length : Nat) : Int) ≤ (60 : Int))) rfl rfl rfl (beq_ft H3)) rfl rfl ?_
      refine TO.y (Y.pick_f H3 rfl rfl) rfl rfl rfl ?_
      refine TO.y (Y.assign rfl) rfl rfl rfl ?_
      refine TO.nil ?_
      exact TE.jb_go () [] ⟨rfl, trivial⟩ rfl
  · refine TE.next ?_
    refine TW.ret ?_
    exact TE.leaf fun _ _ hf_ hs_ => ret_any (rs := [.tmp 2]) (vs := [.bool T1]) (.inl rfl) rfl ⟨rfl, trivial⟩ hf_ hs_ ⟨(), rfl, hs_.pulls [] rfl⟩

/-- loop.example/g00950/spec.l20Bounds -/
noncomputable def spec_l20Bounds (l : List Ent) : Option (Int × Int) :=
  bindC (loopO (fun (S1 : Int × Int × Int) => if (decide (S1.2.2 < ((l.length : Nat) : Int))) = true then ((idx l S1.2.2).bind fun E6 =>
  bindC (if (decide (E6.Seq < S1.1)) = true then (some (.go E6.Seq))
  else (some (.go S1.1)))
  (fun (T8 : Int) => bindC (if (decide (E6.Seq > S1.2.1)) = true then (some (.go E6.Seq))
  else (some (.go S1.2.1)))
  (fun (T11 : Int) => some (.go (T8, T11, IntKind.i64.wrap (S1.2.2 + (1 : Int)))))))
  else (some (.done (.go (S1.1, S1.2.1)))))
  ((1000001 : Int), (-1 : Int), (0 : Int)))
  (fun (T3 : Int × Int) => some (T3.1, T3.2))

theorem spec_l20Bounds_con (l : List Ent) (V_l0 : Value) (r : Int × Int) (hm : spec_l20Bounds l = some r) :
    Con Try.prog 87 [V_l0] [] [(V_l0, lc l)] (fun _ : Unit => .tuple #[.int .i64 r.1, .int .i64 r.2]) (fun _ => []) := by
  refine Con.intro (args := [V_l0]) (n := 39) (val := fun r (_ : Unit) => .tuple #[.int .i64 r.1, .int .i64 r.2]) (post := fun _ _ => []) (m := spec_l20Bounds l) Try.func87 rfl rfl rfl hm ?_
  intro w S hrd
  have HB_V_l0 := hrd _ (.head _)
  clear hrd
  unfold spec_l20Bounds
  refine TW.seq ?_
  refine TW.region ?_
  refine TO.y (Y.assign rfl) rfl rfl rfl ?_
  refine TO.y (Y.assign rfl) rfl rfl rfl ?_
  refine TO.nil ?_
  refine TE.next ?_
  refine TW.seq ?_
  refine TW.region ?_
  refine TO.y (Y.assign rfl) rfl rfl rfl ?_
  refine TO.nil ?_
  refine TE.next ?_
  refine TW.seq ?_
  refine TW.region ?_
  refine TO.y (Y.assign rfl) rfl rfl rfl ?_
  refine TO.nil ?_
  refine TE.next ?_
  refine TW.seq ?_
  refine TW.seq ?_
  refine TW.region ?_
  refine TO.y (Y.assign rfl) rfl rfl rfl ?_
  refine TO.nil ?_
  refine TE.next ?_
  refine TW.joinX (τ := Int × Int) (X := Unit) (fun T _ => [(4, .int .i64 T.1), (5, .int .i64 T.2)]) (fun _ _ => []) ?_ (fun T3 X4 => ?_)
  · refine TW.block ?_
    refine TW.loopX (σ := Int × Int × Int) (X := Unit) (fun T _ => [(0, V_l0), (4, .int .i64 T.1), (5, .int .i64 T.2.1), (6, .int .i64 T.2.2)]) (fun _ _ => []) () [] ⟨rfl, rfl, rfl, rfl, trivial⟩ rfl (fun S1 X2 => ?_)
    refine TW.seq ?_
    refine TW.seq ?_
    refine TW.region ?_
    refine TO.y (Y.move rfl) rfl rfl rfl ?_
    refine TO.y (Y.move rfl) rfl rfl rfl ?_
    refine TO.y (Y.len (l := l) ke24 (Base.can HB_V_l0) rfl) rfl rfl rfl ?_
    refine TO.y (Y.lss rfl rfl) rfl rfl rfl ?_
    refine TO.nil ?_
    refine TE.next ?_
    refine TW.cond rfl (fun H5 => ?_) (fun H5 => ?_)
    · refine TW.skip ?_
      refine TE.next ?_
      refine TW.seq ?_
      refine TW.block ?_
      refine TW.seq ?_
      refine TW.seq ?_
      refine TW.region ?_
      refine TO.y (Y.move rfl) rfl rfl rfl ?_
      refine TO.y (Y.move rfl) rfl rfl rfl ?_
      refine TO.bind fun E6 H7 => ?_
      refine TO.y (Y.index ke24 (Base.can HB_V_l0) H7 rfl rfl) rfl rfl rfl ?_
      refine TO.y (Y.field_el kf72_1 (Base.can HB_V_l0) (idx_get H7).2.2 rfl rfl) rfl rfl rfl ?_
      refine TO.y (Y.load_el (us := [.int .i64 E6.Seq]) (u := .int .i64 E6.Seq) kk3 rfl (Base.can HB_V_l0) (idx_get H7).2.2 rfl rfl rfl rfl rfl) rfl rfl rfl ?_
      refine TO.y (Y.move rfl) rfl rfl rfl ?_
      refine TO.y (Y.lss rfl rfl) rfl rfl rfl ?_
      refine TO.nil ?_
      refine TE.next ?_
      refine TW.joinX (τ := Int) (X := Unit) (fun T _ => [(0, V_l0), (4, .int .i64 T), (5, .int .i64 S1.2.1), (6, .int .i64 S1.2.2)]) (fun _ _ => []) ?_ (fun T8 X9 => ?_)
      · refine TW.cond rfl (fun H10 => ?_) (fun H10 => ?_)
        · refine TW.region ?_
          refine TO.y (Y.move rfl) rfl rfl rfl ?_
          refine TO.y (Y.move rfl) rfl rfl rfl ?_
          refine TO.y (Y.index ke24 (Base.can HB_V_l0) H7 rfl rfl) rfl rfl rfl ?_
          refine TO.y (Y.field_el kf72_1 (Base.can HB_V_l0) (idx_get H7).2.2 rfl rfl) rfl rfl rfl ?_
          refine TO.y (Y.load_el (us := [.int .i64 E6.Seq]) (u := .int .i64 E6.Seq) kk3 rfl (Base.can HB_V_l0) (idx_get H7).2.2 rfl rfl rfl rfl rfl) rfl rfl rfl ?_
          refine TO.y (Y.assign rfl) rfl rfl rfl ?_
          refine TO.nil ?_
          exact TE.jn_go () [] ⟨rfl, rfl, rfl, rfl, trivial⟩ rfl
        · refine TW.skip ?_
          exact TE.jn_go () [] ⟨rfl, rfl, rfl, rfl, trivial⟩ rfl
      · refine TE.next ?_
        refine TW.seq ?_
        refine TW.region ?_
        refine TO.y (Y.move rfl) rfl rfl rfl ?_
        refine TO.y (Y.move rfl) rfl rfl rfl ?_
        refine TO.y (Y.index ke24 (Base.can HB_V_l0) H7 rfl rfl) rfl rfl rfl ?_
        refine TO.y (Y.field_el kf72_1 (Base.can HB_V_l0) (idx_get H7).2.2 rfl rfl) rfl rfl rfl ?_
        refine TO.y (Y.load_el (us := [.int .i64 E6.Seq]) (u := .int .i64 E6.Seq) kk3 rfl (Base.can HB_V_l0) (idx_get H7).2.2 rfl rfl rfl rfl rfl) rfl rfl rfl ?_
        refine TO.y (Y.move rfl) rfl rfl rfl ?_
        refine TO.y (Y.gtr rfl rfl) rfl rfl rfl ?_
        refine TO.nil ?_
        refine TE.next ?_
        refine TW.joinX (τ := Int) (X := Unit) (fun T _ => [(0, V_l0), (4, .int .i64 T8), (5, .int .i64 T), (6, .int .i64 S1.2.2)]) (fun _ _ => []) ?_ (fun T11 X12 => ?_)
        · refine TW.cond rfl (fun H13 => ?_) (fun H13 => ?_)
          · refine TW.region ?_
            refine TO.y (Y.move rfl) rfl rfl rfl ?_
            refine TO.y (Y.move rfl) rfl rfl rfl ?_
            refine TO.y (Y.index ke24 (Base.can HB_V_l0) H7 rfl rfl) rfl rfl rfl ?_
            refine TO.y (Y.field_el kf72_1 (Base.can HB_V_l0) (idx_get H7).2.2 rfl rfl) rfl rfl rfl ?_
            refine TO.y (Y.load_el (us := [.int .i64 E6.Seq]) (u := .int .i64 E6.Seq) kk3 rfl (Base.can HB_V_l0) (idx_get H7).2.2 rfl rfl rfl rfl rfl) rfl rfl rfl ?_
            refine TO.y (Y.assign rfl) rfl rfl rfl ?_
            refine TO.nil ?_
            exact TE.jn_go () [] ⟨rfl, rfl, rfl, rfl, trivial⟩ rfl
          · refine TW.skip ?_
            exact TE.jn_go () [] ⟨rfl, rfl, rfl, rfl, trivial⟩ rfl
        · refine TE.block_normal ?_
          refine TE.next ?_
          refine TW.region ?_
          refine TO.y (Y.move rfl) rfl rfl rfl ?_
          refine TO.y (Y.add rfl rfl) rfl rfl rfl ?_
          refine TO.y (Y.assign rfl) rfl rfl rfl ?_
          refine TO.nil ?_
          exact TE.lp_go () [] ⟨rfl, rfl, rfl, rfl, trivial⟩ rfl
    · refine TW.exit ?_
      refine TE.then_exit ?_
      refine TE.lp_exit ?_
      refine TE.block_exit ?_
      exact TE.jn_go () [] ⟨rfl, rfl, trivial⟩ rfl
  · refine TE.next ?_
    refine TW.seq ?_
    refine TW.region ?_
    refine TO.y (Y.move rfl) rfl rfl rfl ?_
    refine TO.y (Y.move rfl) rfl rfl rfl ?_
    refine TO.y (Y.assign rfl) rfl rfl rfl ?_
    refine TO.y (Y.assign rfl) rfl rfl rfl ?_
    refine TO.nil ?_
    refine TE.next ?_
    refine TW.ret ?_
    exact TE.leaf fun _ _ hf_ hs_ => ret_any (rs := [.tmp 2, .tmp 3]) (vs := [.int .i64 T3.1, .int .i64 T3.2]) (.inl rfl) rfl ⟨rfl, ⟨rfl, trivial⟩⟩ hf_ hs_ ⟨(), rfl, hs_.pulls [] rfl⟩

/-- loop.example/g00950/spec.EngOk -/
noncomputable def spec_EngOk (e : Eng) : Option Bool :=
  ((spec_MemOk e.Mem).bind fun R4 =>
  if (!R4) = true then (some true)
  else (if (decide (((e.Tables.length : Nat) : Int) > (6 : Int))) = true then (some true)
  else ((spec_l1In e.Seq (0 : Int) (1000000 : Int)).bind fun R9 =>
  if (!R9) = true then (some true)
  else (some (decide (((e.Snaps.length : Nat) : Int) > (4 : Int))))))).bind (fun (T2 : Bool) =>
  if T2 = true then (some false)
  else ((spec_l20Bounds e.Mem).bind fun R14 =>
  if (decide (R14.2 > e.Seq)) = true then (some false)
  else (bindC (loopO (fun (S18 : Int × Int × Int) => if (decide (S18.2.2 < ((e.Tables.length : Nat) : Int))) = true then ((idx e.Tables S18.2.2).bind fun E23 =>
  (spec_l20Bounds E23).bind fun R26 =>
  (if (decide (((E23.length : Nat) : Int) = (0 : Int))) = true then (some true)
  else ((spec_l9Ents E23).bind fun R32 =>
  if (!R32) = true then (some true)
  else (if (decide (R26.2 ≥ S18.1)) = true then (some true)
  else (some (decide (R26.2 > e.Seq)))))).bind (fun (T29 : Bool) =>
  if T29 = true then (some (.done (.done false)))
  else (some (.go (R26.1, IntKind.i64.wrap (S18.2.1 + ((E23.length : Nat) : Int)), IntKind.i64.wrap (S18.2.2 + (1 : Int)))))))
  else (some (.done (.go S18.2.1))))
  (R14.1, ((e.Mem.length : Nat) : Int), (0 : Int)))
  (fun (T20 : Int) => bindC (loopO (fun (S38 : Int) => if (decide (S38 < ((e.Snaps.length : Nat) : Int))) = true then (((idx e.Snaps S38).bind fun E45 =>
  (spec_l1In E45 (0 : Int) e.Seq).bind fun R47 =>
  if (!R47) = true then (some true)
  else (if (decide (S38 > (0 : Int))) = true then ((idx e.Snaps (IntKind.i64.wrap (S38 - (1 : Int)))).bind fun E52 =>
  some (decide (E52 ≥ E45)))
  else (some false))).bind (fun (T43 : Bool) =>
  if T43 = true then (some (.done (.done false)))
  else (some (.go (IntKind.i64.wrap (S38 + (1 : Int)))))))
  else (some (.done (.go ()))))
  (0 : Int))
  (fun (T40 : Unit) => some (decide (T20 ≤ (400 : Int))))))))

theorem spec_EngOk_con (e : Eng) (V_e0 : Value) (V_e1 : Value) (V_e3 : Value) (r : Bool) (hm : spec_EngOk e = some r) :
    Con Try.prog 46 [.agg #[V_e0, V_e1, .int .i64 e.Seq, V_e3]] [] [(V_e0, lc e.Mem), (V_e1, lc e.Tables), (V_e3, lc e.Snaps)] (fun _ : Unit => .bool r) (fun _ => []) := by
  refine Con.intro (args := [.agg #[V_e0, V_e1, .int .i64 e.Seq, V_e3]]) (n := 123) (val := fun r (_ : Unit) => .bool r) (post := fun _ _ => []) (m := spec_EngOk e) Try.func46 rfl rfl rfl hm ?_
  intro w S hrd
  have HB_V_e0 := hrd _ (.head _)
  have HB_V_e1 := hrd _ (.tail _ (.head _))
  have HB_V_e3 := hrd _ (.tail _ (.tail _ (.head _)))
  clear hrd
  unfold spec_EngOk
  refine TW.seq ?_
  refine TW.region ?_
  refine TO.ef (Ef.box rfl (Cel.agg ⟨(One.can (Base.can HB_V_e0)), (One.can (Base.can HB_V_e1)), (One.plain rfl), (One.can (Base.can HB_V_e3)), trivial⟩)) rfl rfl rfl (fun B1 => ?_)
  refine TO.y (Y.assign rfl) rfl rfl rfl ?_
  refine TO.nil ?_
  refine TE.next ?_
  refine TW.seq ?_
  refine TW.seq ?_
  refine TW.joinBX (τ := Bool) (X := Unit) (fun T _ => [(1, .pointer (some ⟨B1, 0, none⟩)), (32, .bool T)]) (fun _ _ => [.box B1 39 [V_e0, V_e1, .int .i64 e.Seq, V_e3]]) ?_ (fun T2 X3 => ?_)
  · refine TW.region ?_
    refine TO.y (Y.field_box kf39_0 rfl rfl) rfl rfl rfl ?_
    refine TO.y (Y.load_box (v := V_e0) 0 kk24 rfl rfl rfl) rfl rfl rfl ?_
    refine TO.bind fun R4 H5 => ?_
    refine TO.ef (Ef.call (rest := [.box B1 39 [V_e0, V_e1, .int .i64 e.Seq, V_e3]]) [0] (spec_MemOk_con e.Mem V_e0 R4 H5) kc86 rfl rfl ⟨(Base.can HB_V_e0), trivial⟩) rfl rfl rfl (fun _ => ?_)
    refine TO.y (Y.not rfl) rfl rfl rfl ?_
    refine TO.y (Y.move rfl) rfl rfl rfl ?_
    refine TO.ite (b := !R4) (fun H7 => ?_) (fun H7 => ?_)
    · refine TO.off (Gd.at 4 false 15 (!R4) rfl rfl rfl (beq_tf H7)) rfl rfl ?_
      refine TO.off (Gd.at 4 false 15 (!R4) rfl rfl rfl (beq_tf H7)) rfl rfl ?_
      refine TO.off (Gd.at 4 false 15 (!R4) rfl rfl rfl (beq_tf H7)) rfl rfl ?_
      refine TO.off (Gd.at 4 false 15 (!R4) rfl rfl rfl (beq_tf H7)) rfl rfl ?_
      refine TO.y (Y.pick_t H7 rfl rfl) rfl rfl rfl ?_
      refine TO.y (Y.move rfl) rfl rfl rfl ?_
      refine TO.off (Gd.at 10 false 21 true rfl rfl rfl rfl) rfl rfl ?_
      refine TO.off (Gd.at 10 false 21 true rfl rfl rfl rfl) rfl rfl ?_
      refine TO.off (Gd.at 10 false 21 true rfl rfl rfl rfl) rfl rfl ?_
      refine TO.off (Gd.at 10 false 21 true rfl rfl rfl rfl) rfl rfl ?_
      refine TO.y (Y.pick_t rfl rfl rfl) rfl rfl rfl ?_
      refine TO.y (Y.move rfl) rfl rfl rfl ?_
      refine TO.off (Gd.at 16 false 27 true rfl rfl rfl rfl) rfl rfl ?_
      refine TO.off (Gd.at 16 false 27 true rfl rfl rfl rfl) rfl rfl ?_
      refine TO.off (Gd.at 16 false 27 true rfl rfl rfl rfl) rfl rfl ?_
      refine TO.off (Gd.at 16 false 27 true rfl rfl rfl rfl) rfl rfl ?_
      refine TO.y (Y.pick_t rfl rfl rfl) rfl rfl rfl ?_
      refine TO.nil ?_
      exact TE.jb_go () [0] ⟨rfl, rfl, trivial⟩ rfl
    · refine TO.y (Y.field_box kf39_1 rfl rfl) (Gd.at 4 false 15 (!R4) rfl rfl rfl (beq_ff H7)) rfl rfl ?_
      refine TO.y (Y.load_box (v := V_e1) 0 kk26 rfl rfl rfl) (Gd.at 4 false 15 (!R4) rfl rfl rfl (beq_ff H7)) rfl rfl ?_
      refine TO.y (Y.len (l := e.Tables) ke26 (Base.can HB_V_e1) rfl) (Gd.at 4 false 15 (!R4) rfl rfl rfl (beq_ff H7)) rfl rfl ?_
      refine TO.y (Y.gtr rfl rfl) (Gd.at 4 false 15 (!R4) rfl rfl rfl (beq_ff H7)) rfl rfl ?_
      refine TO.y (Y.pick_f H7 rfl rfl) rfl rfl rfl ?_
      refine TO.y (Y.move rfl) rfl rfl rfl ?_
      refine TO.ite (b := decide (((e.Tables.length : Nat) : Int) > (6 : Int))) (fun H8 => ?_) (fun H8 => ?_)
      · refine TO.off (Gd.at 10 false 21 (decide (((e.Tables.length : Nat) : Int) > (6 : Int))) rfl rfl rfl (beq_tf H8)) rfl rfl ?_
        refine TO.off (Gd.at 10 false 21 (decide (((e.Tables.length : Nat) : Int) > (6 : Int))) rfl rfl rfl (beq_tf H8)) rfl rfl ?_
        refine TO.off (Gd.at 10 false 21 (decide (((e.Tables.length : Nat) : Int) > (6 : Int))) rfl rfl rfl (beq_tf H8)) rfl rfl ?_
        refine TO.off (Gd.at 10 false 21 (decide (((e.Tables.length : Nat) : Int) > (6 : Int))) rfl rfl rfl (beq_tf H8)) rfl rfl ?_
        refine TO.y (Y.pick_t H8 rfl rfl) rfl rfl rfl ?_
        refine TO.y (Y.move rfl) rfl rfl rfl ?_
        refine TO.off (Gd.at 16 false 27 true rfl rfl rfl rfl) rfl rfl ?_
        refine TO.off (Gd.at 16 false 27 true rfl rfl rfl rfl) rfl rfl ?_
        refine TO.off (Gd.at 16 false 27 true rfl rfl rfl rfl) rfl rfl ?_
        refine TO.off (Gd.at 16 false 27 true rfl rfl rfl rfl) rfl rfl ?_
        refine TO.y (Y.pick_t rfl rfl rfl) rfl rfl rfl ?_
        refine TO.nil ?_
        exact TE.jb_go () [0] ⟨rfl, rfl, trivial⟩ rfl
      · refine TO.y (Y.field_box kf39_2 rfl rfl) (Gd.at 10 false 21 (decide (((e.Tables.length : Nat) : Int) > (6 : Int))) rfl rfl rfl (beq_ff H8)) rfl rfl ?_
        refine TO.y (Y.load_box (v := .int .i64 e.Seq) 0 kk3 rfl rfl rfl) (Gd.at 10 false 21 (decide (((e.Tables.length : Nat) : Int) > (6 : Int))) rfl rfl rfl (beq_ff H8)) rfl rfl ?_
        refine TO.bind fun R9 H10 => ?_
        refine TO.ef (Ef.call (rest := [.box B1 39 [V_e0, V_e1, .int .i64 e.Seq, V_e3]]) [0] (spec_l1In_con e.Seq (0 : Int) (1000000 : Int)  R9 H10) kc56 rfl rfl trivial) (Gd.at 10 false 21 (decide (((e.Tables.length : Nat) : Int) > (6 : Int))) rfl rfl rfl (beq_ff H8)) rfl rfl (fun _ => ?_)
        refine TO.y (Y.not rfl) (Gd.at 10 false 21 (decide (((e.Tables.length : Nat) : Int) > (6 : Int))) rfl rfl rfl (beq_ff H8)) rfl rfl ?_
        refine TO.y (Y.pick_f H8 rfl rfl) rfl rfl rfl ?_
        refine TO.y (Y.move rfl) rfl rfl rfl ?_
        refine TO.ite (b := !R9) (fun H12 => ?_) (fun H12 => ?_)
        · refine TO.off (Gd.at 16 false 27 (!R9) rfl rfl rfl (beq_tf H12)) rfl rfl ?_
          refine TO.off (Gd.at 16 false 27 (!R9) rfl rfl rfl (beq_tf H12)) rfl rfl ?_
          refine TO.off (Gd.at 16 false 27 (!R9) rfl rfl rfl (beq_tf H12)) rfl rfl ?_
          refine TO.off (Gd.at 16 false 27 (!R9) rfl rfl rfl (beq_tf H12)) rfl rfl ?_
          refine TO.y (Y.pick_t H12 rfl rfl) rfl rfl rfl ?_
          refine TO.nil ?_
          exact TE.jb_go () [0] ⟨rfl, rfl, trivial⟩ rfl
        · refine TO.y (Y.field_box kf39_3 rfl rfl) (Gd.at 16 false 27 (!R9) rfl rfl rfl (beq_ff H12)) rfl rfl ?_
          refine TO.y (Y.load_box (v := V_e3) 0 kk34 rfl rfl rfl) (Gd.at 16 false 27 (!R9) rfl rfl rfl (beq_ff H12)) rfl rfl ?_
          refine TO.y (Y.len (l := e.Snaps) ke34 (Base.can HB_V_e3) rfl) (Gd.at 16 false 27 (!R9) rfl rfl rfl (beq_ff H12)) rfl rfl ?_
          refine TO.y (Y.gtr rfl rfl) (Gd.at 16 false 27 (!R9) rfl rfl rfl (beq_ff H12)) rfl rfl ?_
          refine TO.y (Y.pick_f H12 rfl rfl) rfl rfl rfl ?_
          refine TO.nil ?_
          exact TE.jb_go () [0] ⟨rfl, rfl, trivial⟩ rfl
  · refine TE.next ?_
    refine TW.cond rfl (fun H13 => ?_) (fun H13 => ?_)
    · refine TW.seq ?_
      refine TW.region ?_
      refine TO.y (Y.assign rfl) rfl rfl rfl ?_
      refine TO.nil ?_
      refine TE.next ?_
      refine TW.ret ?_
      refine TE.then_ret ?_
      exact TE.leaf fun _ _ hf_ hs_ => ret_any (rs := [.tmp 2]) (vs := [.bool false]) (.inl rfl) rfl ⟨rfl, trivial⟩ hf_ hs_ ⟨(), rfl, hs_.pulls [] rfl⟩
    · refine TW.skip ?_
      refine TE.next ?_
      refine TW.seq ?_
      refine TW.region ?_
      refine TO.y (Y.field_box kf39_0 rfl rfl) rfl rfl rfl ?_
      refine TO.y (Y.load_box (v := V_e0) 0 kk24 rfl rfl rfl) rfl rfl rfl ?_
      refine TO.bind fun R14 H15 => ?_
      refine TO.ef (Ef.call (rest := [.box B1 39 [V_e0, V_e1, .int .i64 e.Seq, V_e3]]) [0] (spec_l20Bounds_con e.Mem V_e0 R14 H15) kc87 rfl rfl ⟨(Base.can HB_V_e0), trivial⟩) rfl rfl rfl (fun _ => ?_)
      refine TO.y (Y.move rfl) rfl rfl rfl ?_
      refine TO.y (Y.extract rfl rfl) rfl rfl rfl ?_
      refine TO.y (Y.extract rfl rfl) rfl rfl rfl ?_
      refine TO.y (Y.assign rfl) rfl rfl rfl ?_
      refine TO.y (Y.assign rfl) rfl rfl rfl ?_
      refine TO.nil ?_
      refine TE.next ?_
      refine TW.seq ?_
      refine TW.seq ?_
      refine TW.region ?_
      refine TO.y (Y.move rfl) rfl rfl rfl ?_
      refine TO.y (Y.field_box kf39_2 rfl rfl) rfl rfl rfl ?_
      refine TO.y (Y.load_box (v := .int .i64 e.Seq) 0 kk3 rfl rfl rfl) rfl rfl rfl ?_
      refine TO.y (Y.gtr rfl rfl) rfl rfl rfl ?_
      refine TO.nil ?_
      refine TE.next ?_
      refine TW.cond rfl (fun H17 => ?_) (fun H17 => ?_)
      · refine TW.seq ?_
        refine TW.region ?_
        refine TO.y (Y.assign rfl) rfl rfl rfl ?_
        refine TO.nil ?_
        refine TE.next ?_
        refine TW.ret ?_
        refine TE.then_ret ?_
        exact TE.leaf fun _ _ hf_ hs_ => ret_any (rs := [.tmp 2]) (vs := [.bool false]) (.inl rfl) rfl ⟨rfl, trivial⟩ hf_ hs_ ⟨(), rfl, hs_.pulls [] rfl⟩
      · refine TW.skip ?_
        refine TE.next ?_
        refine TW.seq ?_
        refine TW.region ?_
        refine TO.y (Y.field_box kf39_0 rfl rfl) rfl rfl rfl ?_
        refine TO.y (Y.load_box (v := V_e0) 0 kk24 rfl rfl rfl) rfl rfl rfl ?_
        refine TO.y (Y.len (l := e.Mem) ke24 (Base.can HB_V_e0) rfl) rfl rfl rfl ?_
        refine TO.y (Y.assign rfl) rfl rfl rfl ?_
        refine TO.nil ?_
        refine TE.next ?_
        refine TW.seq ?_
        refine TW.seq ?_
        refine TW.region ?_
        refine TO.y (Y.assign rfl) rfl rfl rfl ?_
        refine TO.nil ?_
        refine TE.next ?_
        refine TW.joinX (τ := Int) (X := Unit) (fun T _ => [(1, .pointer (some ⟨B1, 0, none⟩)), (5, .int .i64 T)]) (fun _ _ => [.box B1 39 [V_e0, V_e1, .int .i64 e.Seq, V_e3]]) ?_ (fun T20 X21 => ?_)
        · refine TW.block ?_
          refine TW.loopX (σ := Int × Int × Int) (X := Unit) (fun T _ => [(1, .pointer (some ⟨B1, 0, none⟩)), (3, .int .i64 T.1), (5, .int .i64 T.2.1), (6, .int .i64 T.2.2)]) (fun _ _ => [.box B1 39 [V_e0, V_e1, .int .i64 e.Seq, V_e3]]) () [0] ⟨rfl, rfl, rfl, rfl, trivial⟩ rfl (fun S18 X19 => ?_)
          refine TW.seq ?_
          refine TW.seq ?_
          refine TW.region ?_
          refine TO.y (Y.move rfl) rfl rfl rfl ?_
          refine TO.y (Y.field_box kf39_1 rfl rfl) rfl rfl rfl ?_
          refine TO.y (Y.load_box (v := V_e1) 0 kk26 rfl rfl rfl) rfl rfl rfl ?_
          refine TO.y (Y.len (l := e.Tables) ke26 (Base.can HB_V_e1) rfl) rfl rfl rfl ?_
          refine TO.y (Y.lss rfl rfl) rfl rfl rfl ?_
          refine TO.nil ?_
          refine TE.next ?_
          refine TW.cond rfl (fun H22 => ?_) (fun H22 => ?_)
          · refine TW.skip ?_
            refine TE.next ?_
            refine TW.seq ?_
            refine TW.block ?_
            refine TW.seq ?_
            refine TW.region ?_
            refine TO.y (Y.field_box kf39_1 rfl rfl) rfl rfl rfl ?_
            refine TO.y (Y.load_box (v := V_e1) 0 kk26 rfl rfl rfl) rfl rfl rfl ?_
            refine TO.y (Y.move rfl) rfl rfl rfl ?_
            refine TO.bind fun E23 H24 => ?_
            refine TO.y (Y.index ke26 (Base.can HB_V_e1) H24 rfl rfl) rfl rfl rfl ?_
            have Q25 : Base w S (elv w V_e1 (S18.2.2.toNat * 1 + 0)) (lc E23) := Base.el HB_V_e1 (idx_get H24).2.2 rfl rfl
            refine TO.y (Y.load_base (α := List Ent) (u := (elv w V_e1 (S18.2.2.toNat * 1 + 0))) kk24 rfl HB_V_e1 (idx_get H24).2.2 rfl rfl rfl rfl rfl) rfl rfl rfl ?_
            refine TO.y (Y.assign rfl) rfl rfl rfl ?_
            refine TO.nil ?_
            refine TE.next ?_
            refine TW.seq ?_
            refine TW.region ?_
            refine TO.y (Y.move rfl) rfl rfl rfl ?_
            refine TO.bind fun R26 H27 => ?_
            refine TO.ef (Ef.call (rest := [.box B1 39 [V_e0, V_e1, .int .i64 e.Seq, V_e3]]) [0] (spec_l20Bounds_con E23 (elv w V_e1 (S18.2.2.toNat * 1 + 0)) R26 H27) kc87 rfl rfl ⟨(Base.can Q25), trivial⟩) rfl rfl rfl (fun _ => ?_)
            refine TO.y (Y.move rfl) rfl rfl rfl ?_
            refine TO.y (Y.extract rfl rfl) rfl rfl rfl ?_
            refine TO.y (Y.extract rfl rfl) rfl rfl rfl ?_
            refine TO.y (Y.assign rfl) rfl rfl rfl ?_
            refine TO.y (Y.assign rfl) rfl rfl rfl ?_
            refine TO.nil ?_
            refine TE.next ?_
            refine TW.seq ?_
            refine TW.seq ?_
            refine TW.joinBX (τ := Bool) (X := Unit) (fun T _ => [(1, .pointer (some ⟨B1, 0, none⟩)), (5, .int .i64 S18.2.1), (6, .int .i64 S18.2.2), (7, (elv w V_e1 (S18.2.2.toNat * 1 + 0))), (8, .int .i64 R26.1), (81, .bool T)]) (fun _ _ => [.box B1 39 [V_e0, V_e1, .int .i64 e.Seq, V_e3]]) ?_ (fun T29 X30 => ?_)
            · refine TW.region ?_
              refine TO.y (Y.move rfl) rfl rfl rfl ?_
              refine TO.y (Y.len (l := E23) ke24 (Base.can Q25) rfl) rfl rfl rfl ?_
              refine TO.y (Y.eql rfl rfl) rfl rfl rfl ?_
              refine TO.y (Y.move rfl) rfl rfl rfl ?_
              refine TO.ite (b := decide (((E23.length : Nat) : Int) = (0 : Int))) (fun H31 => ?_) (fun H31 => ?_)
              · refine TO.off (Gd.at 3 false 66 (decide (((E23.length : Nat) : Int) = (0 : Int))) rfl rfl rfl (beq_tf H31)) rfl rfl ?_
                refine TO.off (Gd.at 3 false 66 (decide (((E23.length : Nat) : Int) = (0 : Int))) rfl rfl rfl (beq_tf H31)) rfl rfl ?_
                refine TO.off (Gd.at 3 false 66 (decide (((E23.length : Nat) : Int) = (0 : Int))) rfl rfl rfl (beq_tf H31)) rfl rfl ?_
                refine TO.y (Y.pick_t H31 rfl rfl) rfl rfl rfl ?_
                refine TO.y (Y.move rfl) rfl rfl rfl ?_
                refine TO.off (Gd.at 8 false 71 true rfl rfl rfl rfl) rfl rfl ?_
                refine TO.off (Gd.at 8 false 71 true rfl rfl rfl rfl) rfl rfl ?_
                refine TO.off (Gd.at 8 false 71 true rfl rfl rfl rfl) rfl rfl ?_
                refine TO.y (Y.pick_t rfl rfl rfl) rfl rfl rfl ?_
                refine TO.y (Y.move rfl) rfl rfl rfl ?_
                refine TO.off (Gd.at 13 false 76 true rfl rfl rfl rfl) rfl rfl ?_
                refine TO.off (Gd.at 13 false 76 true rfl rfl rfl rfl) rfl rfl ?_
                refine TO.off (Gd.at 13 false 76 true rfl rfl rfl rfl) rfl rfl ?_
                refine TO.off (Gd.at 13 false 76 true rfl rfl rfl rfl) rfl rfl ?_
                refine TO.y (Y.pick_t rfl rfl rfl) rfl rfl rfl ?_
                refine TO.nil ?_
                exact TE.jb_go () [0] ⟨rfl, rfl, rfl, rfl, rfl, rfl, trivial⟩ rfl
              · refine TO.y (Y.move rfl) (Gd.at 3 false 66 (decide (((E23.length : Nat) : Int) = (0 : Int))) rfl rfl rfl (beq_ff H31)) rfl rfl ?_
                refine TO.bind fun R32 H33 => ?_
                refine TO.ef (Ef.call (rest := [.box B1 39 [V_e0, V_e1, .int .i64 e.Seq, V_e3]]) [0] (spec_l9Ents_con E23 (elv w V_e1 (S18.2.2.toNat * 1 + 0)) R32 H33) kc37 rfl rfl ⟨(Base.can Q25), trivial⟩) (Gd.at 3 false 66 (decide (((E23.length : Nat) : Int) = (0 : Int))) rfl rfl rfl (beq_ff H31)) rfl rfl (fun _ => ?_)
                refine TO.y (Y.not rfl) (Gd.at 3 false 66 (decide (((E23.length : Nat) : Int) = (0 : Int))) rfl rfl rfl (beq_ff H31)) rfl rfl ?_
                refine TO.y (Y.pick_f H31 rfl rfl) rfl rfl rfl ?_
                refine TO.y (Y.move rfl) rfl rfl rfl ?_
                refine TO.ite (b := !R32) (fun H35 => ?_) (fun H35 => ?_)
                · refine TO.off (Gd.at 8 false 71 (!R32) rfl rfl rfl (beq_tf H35)) rfl rfl ?_
                  refine TO.off (Gd.at 8 false 71 (!R32) rfl rfl rfl (beq_tf H35)) rfl rfl ?_
                  refine TO.off (Gd.at 8 false 71 (!R32) rfl rfl rfl (beq_tf H35)) rfl rfl ?_
                  refine TO.y (Y.pick_t H35 rfl rfl) rfl rfl rfl ?_
                  refine TO.y (Y.move rfl) rfl rfl rfl ?_
                  refine TO.off (Gd.at 13 false 76 true rfl rfl rfl rfl) rfl rfl ?_
                  refine TO.off (Gd.at 13 false 76 true rfl rfl rfl rfl) rfl rfl ?_
                  refine TO.off (Gd.at 13 false 76 true rfl rfl rfl rfl) rfl rfl ?_
                  refine TO.off (Gd.at 13 false 76 true rfl rfl rfl rfl) rfl rfl ?_
                  refine TO.y (Y.pick_t rfl rfl rfl) rfl rfl rfl ?_
                  refine TO.nil ?_
                  exact TE.jb_go () [0] ⟨rfl, rfl, rfl, rfl, rfl, rfl, trivial⟩ rfl
                · refine TO.y (Y.move rfl) (Gd.at 8 false 71 (!R32) rfl rfl rfl (beq_ff H35)) rfl rfl ?_
                  refine TO.y (Y.move rfl) (Gd.at 8 false 71 (!R32) rfl rfl rfl (beq_ff H35)) rfl rfl ?_
                  refine TO.y (Y.geq rfl rfl) (Gd.at 8 false 71 (!R32) rfl rfl rfl (beq_ff H35)) rfl rfl ?_
                  refine TO.y (Y.pick_f H35 rfl rfl) rfl rfl rfl ?_
                  refine TO.y (Y.move rfl) rfl rfl rfl ?_
                  refine TO.ite (b := decide (R26.2 ≥ S18.1)) (fun H36 => ?_) (fun H36 => ?_)
                  · refine TO.off (Gd.at 13 false 76 (decide (R26.2 ≥ S18.1)) rfl rfl rfl (beq_tf H36)) rfl rfl ?_
                    refine TO.off (Gd.at 13 false 76 (decide (R26.2 ≥ S18.1)) rfl rfl rfl (beq_tf H36)) rfl rfl ?_
                    refine TO.off (Gd.at 13 false 76 (decide (R26.2 ≥ S18.1)) rfl rfl rfl (beq_tf H36)) rfl rfl ?_
                    refine TO.off (Gd.at 13 false 76 (decide (R26.2 ≥ S18.1)) rfl rfl rfl (beq_tf H36)) rfl rfl ?_
                    refine TO.y (Y.pick_t H36 rfl rfl) rfl rfl rfl ?_
                    refine TO.nil ?_
                    exact TE.jb_go () [0] ⟨rfl, rfl, rfl, rfl, rfl, rfl, trivial⟩ rfl
                  · refine TO.y (Y.move rfl) (Gd.at 13 false 76 (decide (R26.2 ≥ S18.1)) rfl rfl rfl (beq_ff H36)) rfl rfl ?_
                    refine TO.y (Y.field_box kf39_2 rfl rfl) (Gd.at 13 false 76 (decide (R26.2 ≥ S18.1)) rfl rfl rfl (beq_ff H36)) rfl rfl ?_
                    refine TO.y (Y.load_box (v := .int .i64 e.Seq) 0 kk3 rfl rfl rfl) (Gd.at 13 false 76 (decide (R26.2 ≥ S18.1)) rfl rfl rfl (beq_ff H36)) rfl rfl ?_
                    refine TO.y (Y.gtr rfl rfl) (Gd.at 13 false 76 (decide (R26.2 ≥ S18.1)) rfl rfl rfl (beq_ff H36)) rfl rfl ?_
                    refine TO.y (Y.pick_f H36 rfl rfl) rfl rfl rfl ?_
                    refine TO.nil ?_
                    exact TE.jb_go () [0] ⟨rfl, rfl, rfl, rfl, rfl, rfl, trivial⟩ rfl
            · refine TE.next ?_
              refine TW.cond rfl (fun H37 => ?_) (fun H37 => ?_)
              · refine TW.seq ?_
                refine TW.region ?_
                refine TO.y (Y.assign rfl) rfl rfl rfl ?_
                refine TO.nil ?_
                refine TE.next ?_
                refine TW.ret ?_
                refine TE.then_ret ?_
                refine TE.block_ret ?_
                refine TE.then_ret ?_
                refine TE.lp_ret ?_
                refine TE.block_ret ?_
                refine TE.jn_done ?_
                refine TE.then_ret ?_
                exact TE.leaf fun _ _ hf_ hs_ => ret_any (rs := [.tmp 2]) (vs := [.bool false]) (.inl rfl) rfl ⟨rfl, trivial⟩ hf_ hs_ ⟨(), rfl, hs_.pulls [] rfl⟩
              · refine TW.skip ?_
                refine TE.next ?_
                refine TW.seq ?_
                refine TW.region ?_
                refine TO.y (Y.move rfl) rfl rfl rfl ?_
                refine TO.y (Y.assign rfl) rfl rfl rfl ?_
                refine TO.nil ?_
                refine TE.next ?_
                refine TW.region ?_
                refine TO.y (Y.move rfl) rfl rfl rfl ?_
                refine TO.y (Y.move rfl) rfl rfl rfl ?_
                refine TO.y (Y.len (l := E23) ke24 (Base.can Q25) rfl) rfl rfl rfl ?_
                refine TO.y (Y.add rfl rfl) rfl rfl rfl ?_
                refine TO.y (Y.assign rfl) rfl rfl rfl ?_
                refine TO.nil ?_
                refine TE.block_normal ?_
                refine TE.next ?_
                refine TW.region ?_
                refine TO.y (Y.move rfl) rfl rfl rfl ?_
                refine TO.y (Y.add rfl rfl) rfl rfl rfl ?_
                refine TO.y (Y.assign rfl) rfl rfl rfl ?_
                refine TO.nil ?_
                exact TE.lp_go () [0] ⟨rfl, rfl, rfl, rfl, trivial⟩ rfl
          · refine TW.exit ?_
            refine TE.then_exit ?_
            refine TE.lp_exit ?_
            refine TE.block_exit ?_
            exact TE.jn_go () [0] ⟨rfl, rfl, trivial⟩ rfl
        · refine TE.next ?_
          refine TW.seq ?_
          refine TW.seq ?_
          refine TW.region ?_
          refine TO.y (Y.assign rfl) rfl rfl rfl ?_
          refine TO.nil ?_
          refine TE.next ?_
          refine TW.joinX (τ := Unit) (X := Unit) (fun _ _ => [(5, .int .i64 T20)]) (fun _ _ => []) ?_ (fun T40 X41 => ?_)
          · refine TW.block ?_
            refine TW.loopX (σ := Int) (X := Unit) (fun T _ => [(1, .pointer (some ⟨B1, 0, none⟩)), (5, .int .i64 T20), (10, .int .i64 T)]) (fun _ _ => [.box B1 39 [V_e0, V_e1, .int .i64 e.Seq, V_e3]]) () [0] ⟨rfl, rfl, rfl, trivial⟩ rfl (fun S38 X39 => ?_)
            refine TW.seq ?_
            refine TW.seq ?_
            refine TW.region ?_
            refine TO.y (Y.move rfl) rfl rfl rfl ?_
            refine TO.y (Y.field_box kf39_3 rfl rfl) rfl rfl rfl ?_
            refine TO.y (Y.load_box (v := V_e3) 0 kk34 rfl rfl rfl) rfl rfl rfl ?_
            refine TO.y (Y.len (l := e.Snaps) ke34 (Base.can HB_V_e3) rfl) rfl rfl rfl ?_
            refine TO.y (Y.lss rfl rfl) rfl rfl rfl ?_
            refine TO.nil ?_
            refine TE.next ?_
            refine TW.cond rfl (fun H42 => ?_) (fun H42 => ?_)
            · refine TW.skip ?_
              refine TE.next ?_
              refine TW.seq ?_
              refine TW.block ?_
              refine TW.seq ?_
              refine TW.joinBX (τ := Bool) (X := Unit) (fun T _ => [(1, .pointer (some ⟨B1, 0, none⟩)), (5, .int .i64 T20), (10, .int .i64 S38), (120, .bool T)]) (fun _ _ => [.box B1 39 [V_e0, V_e1, .int .i64 e.Seq, V_e3]]) ?_ (fun T43 X44 => ?_)
              · refine TW.draw (isH := [.box B1 39 [V_e0, V_e1, .int .i64 e.Seq, V_e3]]) hMix ?_
                refine TA.y (listed' := #[true, false, false, false, false, false, false, false, false, false, false, false, false, false, false, false, false, false, false, false, false, false, false, false, false, false, false]) 0 [0] rfl (Y.field_box kf39_3 rfl rfl) rfl rfl rfl (by kernel_rfl) (by kernel_rfl) (by kernel_rfl) rfl rfl ?_
                refine TA.y (listed' := #[true, true, false, false, false, false, false, false, false, false, false, false, false, false, false, false, false, false, false, false, false, false, false, false, false, false, false]) 1 [0] rfl (Y.load_box (v := V_e3) 0 kk34 rfl rfl rfl) rfl rfl rfl (by kernel_rfl) (by kernel_rfl) (by kernel_rfl) rfl rfl ?_
                refine TA.y (listed' := #[true, true, true, false, false, false, false, false, false, false, false, false, false, false, false, false, false, false, false, false, false, false, false, false, false, false, false]) 2 [0] rfl (Y.move rfl) rfl rfl rfl (by kernel_rfl) (by kernel_rfl) (by kernel_rfl) rfl rfl ?_
                refine TA.bind fun E45 H46 => ?_
                refine TA.y (listed' := #[true, true, true, true, false, false, false, false, false, false, false, false, false, false, false, false, false, false, false, false, false, false, false, false, false, false, false]) 3 [0] rfl (Y.index ke34 (Base.can HB_V_e3) H46 rfl rfl) rfl rfl rfl (by kernel_rfl) (by kernel_rfl) (by kernel_rfl) rfl rfl ?_
                refine TA.y (listed' := #[true, true, true, true, true, false, false, false, false, false, false, false, false, false, false, false, false, false, false, false, false, false, false, false, false, false, false]) 4 [0] rfl (Y.load_el (us := [.int .i64 E45]) (u := .int .i64 E45) kk3 rfl (Base.can HB_V_e3) (idx_get H46).2.2 rfl rfl rfl rfl rfl) rfl rfl rfl (by kernel_rfl) (by kernel_rfl) (by kernel_rfl) rfl rfl ?_
                refine TA.y (listed' := #[true, true, true, true, true, true, false, false, false, false, false, false, false, false, false, false, false, false, false, false, false, false, false, false, false, false, false]) 5 [0] rfl (Y.field_box kf39_2 rfl rfl) rfl rfl rfl (by kernel_rfl) (by kernel_rfl) (by kernel_rfl) rfl rfl ?_
                refine TA.y (listed' := #[true, true, true, true, true, true, true, false, false, false, false, false, false, false, false, false, false, false, false, false, false, false, false, false, false, false, false]) 6 [0] rfl (Y.load_box (v := .int .i64 e.Seq) 0 kk3 rfl rfl rfl) rfl rfl rfl (by kernel_rfl) (by kernel_rfl) (by kernel_rfl) rfl rfl ?_
                refine TA.bind fun R47 H48 => ?_
                refine TA.one 7 (by kernel_rfl) ?_
                refine TX.ef (listed' := #[true, true, true, true, true, true, true, true, false, false, false, false, false, false, false, false, false, false, false, false, false, false, false, false, false, false, false]) [0] rfl (Ef.call (rest := [.box B1 39 [V_e0, V_e1, .int .i64 e.Seq, V_e3]]) [0] (spec_l1In_con E45 (0 : Int) e.Seq  R47 H48) kc56 rfl rfl trivial) rfl rfl rfl rfl (fun _ => rfl) (fun _ => ?_)
                refine TA.y (listed' := #[true, true, true, true, true, true, true, true, true, false, false, false, false, false, false, false, false, false, false, false, false, false, false, false, false, false, false]) 8 [0] rfl (Y.not rfl) rfl rfl rfl (by kernel_rfl) (by kernel_rfl) (by kernel_rfl) rfl rfl ?_
                refine TA.y (listed' := #[true, true, true, true, true, true, true, true, true, true, false, false, false, false, false, false, false, false, false, false, false, false, false, false, false, false, false]) 9 [0] rfl (Y.move rfl) rfl rfl rfl (by kernel_rfl) (by kernel_rfl) (by kernel_rfl) rfl rfl ?_
                refine TA.ite (b := !R47) (fun H50 => ?_) (fun H50 => ?_)
                · refine TA.off (listed' := #[true, true, true, true, true, true, true, true, true, true, true, false, false, false, false, false, false, false, false, false, false, false, false, false, false, false, false]) 10 [0] rfl (Gd.at 9 false 103 (!R47) rfl rfl rfl (beq_tf H50)) rfl rfl (by kernel_rfl) (by kernel_rfl) (by kernel_rfl) rfl rfl ?_
                  refine TA.off (listed' := #[true, true, true, true, true, true, true, true, true, true, true, true, false, false, false, false, false, false, false, false, false, false, false, false, false, false, false]) 11 [0] rfl (Gd.at 9 false 103 (!R47) rfl rfl rfl (beq_tf H50)) rfl rfl (by kernel_rfl) (by kernel_rfl) (by kernel_rfl) rfl rfl ?_
                  refine TA.off (listed' := #[true, true, true, true, true, true, true, true, true, true, true, true, true, false, false, false, false, false, false, false, false, false, false, false, false, false, false]) 12 [0] rfl (Gd.at 9 false 103 (!R47) rfl rfl rfl (beq_tf H50)) rfl rfl (by kernel_rfl) (by kernel_rfl) (by kernel_rfl) rfl rfl ?_
                  refine TA.off (listed' := #[true, true, true, true, true, true, true, true, true, true, true, true, true, true, false, false, false, false, false, false, false, false, false, false, false, false, false]) 13 [0] rfl (Gd.un 12 true 106 rfl rfl rfl) rfl rfl (by kernel_rfl) (by kernel_rfl) (by kernel_rfl) rfl rfl ?_
                  refine TA.off (listed' := #[true, true, true, true, true, true, true, true, true, true, true, true, true, true, true, false, false, false, false, false, false, false, false, false, false, false, false]) 14 [0] rfl (Gd.un 12 true 106 rfl rfl rfl) rfl rfl (by kernel_rfl) (by kernel_rfl) (by kernel_rfl) rfl rfl ?_
                  refine TA.off (listed' := #[true, true, true, true, true, true, true, true, true, true, true, true, true, true, true, true, false, false, false, false, false, false, false, false, false, false, false]) 15 [0] rfl (Gd.un 12 true 106 rfl rfl rfl) rfl rfl (by kernel_rfl) (by kernel_rfl) (by kernel_rfl) rfl rfl ?_
                  refine TA.off (listed' := #[true, true, true, true, true, true, true, true, true, true, true, true, true, true, true, true, true, false, false, false, false, false, false, false, false, false, false]) 16 [0] rfl (Gd.un 12 true 106 rfl rfl rfl) rfl rfl (by kernel_rfl) (by kernel_rfl) (by kernel_rfl) rfl rfl ?_
                  refine TA.off (listed' := #[true, true, true, true, true, true, true, true, true, true, true, true, true, true, true, true, true, true, false, false, false, false, false, false, false, false, false]) 17 [0] rfl (Gd.un 12 true 106 rfl rfl rfl) rfl rfl (by kernel_rfl) (by kernel_rfl) (by kernel_rfl) rfl rfl ?_
                  refine TA.off (listed' := #[true, true, true, true, true, true, true, true, true, true, true, true, true, true, true, true, true, true, true, false, false, false, false, false, false, false, false]) 18 [0] rfl (Gd.un 12 true 106 rfl rfl rfl) rfl rfl (by kernel_rfl) (by kernel_rfl) (by kernel_rfl) rfl rfl ?_
                  refine TA.off (listed' := #[true, true, true, true, true, true, true, true, true, true, true, true, true, true, true, true, true, true, true, true, false, false, false, false, false, false, false]) 19 [0] rfl (Gd.un 12 true 106 rfl rfl rfl) rfl rfl (by kernel_rfl) (by kernel_rfl) (by kernel_rfl) rfl rfl ?_
                  refine TA.off (listed' := #[true, true, true, true, true, true, true, true, true, true, true, true, true, true, true, true, true, true, true, true, true, false, false, false, false, false, false]) 20 [0] rfl (Gd.un 12 true 106 rfl rfl rfl) rfl rfl (by kernel_rfl) (by kernel_rfl) (by kernel_rfl) rfl rfl ?_
                  refine TA.off (listed' := #[true, true, true, true, true, true, true, true, true, true, true, true, true, true, true, true, true, true, true, true, true, true, false, false, false, false, false]) 21 [0] rfl (Gd.un 12 true 106 rfl rfl rfl) rfl rfl (by kernel_rfl) (by kernel_rfl) (by kernel_rfl) rfl rfl ?_
                  refine TA.off (listed' := #[true, true, true, true, true, true, true, true, true, true, true, true, true, true, true, true, true, true, true, true, true, true, true, false, false, false, false]) 22 [0] rfl (Gd.un 12 true 106 rfl rfl rfl) rfl rfl (by kernel_rfl) (by kernel_rfl) (by kernel_rfl) rfl rfl ?_
                  refine TA.off (listed' := #[true, true, true, true, true, true, true, true, true, true, true, true, true, true, true, true, true, true, true, true, true, true, true, true, false, false, false]) 23 [0] rfl (Gd.un 12 true 106 rfl rfl rfl) rfl rfl (by kernel_rfl) (by kernel_rfl) (by kernel_rfl) rfl rfl ?_
                  refine TA.off (listed' := #[true, true, true, true, true, true, true, true, true, true, true, true, true, true, true, true, true, true, true, true, true, true, true, true, true, false, false]) 24 [0] rfl (Gd.un 12 true 106 rfl rfl rfl) rfl rfl (by kernel_rfl) (by kernel_rfl) (by kernel_rfl) rfl rfl ?_
                  refine TA.off (listed' := #[true, true, true, true, true, true, true, true, true, true, true, true, true, true, true, true, true, true, true, true, true, true, true, true, true, true, false]) 25 [0] rfl (Gd.at 9 false 103 (!R47) rfl rfl rfl (beq_tf H50)) rfl rfl (by kernel_rfl) (by kernel_rfl) (by kernel_rfl) rfl rfl ?_
                  refine TA.y (listed' := #[true, true, true, true, true, true, true, true, true, true, true, true, true, true, true, true, true, true, true, true, true, true, true, true, true, true, true]) 26 [0] rfl (Y.pick_t H50 rfl rfl) rfl rfl rfl (by kernel_rfl) (by kernel_rfl) (by kernel_rfl) rfl rfl ?_
                  refine TA.nil (by kernel_rfl) ?_
                  exact TE.jb_go () [0] ⟨rfl, rfl, rfl, rfl, trivial⟩ rfl
                · refine TA.y (listed' := #[true, true, true, true, true, true, true, true, true, true, true, false, false, false, false, false, false, false, false, false, false, false, false, false, false, false, false]) 10 [0] rfl (Y.move rfl) (Gd.at 9 false 103 (!R47) rfl rfl rfl (beq_ff H50)) rfl rfl (by kernel_rfl) (by kernel_rfl) (by kernel_rfl) rfl rfl ?_
                  refine TA.y (listed' := #[true, true, true, true, true, true, true, true, true, true, true, true, false, false, false, false, false, false, false, false, false, false, false, false, false, false, false]) 11 [0] rfl (Y.gtr rfl rfl) (Gd.at 9 false 103 (!R47) rfl rfl rfl (beq_ff H50)) rfl rfl (by kernel_rfl) (by kernel_rfl) (by kernel_rfl) rfl rfl ?_
                  refine TA.y (listed' := #[true, true, true, true, true, true, true, true, true, true, true, true, true, false, false, false, false, false, false, false, false, false, false, false, false, false, false]) 12 [0] rfl (Y.move rfl) (Gd.at 9 false 103 (!R47) rfl rfl rfl (beq_ff H50)) rfl rfl (by kernel_rfl) (by kernel_rfl) (by kernel_rfl) rfl rfl ?_
                  refine TA.ite (b := decide (S38 > (0 : Int))) (fun H51 => ?_) (fun H51 => ?_)
                  · refine TA.y (listed' := #[true, true, true, true, true, true, true, true, true, true, true, true, true, true, false, false, false, false, false, false, false, false, false, false, false, false, false]) 13 [0] rfl (Y.field_box kf39_3 rfl rfl) (Gd.at 12 true 106 (decide (S38 > (0 : Int))) rfl rfl rfl (beq_tt H51)) rfl rfl (by kernel_rfl) (by kernel_rfl) (by kernel_rfl) rfl rfl ?_
                    refine TA.y (listed' := #[true, true, true, true, true, true, true, true, true, true, true, true, true, true, true, false, false, false, false, false, false, false, false, false, false, false, false]) 14 [0] rfl (Y.load_box (v := V_e3) 0 kk34 rfl rfl rfl) (Gd.at 12 true 106 (decide (S38 > (0 : Int))) rfl rfl rfl (beq_tt H51)) rfl rfl (by kernel_rfl) (by kernel_rfl) (by kernel_rfl) rfl rfl ?_
                    refine TA.y (listed' := #[true, true, true, true, true, true, true, true, true, true, true, true, true, true, true, true, false, false, false, false, false, false, false, false, false, false, false]) 15 [0] rfl (Y.move rfl) (Gd.at 12 true 106 (decide (S38 > (0 : Int))) rfl rfl rfl (beq_tt H51)) rfl rfl (by kernel_rfl) (by kernel_rfl) (by kernel_rfl) rfl rfl ?_
                    refine TA.y (listed' := #[true, true, true, true, true, true, true, true, true, true, true, true, true, true, true, true, true, false, false, false, false, false, false, false, false, false, false]) 16 [0] rfl (Y.sub rfl rfl) (Gd.at 12 true 106 (decide (S38 > (0 : Int))) rfl rfl rfl (beq_tt H51)) rfl rfl (by kernel_rfl) (by kernel_rfl) (by kernel_rfl) rfl rfl ?_
                    refine TA.bind fun E52 H53 => ?_
                    refine TA.y (listed' := #[true, true, true, true, true, true, true, true, true, true, true, true, true, true, true, true, true, true, false, false, false, false, false, false, false, false, false]) 17 [0] rfl (Y.index ke34 (Base.can HB_V_e3) H53 rfl rfl) (Gd.at 12 true 106 (decide (S38 > (0 : Int))) rfl rfl rfl (beq_tt H51)) rfl rfl (by kernel_rfl) (by kernel_rfl) (by kernel_rfl) rfl rfl ?_
                    refine TA.y (listed' := #[true, true, true, true, true, true, true, true, true, true, true, true, true, true, true, true, true, true, true, false, false, false, false, false, false, false, false]) 18 [0] rfl (Y.load_el (us := [.int .i64 E52]) (u := .int .i64 E52) kk3 rfl (Base.can HB_V_e3) (idx_get H53).2.2 rfl rfl rfl rfl rfl) (Gd.at 12 true 106 (decide (S38 > (0 : Int))) rfl rfl rfl (beq_tt H51)) rfl rfl (by kernel_rfl) (by kernel_rfl) (by kernel_rfl) rfl rfl ?_
                    refine TA.y (listed' := #[true, true, true, true, true, true, true, true, true, true, true, true, true, true, true, true, true, true, true, true, false, false, false, false, false, false, false]) 19 [0] rfl (Y.field_box kf39_3 rfl rfl) (Gd.at 12 true 106 (decide (S38 > (0 : Int))) rfl rfl rfl (beq_tt H51)) rfl rfl (by kernel_rfl) (by kernel_rfl) (by kernel_rfl) rfl rfl ?_
                    refine TA.y (listed' := #[true, true, true, true, true, true, true, true, true, true, true, true, true, true, true, true, true, true, true, true, true, false, false, false, false, false, false]) 20 [0] rfl (Y.load_box (v := V_e3) 0 kk34 rfl rfl rfl) (Gd.at 12 true 106 (decide (S38 > (0 : Int))) rfl rfl rfl (beq_tt H51)) rfl rfl (by kernel_rfl) (by kernel_rfl) (by kernel_rfl) rfl rfl ?_
                    refine TA.y (listed' := #[true, true, true, true, true, true, true, true, true, true, true, true, true, true, true, true, true, true, true, true, true, true, false, false, false, false, false]) 21 [0] rfl (Y.move rfl) (Gd.at 12 true 106 (decide (S38 > (0 : Int))) rfl rfl rfl (beq_tt H51)) rfl rfl (by kernel_rfl) (by kernel_rfl) (by kernel_rfl) rfl rfl ?_
                    refine TA.y (listed' := #[true, true, true, true, true, true, true, true, true, true, true, true, true, true, true, true, true, true, true, true, true, true, true, false, false, false, false]) 22 [0] rfl (Y.index ke34 (Base.can HB_V_e3) H46 rfl rfl) (Gd.at 12 true 106 (decide (S38 > (0 : Int))) rfl rfl rfl (beq_tt H51)) rfl rfl (by kernel_rfl) (by kernel_rfl) (by kernel_rfl) rfl rfl ?_
                    refine TA.y (listed' := #[true, true, true, true, true, true, true, true, true, true, true, true, true, true, true, true, true, true, true, true, true, true, true, true, false, false, false]) 23 [0] rfl (Y.load_el (us := [.int .i64 E45]) (u := .int .i64 E45) kk3 rfl (Base.can HB_V_e3) (idx_get H46).2.2 rfl rfl rfl rfl rfl) (Gd.at 12 true 106 (decide (S38 > (0 : Int))) rfl rfl rfl (beq_tt H51)) rfl rfl (by kernel_rfl) (by kernel_rfl) (by kernel_rfl) rfl rfl ?_
                    refine TA.y (listed' := #[true, true, true, true, true, true, true, true, true, true, true, true, true, true, true, true, true, true, true, true, true, true, true, true, true, false, false]) 24 [0] rfl (Y.geq rfl rfl) (Gd.at 12 true 106 (decide (S38 > (0 : Int))) rfl rfl rfl (beq_tt H51)) rfl rfl (by kernel_rfl) (by kernel_rfl) (by kernel_rfl) rfl rfl ?_
                    refine TA.y (listed' := #[true, true, true, true, true, true, true, true, true, true, true, true, true, true, true, true, true, true, true, true, true, true, true, true, true, true, false]) 25 [0] rfl (Y.pick_t H51 rfl rfl) (Gd.at 9 false 103 (!R47) rfl rfl rfl (beq_ff H50)) rfl rfl (by kernel_rfl) (by kernel_rfl) (by kernel_rfl) rfl rfl ?_
                    refine TA.y (listed' := #[true, true, true, true, true, true, true, true, true, true, true, true, true, true, true, true, true, true, true, true, true, true, true, true, true, true, true]) 26 [0] rfl (Y.pick_f H50 rfl rfl) rfl rfl rfl (by kernel_rfl) (by kernel_rfl) (by kernel_rfl) rfl rfl ?_
                    refine TA.nil (by kernel_rfl) ?_
                    exact TE.jb_go () [0] ⟨rfl, rfl, rfl, rfl, trivial⟩ rfl
                  · refine TA.off (listed' := #[true, true, true, true, true, true, true, true, true, true, true, true, true, true, false, false, false, false, false, false, false, false, false, false, false, false, false]) 13 [0] rfl (Gd.at 12 true 106 (decide (S38 > (0 : Int))) rfl rfl rfl (beq_ft H51)) rfl rfl (by kernel_rfl) (by kernel_rfl) (by kernel_rfl) rfl rfl ?_
                    refine TA.off (listed' := #[true, true, true, true, true, true, true, true, true, true, true, true, true, true, true, false, false, false, false, false, false, false, false, false, false, false, false]) 14 [0] rfl (Gd.at 12 true 106 (decide (S38 > (0 : Int))) rfl rfl rfl (beq_ft H51)) rfl rfl (by kernel_rfl) (by kernel_rfl) (by kernel_rfl) rfl rfl ?_
                    refine TA.off (listed' := #[true, true, true, true, true, true, true, true, true, true, true, true, true, true, true, true, false, false, false, false, false, false, false, false, false, false, false]) 15 [0] rfl (Gd.at 12 true 106 (decide (S38 > (0 : Int))) rfl rfl rfl (beq_ft H51)) rfl rfl (by kernel_rfl) (by kernel_rfl) (by kernel_rfl) rfl rfl ?_
                    refine TA.off (listed' := #[true, true, true, true, true, true, true, true, true, true, true, true, true, true, true, true, true, false, false, false, false, false, false, false, false, false, false]) 16 [0] rfl (Gd.at 12 true 106 (decide (S38 > (0 : Int))) rfl rfl rfl (beq_ft H51)) rfl rfl (by kernel_rfl) (by kernel_rfl) (by kernel_rfl) rfl rfl ?_
                    refine TA.off (listed' := #[true, true, true, true, true, true, true, true, true, true, true, true, true, true, true, true, true, true, false, false, false, false, false, false, false, false, false]) 17 [0] rfl (Gd.at 12 true 106 (decide (S38 > (0 : Int))) rfl rfl rfl (beq_ft H51)) rfl rfl (by kernel_rfl) (by kernel_rfl) (by kernel_rfl) rfl rfl ?_
                    refine TA.off (listed' := #[true, true, true, true, true, true, true, true, true, true, true, true, true, true, true, true, true, true, true, false, false, false, false, false, false, false, false]) 18 [0] rfl (Gd.at 12 true 106 (decide (S38 > (0 : Int))) rfl rfl rfl (beq_ft H51)) rfl rfl (by kernel_rfl) (by kernel_rfl) (by kernel_rfl) rfl rfl ?_
                    refine TA.off (listed' := #[true, true, true, true, true, true, true, true, true, true, true, true, true, true, true, true, true, true, true, true, false, false, false, false, false, false, false]) 19 [0] rfl (Gd.at 12 true 106 (decide (S38 > (0 : Int))) rfl rfl rfl (beq_ft H51)) rfl rfl (by kernel_rfl) (by kernel_rfl) (by kernel_rfl) rfl rfl ?_
                    refine TA.off (listed' := #[true, true, true, true, true, true, true, true, true, true, true, true, true, true, true, true, true, true, true, true, true, false, false, false, false, false, false]) 20 [0] rfl (Gd.at 12 true 106 (decide (S38 > (0 : Int))) rfl rfl rfl (beq_ft H51)) rfl rfl (by kernel_rfl) (by kernel_rfl) (by kernel_rfl) rfl rfl ?_
                    refine TA.off (listed' := #[true, true, true, true, true, true, true, true, true, true, true, true, true, true, true, true, true, true, true, true, true, true, false, false, false, false, false]) 21 [0] rfl (Gd.at 12 true 106 (decide (S38 > (0 : Int))) rfl rfl rfl (beq_ft H51)) rfl rfl (by kernel_rfl) (by kernel_rfl) (by kernel_rfl) rfl rfl ?_
                    refine TA.off (listed' := #[true, true, true, true, true, true, true, true, true, true, true, true, true, true, true, true, true, true, true, true, true, true, true, false, false, false, false]) 22 [0] rfl (Gd.at 12 true 106 (decide (S38 > (0 : Int))) rfl rfl rfl (beq_ft H51)) rfl rfl (by kernel_rfl) (by kernel_rfl) (by kernel_rfl) rfl rfl ?_
                    refine TA.off (listed' := #[true, true, true, true, true, true, true, true, true, true, true, true, true, true, true, true, true, true, true, true, true, true, true, true, false, false, false]) 23 [0] rfl (Gd.at 12 true 106 (decide (S38 > (0 : Int))) rfl rfl rfl (beq_ft H51)) rfl rfl (by kernel_rfl) (by kernel_rfl) (by kernel_rfl) rfl rfl ?_
                    refine TA.off (listed' := #[true, true, true, true, true, true, true, true, true, true, true, true, true, true, true, true, true, true, true, true, true, true, true, true, true, false, false]) 24 [0] rfl (Gd.at 12 true 106 (decide (S38 > (0 : Int))) rfl rfl rfl (beq_ft H51)) rfl rfl (by kernel_rfl) (by kernel_rfl) (by kernel_rfl) rfl rfl ?_
                    refine TA.y (listed' := #[true, true, true, true, true, true, true, true, true, true, true, true, true, true, true, true, true, true, true, true, true, true, true, true, true, true, false]) 25 [0] rfl (Y.pick_f H51 rfl rfl) (Gd.at 9 false 103 (!R47) rfl rfl rfl (beq_ff H50)) rfl rfl (by kernel_rfl) (by kernel_rfl) (by kernel_rfl) rfl rfl ?_
                    refine TA.y (listed' := #[true, true, true, true, true, true, true, true, true, true, true, true, true, true, true, true, true, true, true, true, true, true, true, true, true, true, true]) 26 [0] rfl (Y.pick_f H50 rfl rfl) rfl rfl rfl (by kernel_rfl) (by kernel_rfl) (by kernel_rfl) rfl rfl ?_
                    refine TA.nil (by kernel_rfl) ?_
                    exact TE.jb_go () [0] ⟨rfl, rfl, rfl, rfl, trivial⟩ rfl
              · refine TE.next ?_
                refine TW.cond rfl (fun H54 => ?_) (fun H54 => ?_)
                · refine TW.seq ?_
                  refine TW.region ?_
                  refine TO.y (Y.assign rfl) rfl rfl rfl ?_
                  refine TO.nil ?_
                  refine TE.next ?_
                  refine TW.ret ?_
                  refine TE.block_ret ?_
                  refine TE.then_ret ?_
                  refine TE.lp_ret ?_
                  refine TE.block_ret ?_
                  refine TE.jn_done ?_
                  refine TE.then_ret ?_
                  exact TE.leaf fun _ _ hf_ hs_ => ret_any (rs := [.tmp 2]) (vs := [.bool false]) (.inl rfl) rfl ⟨rfl, trivial⟩ hf_ hs_ ⟨(), rfl, hs_.pulls [] rfl⟩
                · refine TW.skip ?_
                  refine TE.block_normal ?_
                  refine TE.next ?_
                  refine TW.region ?_
                  refine TO.y (Y.move rfl) rfl rfl rfl ?_
                  refine TO.y (Y.add rfl rfl) rfl rfl rfl ?_
                  refine TO.y (Y.assign rfl) rfl rfl rfl ?_
                  refine TO.nil ?_
                  exact TE.lp_go () [0] ⟨rfl, rfl, rfl, trivial⟩ rfl
            · refine TW.exit ?_
              refine TE.then_exit ?_
              refine TE.lp_exit ?_
              refine TE.block_exit ?_
              exact TE.jn_go () [] ⟨rfl, trivial⟩ rfl
          · refine TE.next ?_
            refine TW.seq ?_
            refine TW.region ?_
            refine TO.y (Y.move rfl) rfl rfl rfl ?_
            refine TO.y (Y.leq rfl rfl) rfl rfl rfl ?_
            refine TO.y (Y.assign rfl) rfl rfl rfl ?_
            refine TO.nil ?_
            refine TE.next ?_
            refine TW.ret ?_
            exact TE.leaf fun _ _ hf_ hs_ => ret_any (rs := [.tmp 2]) (vs := [.bool (decide (T20 ≤ (400 : Int)))]) (.inl rfl) rfl ⟨rfl, trivial⟩ hf_ hs_ ⟨(), rfl, hs_.pulls [] rfl⟩

end Go.Proofs.Ytamgnhkgcggbhab
