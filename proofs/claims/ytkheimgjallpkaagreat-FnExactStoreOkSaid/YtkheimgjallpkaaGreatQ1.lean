/-
  The functions that a law reaches, each as a pure function, with the proof that the program computes it, and the step from a pure law to the given statement. Conditions: none.
-/
import Derived.Test.YtkheimgjallpkaaGreatSw
import Derived.Test.YtkheimgjallpkaaGreatSz
import Derived.Test.YtkheimgjallpkaaGreatRows
set_option linter.unusedVariables false
set_option maxRecDepth 100000
set_option maxHeartbeats 4000000
namespace Go.Proofs.YtkheimgjallpkaaGreat
open Go Sl

structure KeySlot where
  Tenant : Int
  Key : List UInt8
  deriving DecidableEq
instance : Enc KeySlot := ⟨2, fun x => [.int .i64 x.Tenant, .str x.Key], fun _ => rfl, by decide⟩
instance : Dec KeySlot where
  sh := [.int .i64, .str]
  ok x := okI x.Tenant ∧ x.Key.length ≤ 9223372036854775807
  dec cs h := by
    obtain ⟨c0, r0, rfl, h0, h⟩ := h.cons_inv
    obtain ⟨c1, r1, rfl, h1, h⟩ := h.cons_inv
    obtain rfl := h.nil_inv
    obtain ⟨y0, rfl, w0_⟩ := h0.int_inv
    have w0 := okI_of w0_
    obtain ⟨y1, rfl, w1⟩ := h1.str_inv
    exact ⟨{ Tenant := y0, Key := y1 : KeySlot }, rfl, w0, w1⟩
instance : Flat KeySlot := { vals := fun x => [.int .i64 x.Tenant, strV x.Key], flat := fun _ => rfl }
structure KeyDev where
  Master : List UInt8
  Slots : List KeySlot
  Wiped : Int
  deriving DecidableEq
instance : Enc KeyDev := ⟨3, fun x => [.str x.Master, lc x.Slots, .int .i64 x.Wiped], fun _ => rfl, by decide⟩
instance : Dec KeyDev where
  sh := [.str, .sl 2 (Dec.sh KeySlot), .int .i64]
  ok x := x.Master.length ≤ 9223372036854775807 ∧ okl x.Slots ∧ okI x.Wiped
  dec cs h := by
    obtain ⟨c0, r0, rfl, h0, h⟩ := h.cons_inv
    obtain ⟨c1, r1, rfl, h1, h⟩ := h.cons_inv
    obtain ⟨c2, r2, rfl, h2, h⟩ := h.cons_inv
    obtain rfl := h.nil_inv
    obtain ⟨y0, rfl, w0⟩ := h0.str_inv
    obtain ⟨y1, rfl, w1⟩ := h1.sl_inv (α := KeySlot) rfl
    obtain ⟨y2, rfl, w2_⟩ := h2.int_inv
    have w2 := okI_of w2_
    exact ⟨{ Master := y0, Slots := y1, Wiped := y2 : KeyDev }, rfl, w0, w1, w2⟩
structure Share where
  Tenant : Int
  Quota : Int
  deriving DecidableEq
instance : Enc Share := ⟨2, fun x => [.int .i64 x.Tenant, .int .i64 x.Quota], fun _ => rfl, by decide⟩
instance : Dec Share where
  sh := [.int .i64, .int .i64]
  ok x := okI x.Tenant ∧ okI x.Quota
  dec cs h := by
    obtain ⟨c0, r0, rfl, h0, h⟩ := h.cons_inv
    obtain ⟨c1, r1, rfl, h1, h⟩ := h.cons_inv
    obtain rfl := h.nil_inv
    obtain ⟨y0, rfl, w0_⟩ := h0.int_inv
    have w0 := okI_of w0_
    obtain ⟨y1, rfl, w1_⟩ := h1.int_inv
    have w1 := okI_of w1_
    exact ⟨{ Tenant := y0, Quota := y1 : Share }, rfl, w0, w1⟩
instance : Flat Share := { vals := fun x => [.int .i64 x.Tenant, .int .i64 x.Quota], flat := fun _ => rfl }
structure Shares where
  Size : Int
  List : _root_.List Share
  deriving DecidableEq
instance : Enc Shares := ⟨2, fun x => [.int .i64 x.Size, lc x.List], fun _ => rfl, by decide⟩
instance : Dec Shares where
  sh := [.int .i64, .sl 2 (Dec.sh Share)]
  ok x := okI x.Size ∧ okl x.List
  dec cs h := by
    obtain ⟨c0, r0, rfl, h0, h⟩ := h.cons_inv
    obtain ⟨c1, r1, rfl, h1, h⟩ := h.cons_inv
    obtain rfl := h.nil_inv
    obtain ⟨y0, rfl, w0_⟩ := h0.int_inv
    have w0 := okI_of w0_
    obtain ⟨y1, rfl, w1⟩ := h1.sl_inv (α := Share) rfl
    exact ⟨{ Size := y0, List := y1 : Shares }, rfl, w0, w1⟩
structure Ent where
  Key : List UInt8
  Seq : Int
  Del : Bool
  Val : List UInt8
  deriving DecidableEq
instance : Enc Ent := ⟨4, fun x => [.str x.Key, .int .i64 x.Seq, .bool x.Del, .str x.Val], fun _ => rfl, by decide⟩
instance : Dec Ent where
  sh := [.str, .int .i64, .bool, .str]
  ok x := x.Key.length ≤ 9223372036854775807 ∧ okI x.Seq ∧ True ∧ x.Val.length ≤ 9223372036854775807
  dec cs h := by
    obtain ⟨c0, r0, rfl, h0, h⟩ := h.cons_inv
    obtain ⟨c1, r1, rfl, h1, h⟩ := h.cons_inv
    obtain ⟨c2, r2, rfl, h2, h⟩ := h.cons_inv
    obtain ⟨c3, r3, rfl, h3, h⟩ := h.cons_inv
    obtain rfl := h.nil_inv
    obtain ⟨y0, rfl, w0⟩ := h0.str_inv
    obtain ⟨y1, rfl, w1_⟩ := h1.int_inv
    have w1 := okI_of w1_
    obtain ⟨y2, rfl⟩ := h2.bool_inv
    have w2 := True.intro
    obtain ⟨y3, rfl, w3⟩ := h3.str_inv
    exact ⟨{ Key := y0, Seq := y1, Del := y2, Val := y3 : Ent }, rfl, w0, w1, w2, w3⟩
instance : Flat Ent := { vals := fun x => [strV x.Key, .int .i64 x.Seq, .bool x.Del, strV x.Val], flat := fun _ => rfl }
instance : Enc (List Ent) := ⟨1, fun l => [lc l], fun _ => rfl, Nat.one_pos⟩
instance : Dec (List Ent) where
  sh := [.sl 4 (Dec.sh Ent)]
  ok l := okl l
  dec cs h := by
    obtain ⟨c0, r0, rfl, h0, h⟩ := h.cons_inv
    obtain rfl := h.nil_inv
    obtain ⟨y0, rfl, w0⟩ := h0.sl_inv (α := Ent) rfl
    exact ⟨y0, rfl, w0⟩
structure Eng where
  Mem : List Ent
  Tables : List (List Ent)
  Seq : Int
  Snaps : List Int
  deriving DecidableEq
instance : Enc Eng := ⟨4, fun x => [lc x.Mem, lc x.Tables, .int .i64 x.Seq, lc x.Snaps], fun _ => rfl, by decide⟩
instance : Dec Eng where
  sh := [.sl 4 (Dec.sh Ent), .sl 1 (Dec.sh (List Ent)), .int .i64, .sl 1 (Dec.sh Int)]
  ok x := okl x.Mem ∧ okl x.Tables ∧ okI x.Seq ∧ okl x.Snaps
  dec cs h := by
    obtain ⟨c0, r0, rfl, h0, h⟩ := h.cons_inv
    obtain ⟨c1, r1, rfl, h1, h⟩ := h.cons_inv
    obtain ⟨c2, r2, rfl, h2, h⟩ := h.cons_inv
    obtain ⟨c3, r3, rfl, h3, h⟩ := h.cons_inv
    obtain rfl := h.nil_inv
    obtain ⟨y0, rfl, w0⟩ := h0.sl_inv (α := Ent) rfl
    obtain ⟨y1, rfl, w1⟩ := h1.sl_inv (α := List Ent) rfl
    obtain ⟨y2, rfl, w2_⟩ := h2.int_inv
    have w2 := okI_of w2_
    obtain ⟨y3, rfl, w3⟩ := h3.sl_inv (α := Int) rfl
    exact ⟨{ Mem := y0, Tables := y1, Seq := y2, Snaps := y3 : Eng }, rfl, w0, w1, w2, w3⟩
structure STen where
  Id : Int
  Epoch : Int
  Base : Int
  Eng : Eng
  deriving DecidableEq
instance : Enc STen := ⟨7, fun x => [.int .i64 x.Id, .int .i64 x.Epoch, .int .i64 x.Base, lc x.Eng.Mem, lc x.Eng.Tables, .int .i64 x.Eng.Seq, lc x.Eng.Snaps], fun _ => rfl, by decide⟩
instance : Dec STen where
  sh := [.int .i64, .int .i64, .int .i64, .sl 4 (Dec.sh Ent), .sl 1 (Dec.sh (List Ent)), .int .i64, .sl 1 (Dec.sh Int)]
  ok x := okI x.Id ∧ okI x.Epoch ∧ okI x.Base ∧ okl x.Eng.Mem ∧ okl x.Eng.Tables ∧ okI x.Eng.Seq ∧ okl x.Eng.Snaps
  dec cs h := by
    obtain ⟨c0, r0, rfl, h0, h⟩ := h.cons_inv
    obtain ⟨c1, r1, rfl, h1, h⟩ := h.cons_inv
    obtain ⟨c2, r2, rfl, h2, h⟩ := h.cons_inv
    obtain ⟨c3, r3, rfl, h3, h⟩ := h.cons_inv
    obtain ⟨c4, r4, rfl, h4, h⟩ := h.cons_inv
    obtain ⟨c5, r5, rfl, h5, h⟩ := h.cons_inv
    obtain ⟨c6, r6, rfl, h6, h⟩ := h.cons_inv
    obtain rfl := h.nil_inv
    obtain ⟨y0, rfl, w0_⟩ := h0.int_inv
    have w0 := okI_of w0_
    obtain ⟨y1, rfl, w1_⟩ := h1.int_inv
    have w1 := okI_of w1_
    obtain ⟨y2, rfl, w2_⟩ := h2.int_inv
    have w2 := okI_of w2_
    obtain ⟨y3, rfl, w3⟩ := h3.sl_inv (α := Ent) rfl
    obtain ⟨y4, rfl, w4⟩ := h4.sl_inv (α := List Ent) rfl
    obtain ⟨y5, rfl, w5_⟩ := h5.int_inv
    have w5 := okI_of w5_
    obtain ⟨y6, rfl, w6⟩ := h6.sl_inv (α := Int) rfl
    exact ⟨{ Id := y0, Epoch := y1, Base := y2, Eng := { Mem := y3, Tables := y4, Seq := y5, Snaps := y6 : Eng } : STen }, rfl, w0, w1, w2, w3, w4, w5, w6⟩
structure LogRow where
  Tenant : Int
  Boot : Int
  Seq : Int
  Text : List UInt8
  Synced : Bool
  deriving DecidableEq
instance : Enc LogRow := ⟨5, fun x => [.int .i64 x.Tenant, .int .i64 x.Boot, .int .i64 x.Seq, .str x.Text, .bool x.Synced], fun _ => rfl, by decide⟩
instance : Dec LogRow where
  sh := [.int .i64, .int .i64, .int .i64, .str, .bool]
  ok x := okI x.Tenant ∧ okI x.Boot ∧ okI x.Seq ∧ x.Text.length ≤ 9223372036854775807 ∧ True
  dec cs h := by
    obtain ⟨c0, r0, rfl, h0, h⟩ := h.cons_inv
    obtain ⟨c1, r1, rfl, h1, h⟩ := h.cons_inv
    obtain ⟨c2, r2, rfl, h2, h⟩ := h.cons_inv
    obtain ⟨c3, r3, rfl, h3, h⟩ := h.cons_inv
    obtain ⟨c4, r4, rfl, h4, h⟩ := h.cons_inv
    obtain rfl := h.nil_inv
    obtain ⟨y0, rfl, w0_⟩ := h0.int_inv
    have w0 := okI_of w0_
    obtain ⟨y1, rfl, w1_⟩ := h1.int_inv
    have w1 := okI_of w1_
    obtain ⟨y2, rfl, w2_⟩ := h2.int_inv
    have w2 := okI_of w2_
    obtain ⟨y3, rfl, w3⟩ := h3.str_inv
    obtain ⟨y4, rfl⟩ := h4.bool_inv
    have w4 := True.intro
    exact ⟨{ Tenant := y0, Boot := y1, Seq := y2, Text := y3, Synced := y4 : LogRow }, rfl, w0, w1, w2, w3, w4⟩
instance : Flat LogRow := { vals := fun x => [.int .i64 x.Tenant, .int .i64 x.Boot, .int .i64 x.Seq, strV x.Text, .bool x.Synced], flat := fun _ => rfl }
structure Store where
  Secret : List UInt8
  Keys : KeyDev
  Shares : Shares
  Tens : List STen
  Rows : List LogRow
  Hist : List LogRow
  Boot : Int
  deriving DecidableEq
instance : Enc Store := ⟨10, fun x => [.str x.Secret, .str x.Keys.Master, lc x.Keys.Slots, .int .i64 x.Keys.Wiped, .int .i64 x.Shares.Size, lc x.Shares.List, lc x.Tens, lc x.Rows, lc x.Hist, .int .i64 x.Boot], fun _ => rfl, by decide⟩
instance : Dec Store where
  sh := [.str, .str, .sl 2 (Dec.sh KeySlot), .int .i64, .int .i64, .sl 2 (Dec.sh Share), .sl 7 (Dec.sh STen), .sl 5 (Dec.sh LogRow), .sl 5 (Dec.sh LogRow), .int .i64]
  ok x := x.Secret.length ≤ 9223372036854775807 ∧ x.Keys.Master.length ≤ 9223372036854775807 ∧ okl x.Keys.Slots ∧ okI x.Keys.Wiped ∧ okI x.Shares.Size ∧ okl x.Shares.List ∧ okl x.Tens ∧ okl x.Rows ∧ okl x.Hist ∧ okI x.Boot
  dec cs h := by
    obtain ⟨c0, r0, rfl, h0, h⟩ := h.cons_inv
    obtain ⟨c1, r1, rfl, h1, h⟩ := h.cons_inv
    obtain ⟨c2, r2, rfl, h2, h⟩ := h.cons_inv
    obtain ⟨c3, r3, rfl, h3, h⟩ := h.cons_inv
    obtain ⟨c4, r4, rfl, h4, h⟩ := h.cons_inv
    obtain ⟨c5, r5, rfl, h5, h⟩ := h.cons_inv
    obtain ⟨c6, r6, rfl, h6, h⟩ := h.cons_inv
    obtain ⟨c7, r7, rfl, h7, h⟩ := h.cons_inv
    obtain ⟨c8, r8, rfl, h8, h⟩ := h.cons_inv
    obtain ⟨c9, r9, rfl, h9, h⟩ := h.cons_inv
    obtain rfl := h.nil_inv
    obtain ⟨y0, rfl, w0⟩ := h0.str_inv
    obtain ⟨y1, rfl, w1⟩ := h1.str_inv
    obtain ⟨y2, rfl, w2⟩ := h2.sl_inv (α := KeySlot) rfl
    obtain ⟨y3, rfl, w3_⟩ := h3.int_inv
    have w3 := okI_of w3_
    obtain ⟨y4, rfl, w4_⟩ := h4.int_inv
    have w4 := okI_of w4_
    obtain ⟨y5, rfl, w5⟩ := h5.sl_inv (α := Share) rfl
    obtain ⟨y6, rfl, w6⟩ := h6.sl_inv (α := STen) rfl
    obtain ⟨y7, rfl, w7⟩ := h7.sl_inv (α := LogRow) rfl
    obtain ⟨y8, rfl, w8⟩ := h8.sl_inv (α := LogRow) rfl
    obtain ⟨y9, rfl, w9_⟩ := h9.int_inv
    have w9 := okI_of w9_
    exact ⟨{ Secret := y0, Keys := { Master := y1, Slots := y2, Wiped := y3 : KeyDev }, Shares := { Size := y4, List := y5 : Shares }, Tens := y6, Rows := y7, Hist := y8, Boot := y9 : Store }, rfl, w0, w1, w2, w3, w4, w5, w6, w7, w8, w9⟩
structure Op where
  Key : List UInt8
  Del : Bool
  Val : List UInt8
  deriving DecidableEq
instance : Enc Op := ⟨3, fun x => [.str x.Key, .bool x.Del, .str x.Val], fun _ => rfl, by decide⟩
instance : Dec Op where
  sh := [.str, .bool, .str]
  ok x := x.Key.length ≤ 9223372036854775807 ∧ True ∧ x.Val.length ≤ 9223372036854775807
  dec cs h := by
    obtain ⟨c0, r0, rfl, h0, h⟩ := h.cons_inv
    obtain ⟨c1, r1, rfl, h1, h⟩ := h.cons_inv
    obtain ⟨c2, r2, rfl, h2, h⟩ := h.cons_inv
    obtain rfl := h.nil_inv
    obtain ⟨y0, rfl, w0⟩ := h0.str_inv
    obtain ⟨y1, rfl⟩ := h1.bool_inv
    have w1 := True.intro
    obtain ⟨y2, rfl, w2⟩ := h2.str_inv
    exact ⟨{ Key := y0, Del := y1, Val := y2 : Op }, rfl, w0, w1, w2⟩
instance : Flat Op := { vals := fun x => [strV x.Key, .bool x.Del, strV x.Val], flat := fun _ => rfl }
structure Reader where
  text : List UInt8
  at_ : Int
  bad : Bool
  deriving DecidableEq
instance : Enc Reader := ⟨3, fun x => [.str x.text, .int .i64 x.at_, .bool x.bad], fun _ => rfl, by decide⟩
instance : Dec Reader where
  sh := [.str, .int .i64, .bool]
  ok x := x.text.length ≤ 9223372036854775807 ∧ okI x.at_ ∧ True
  dec cs h := by
    obtain ⟨c0, r0, rfl, h0, h⟩ := h.cons_inv
    obtain ⟨c1, r1, rfl, h1, h⟩ := h.cons_inv
    obtain ⟨c2, r2, rfl, h2, h⟩ := h.cons_inv
    obtain rfl := h.nil_inv
    obtain ⟨y0, rfl, w0⟩ := h0.str_inv
    obtain ⟨y1, rfl, w1_⟩ := h1.int_inv
    have w1 := okI_of w1_
    obtain ⟨y2, rfl⟩ := h2.bool_inv
    have w2 := True.intro
    exact ⟨{ text := y0, at_ := y1, bad := y2 : Reader }, rfl, w0, w1, w2⟩
instance : Flat Reader := { vals := fun x => [strV x.text, .int .i64 x.at_, .bool x.bad], flat := fun _ => rfl }

theorem hMix : Tryz.prog.follows .mixedOrders = true := by kernel_rfl
theorem kf118_1 : fieldB Tryz.prog 118 1 = some 1 := by kernel_rfl
theorem kk9 : kindB Tryz.prog 9 = some (false, 1) := by kernel_rfl
theorem ks9 : isStrB Tryz.prog 9 = true := by kernel_rfl
theorem ke22 : elemB Tryz.prog 22 = some (118, 2, 24) := by kernel_rfl
theorem kk118 : kindB Tryz.prog 118 = some (true, 2) := by kernel_rfl
theorem kf24_0 : fieldB Tryz.prog 24 0 = some 0 := by kernel_rfl
theorem kf24_1 : fieldB Tryz.prog 24 1 = some 1 := by kernel_rfl
theorem kk22 : kindB Tryz.prog 22 = some (false, 1) := by kernel_rfl
theorem ke25 : elemB Tryz.prog 25 = some (133, 2, 16) := by kernel_rfl
theorem kf27_1 : fieldB Tryz.prog 27 1 = some 1 := by kernel_rfl
theorem kk25 : kindB Tryz.prog 25 = some (false, 1) := by kernel_rfl
theorem kf162_0 : fieldB Tryz.prog 162 0 = some 0 := by kernel_rfl
theorem kf162_3 : fieldB Tryz.prog 162 3 = some 3 := by kernel_rfl
theorem ke83 : elemB Tryz.prog 83 = some (162, 4, 48) := by kernel_rfl
theorem kk162 : kindB Tryz.prog 162 = some (true, 4) := by kernel_rfl
theorem ke84 : elemB Tryz.prog 84 = some (83, 1, 24) := by kernel_rfl
theorem kk83 : kindB Tryz.prog 83 = some (false, 1) := by kernel_rfl
theorem ke56 : elemB Tryz.prog 56 = some (3, 1, 8) := by kernel_rfl
theorem kf86_0 : fieldB Tryz.prog 86 0 = some 0 := by kernel_rfl
theorem kf86_1 : fieldB Tryz.prog 86 1 = some 1 := by kernel_rfl
theorem kk84 : kindB Tryz.prog 84 = some (false, 1) := by kernel_rfl
theorem kf86_3 : fieldB Tryz.prog 86 3 = some 3 := by kernel_rfl
theorem kk56 : kindB Tryz.prog 56 = some (false, 1) := by kernel_rfl
theorem kf88_3 : fieldB Tryz.prog 88 3 = some 3 := by kernel_rfl
theorem kk86 : kindB Tryz.prog 86 = some (true, 4) := by kernel_rfl
theorem ke28 : elemB Tryz.prog 28 = some (88, 7, 104) := by kernel_rfl
theorem kk88 : kindB Tryz.prog 88 = some (true, 7) := by kernel_rfl
theorem kf90_3 : fieldB Tryz.prog 90 3 = some 3 := by kernel_rfl
theorem ke29 : elemB Tryz.prog 29 = some (90, 5, 48) := by kernel_rfl
theorem kk90 : kindB Tryz.prog 90 = some (true, 5) := by kernel_rfl
theorem kf31_0 : fieldB Tryz.prog 31 0 = some 0 := by kernel_rfl
theorem kf31_1 : fieldB Tryz.prog 31 1 = some 1 := by kernel_rfl
theorem kk24 : kindB Tryz.prog 24 = some (true, 3) := by kernel_rfl
theorem kf31_2 : fieldB Tryz.prog 31 2 = some 4 := by kernel_rfl
theorem kk27 : kindB Tryz.prog 27 = some (true, 2) := by kernel_rfl
theorem kf31_3 : fieldB Tryz.prog 31 3 = some 6 := by kernel_rfl
theorem kk28 : kindB Tryz.prog 28 = some (false, 1) := by kernel_rfl
theorem kf31_4 : fieldB Tryz.prog 31 4 = some 7 := by kernel_rfl
theorem kk29 : kindB Tryz.prog 29 = some (false, 1) := by kernel_rfl
theorem kf31_5 : fieldB Tryz.prog 31 5 = some 8 := by kernel_rfl
theorem kz62 : zeroB Tryz.prog 62 = some (.agg #[.int .i64 (0 : Int), strV ([])]) := by kernel_rfl
theorem kf118_0 : fieldB Tryz.prog 118 0 = some 0 := by kernel_rfl
theorem kk3 : kindB Tryz.prog 3 = some (false, 1) := by kernel_rfl
theorem kf62_0 : fieldB Tryz.prog 62 0 = some 0 := by kernel_rfl
theorem kf62_1 : fieldB Tryz.prog 62 1 = some 1 := by kernel_rfl
theorem kk62 : kindB Tryz.prog 62 = some (true, 2) := by kernel_rfl
theorem ke34 : elemB Tryz.prog 34 = some (62, 2, 24) := by kernel_rfl
theorem kz36 : zeroB Tryz.prog 36 = some (.agg #[strV ([]), .slice none 0 0, .int .i64 (0 : Int)]) := by kernel_rfl
theorem kf36_0 : fieldB Tryz.prog 36 0 = some 0 := by kernel_rfl
theorem kf36_1 : fieldB Tryz.prog 36 1 = some 1 := by kernel_rfl
theorem kk34 : kindB Tryz.prog 34 = some (false, 1) := by kernel_rfl
theorem kf24_2 : fieldB Tryz.prog 24 2 = some 2 := by kernel_rfl
theorem kf36_2 : fieldB Tryz.prog 36 2 = some 2 := by kernel_rfl
theorem kk36 : kindB Tryz.prog 36 = some (true, 3) := by kernel_rfl
theorem kz64 : zeroB Tryz.prog 64 = some (.agg #[.int .i64 (0 : Int), .int .i64 (0 : Int)]) := by kernel_rfl
theorem kf133_0 : fieldB Tryz.prog 133 0 = some 0 := by kernel_rfl
theorem kf64_0 : fieldB Tryz.prog 64 0 = some 0 := by kernel_rfl
theorem kf133_1 : fieldB Tryz.prog 133 1 = some 1 := by kernel_rfl
theorem kf64_1 : fieldB Tryz.prog 64 1 = some 1 := by kernel_rfl
theorem kk64 : kindB Tryz.prog 64 = some (true, 2) := by kernel_rfl
theorem ke37 : elemB Tryz.prog 37 = some (64, 2, 16) := by kernel_rfl
theorem kk133 : kindB Tryz.prog 133 = some (true, 2) := by kernel_rfl
theorem kz39 : zeroB Tryz.prog 39 = some (.agg #[.int .i64 (0 : Int), .slice none 0 0]) := by kernel_rfl
theorem kf27_0 : fieldB Tryz.prog 27 0 = some 0 := by kernel_rfl
theorem kf39_0 : fieldB Tryz.prog 39 0 = some 0 := by kernel_rfl
theorem kf39_1 : fieldB Tryz.prog 39 1 = some 1 := by kernel_rfl
theorem kk37 : kindB Tryz.prog 37 = some (false, 1) := by kernel_rfl
theorem kk39 : kindB Tryz.prog 39 = some (true, 2) := by kernel_rfl
theorem kz102 : zeroB Tryz.prog 102 = some (.agg #[strV ([]), .int .i64 (0 : Int), .bool false, strV ([])]) := by kernel_rfl
theorem kf102_0 : fieldB Tryz.prog 102 0 = some 0 := by kernel_rfl
theorem kf162_1 : fieldB Tryz.prog 162 1 = some 1 := by kernel_rfl
theorem kf102_1 : fieldB Tryz.prog 102 1 = some 1 := by kernel_rfl
theorem kf162_2 : fieldB Tryz.prog 162 2 = some 2 := by kernel_rfl
theorem kk4 : kindB Tryz.prog 4 = some (false, 1) := by kernel_rfl
theorem kf102_2 : fieldB Tryz.prog 102 2 = some 2 := by kernel_rfl
theorem kf102_3 : fieldB Tryz.prog 102 3 = some 3 := by kernel_rfl
theorem kk102 : kindB Tryz.prog 102 = some (true, 4) := by kernel_rfl
theorem ke54 : elemB Tryz.prog 54 = some (102, 4, 48) := by kernel_rfl
theorem kz54 : zeroB Tryz.prog 54 = some (.slice none 0 0) := by kernel_rfl
theorem ke55 : elemB Tryz.prog 55 = some (54, 1, 24) := by kernel_rfl
theorem kk54 : kindB Tryz.prog 54 = some (false, 1) := by kernel_rfl
theorem kz3 : zeroB Tryz.prog 3 = some (.int .i64 (0 : Int)) := by kernel_rfl
theorem kz58 : zeroB Tryz.prog 58 = some (.agg #[.slice none 0 0, .slice none 0 0, .int .i64 (0 : Int), .slice none 0 0]) := by kernel_rfl
theorem kf58_0 : fieldB Tryz.prog 58 0 = some 0 := by kernel_rfl
theorem kf58_1 : fieldB Tryz.prog 58 1 = some 1 := by kernel_rfl
theorem kk55 : kindB Tryz.prog 55 = some (false, 1) := by kernel_rfl
theorem kf86_2 : fieldB Tryz.prog 86 2 = some 2 := by kernel_rfl
theorem kf58_2 : fieldB Tryz.prog 58 2 = some 2 := by kernel_rfl
theorem kf58_3 : fieldB Tryz.prog 58 3 = some 3 := by kernel_rfl
theorem kk58 : kindB Tryz.prog 58 = some (true, 4) := by kernel_rfl
theorem kz60 : zeroB Tryz.prog 60 = some (.agg #[.int .i64 (0 : Int), .int .i64 (0 : Int), .int .i64 (0 : Int), .slice none 0 0, .slice none 0 0, .int .i64 (0 : Int), .slice none 0 0]) := by kernel_rfl
theorem kf88_0 : fieldB Tryz.prog 88 0 = some 0 := by kernel_rfl
theorem kf60_0 : fieldB Tryz.prog 60 0 = some 0 := by kernel_rfl
theorem kf88_1 : fieldB Tryz.prog 88 1 = some 1 := by kernel_rfl
theorem kf60_1 : fieldB Tryz.prog 60 1 = some 1 := by kernel_rfl
theorem kf88_2 : fieldB Tryz.prog 88 2 = some 2 := by kernel_rfl
theorem kf60_2 : fieldB Tryz.prog 60 2 = some 2 := by kernel_rfl
theorem kf60_3 : fieldB Tryz.prog 60 3 = some 3 := by kernel_rfl
theorem kk60 : kindB Tryz.prog 60 = some (true, 7) := by kernel_rfl
theorem ke40 : elemB Tryz.prog 40 = some (60, 7, 104) := by kernel_rfl
theorem kz69 : zeroB Tryz.prog 69 = some (.agg #[.int .i64 (0 : Int), .int .i64 (0 : Int), .int .i64 (0 : Int), strV ([]), .bool false]) := by kernel_rfl
theorem kf90_0 : fieldB Tryz.prog 90 0 = some 0 := by kernel_rfl
theorem kf69_0 : fieldB Tryz.prog 69 0 = some 0 := by kernel_rfl
theorem kf90_1 : fieldB Tryz.prog 90 1 = some 1 := by kernel_rfl
theorem kf69_1 : fieldB Tryz.prog 69 1 = some 1 := by kernel_rfl
theorem kf90_2 : fieldB Tryz.prog 90 2 = some 2 := by kernel_rfl
theorem kf69_2 : fieldB Tryz.prog 69 2 = some 2 := by kernel_rfl
theorem kf69_3 : fieldB Tryz.prog 69 3 = some 3 := by kernel_rfl
theorem kf90_4 : fieldB Tryz.prog 90 4 = some 4 := by kernel_rfl
theorem kf69_4 : fieldB Tryz.prog 69 4 = some 4 := by kernel_rfl
theorem kk69 : kindB Tryz.prog 69 = some (true, 5) := by kernel_rfl
theorem ke41 : elemB Tryz.prog 41 = some (69, 5, 48) := by kernel_rfl
theorem kz43 : zeroB Tryz.prog 43 = some (.agg #[strV ([]), strV ([]), .slice none 0 0, .int .i64 (0 : Int), .int .i64 (0 : Int), .slice none 0 0, .slice none 0 0, .slice none 0 0, .slice none 0 0, .int .i64 (0 : Int)]) := by kernel_rfl
theorem kf43_0 : fieldB Tryz.prog 43 0 = some 0 := by kernel_rfl
theorem kf43_1 : fieldB Tryz.prog 43 1 = some 1 := by kernel_rfl
theorem kf43_2 : fieldB Tryz.prog 43 2 = some 4 := by kernel_rfl
theorem kf43_3 : fieldB Tryz.prog 43 3 = some 6 := by kernel_rfl
theorem kk40 : kindB Tryz.prog 40 = some (false, 1) := by kernel_rfl
theorem kf43_4 : fieldB Tryz.prog 43 4 = some 7 := by kernel_rfl
theorem kk41 : kindB Tryz.prog 41 = some (false, 1) := by kernel_rfl
theorem kf43_5 : fieldB Tryz.prog 43 5 = some 8 := by kernel_rfl
theorem kf31_6 : fieldB Tryz.prog 31 6 = some 9 := by kernel_rfl
theorem kf43_6 : fieldB Tryz.prog 43 6 = some 9 := by kernel_rfl
theorem kk43 : kindB Tryz.prog 43 = some (true, 10) := by kernel_rfl
theorem kf129_0 : fieldB Tryz.prog 129 0 = some 0 := by kernel_rfl
theorem kf129_2 : fieldB Tryz.prog 129 2 = some 2 := by kernel_rfl
theorem kf129_1 : fieldB Tryz.prog 129 1 = some 1 := by kernel_rfl
theorem kz129 : zeroB Tryz.prog 129 = some (.agg #[strV ([]), .bool false, strV ([])]) := by kernel_rfl
theorem kp129 : placesB Tryz.prog 129 = some [(0, 1), (1, 1), (2, 1)] := by kernel_rfl
theorem ki3 : intB Tryz.prog 3 = some .i64 := by kernel_rfl
theorem ki5 : intB Tryz.prog 5 = some .u8 := by kernel_rfl
theorem kz5 : zeroB Tryz.prog 5 = some (.int .u8 (0 : Int)) := by kernel_rfl
theorem ke147 : elemB Tryz.prog 147 = some (5, 1, 1) := by kernel_rfl
theorem ke96 : elemB Tryz.prog 96 = some (129, 3, 40) := by kernel_rfl
theorem kk129 : kindB Tryz.prog 129 = some (true, 3) := by kernel_rfl
theorem kp58 : placesB Tryz.prog 58 = some [(0, 1), (1, 1), (2, 1), (3, 1)] := by kernel_rfl
theorem kp102 : placesB Tryz.prog 102 = some [(0, 1), (1, 1), (2, 1), (3, 1)] := by kernel_rfl
theorem keq102 : eqTB Tryz.prog 102 = some [2, 0, 1, 2] := by kernel_rfl
theorem ki182 : intB Tryz.prog 182 = some .u64 := by kernel_rfl
theorem kk5 : kindB Tryz.prog 5 = some (false, 1) := by kernel_rfl
theorem ki189 : intB Tryz.prog 189 = some .u32 := by kernel_rfl
theorem kz190 : zeroB Tryz.prog 190 = some (arrV (List.replicate 16 (Wrd.mk 0))) := by kernel_rfl
theorem ka190 : arrB Tryz.prog 190 = some (16, 189, 1) := by kernel_rfl
theorem kk190 : kindB Tryz.prog 190 = some (true, 16) := by kernel_rfl
theorem kk189 : kindB Tryz.prog 189 = some (false, 1) := by kernel_rfl
theorem kf171_2 : fieldB Tryz.prog 171 2 = some 2 := by kernel_rfl
theorem kf171_0 : fieldB Tryz.prog 171 0 = some 0 := by kernel_rfl
theorem kf171_1 : fieldB Tryz.prog 171 1 = some 1 := by kernel_rfl
theorem kz171 : zeroB Tryz.prog 171 = some (.agg #[strV ([]), .int .i64 (0 : Int), .bool false]) := by kernel_rfl
theorem kp171 : placesB Tryz.prog 171 = some [(0, 1), (1, 1), (2, 1)] := by kernel_rfl
theorem kk171 : kindB Tryz.prog 171 = some (true, 3) := by kernel_rfl
theorem kt58_1 : fieldTB Tryz.prog 58 1 = some (1, 55) := by kernel_rfl
theorem kb4 : Tryz.prog.underlying 4 = some .bool := by kernel_rfl
theorem kk31 : kindB Tryz.prog 31 = some (true, 10) := by kernel_rfl
theorem hu31 : Tryz.prog.underlying 31 = some (.struct #[⟨ "Secret", 9, 0, Bool.false, "", "", 0⟩, ⟨ "Keys", 24, 1, Bool.false, "", "", 16⟩, ⟨ "Shares", 27, 4, Bool.false, "", "", 64⟩, ⟨ "Tens", 28, 6, Bool.false, "", "", 96⟩, ⟨ "Rows", 29, 7, Bool.false, "", "", 120⟩, ⟨ "Hist", 29, 8, Bool.false, "", "", 144⟩, ⟨ "Boot", 3, 9, Bool.false, "", "", 168⟩]) := by kernel_rfl
theorem hs31 : shB Tryz.prog 20 31 = some (Dec.sh Store) := by kernel_rfl

/-- loop.example/g00950/laws.szKeySlot -/
noncomputable def laws_szKeySlot (a : KeySlot) (left : Int) : Option Int :=
  if (decide (IntKind.i64.wrap (left - ((a.Key.length : Nat) : Int)) < (0 : Int))) = true then (some (-1 : Int))
  else (some (IntKind.i64.wrap (left - ((a.Key.length : Nat) : Int))))

theorem laws_szKeySlot_c {a : KeySlot} {left : Int} : Cn Tryz.prog 60 [.agg #[iv a.Tenant, strV a.Key], iv left] [] [] (laws_szKeySlot a left) (fun r (_ : Unit) => iv r) fun _ _ => [] := by
  unfold laws_szKeySlot
  refine Ci Tryz.func60 r r ?_
  rintro w S -
  exact Sr<|Fo (Bx r (Cp r)) fun B1=>Qs 1 r<|Nx<|Sr<|Qs 1 r<|Yo (Fb kf118_1 r)<|Yo (Lb 0 kk9 r)<|Yo (Y.slen ks9 r)<|Qs 2 r<|Nx<|Sq<|Sr<|Qs 2 r<|Nx<|Wc r (fun H2=>Sr<|Qs 1 r<|Nx<|Wr<|Tr<|Re () []) fun H2=>Sn<|Sr<|Qs 2 r<|Nx<|Wr<|Re () []

/-- loop.example/g00950/laws.szKeySlotS -/
noncomputable def laws_szKeySlotS (a : List KeySlot) (left : Int) : Option Int :=
  if (decide (IntKind.i64.wrap (left - ((a.length : Nat) : Int)) < (0 : Int))) = true then (some (-1 : Int))
  else (bindC (loopO (fun (S2 : Int × Int) => if (decide (S2.2 < ((a.length : Nat) : Int))) = true then ((idx a S2.2).bind fun E7 =>
  (laws_szKeySlot E7 S2.1).bind fun R9 =>
  if (decide (R9 < (0 : Int))) = true then (some (.done (.done (-1 : Int))))
  else (some (.go (R9, IntKind.i64.wrap (S2.2 + (1 : Int))))))
  else (some (.done (.go S2.1))))
  (IntKind.i64.wrap (left - ((a.length : Nat) : Int)), (0 : Int)))
  (fun (T4 : Int) => some T4))

theorem laws_szKeySlotS_c {a : List KeySlot} {left : Int} {U0 : Value} : Cn Tryz.prog 32 [U0, iv left] [] [(U0, lc a)] (laws_szKeySlotS a left) (fun r (_ : Unit) => iv r) fun _ _ => [] := by
  unfold laws_szKeySlotS
  refine Ci Tryz.func32 r r ?_
  rintro w S ⟨Z0,-⟩
  refine Sr<|Qs 1 r<|Nx<|Sr<|Qs 2 r<|Yo (Ln ke22 (Bc Z0) r)<|Qs 2 r<|Nx<|Sq<|Sr<|Qs 2 r<|Nx<|Wc r (fun H1=>Sr<|Qs 1 r<|Nx<|Wr<|Tr<|Re () []) fun H1=>Sn<|Sq<|Sr<|Qs 1 r<|Nx<|Ju [] (fun T=>[(1, iv T)]) r1 (?_) fun T4=>?_
  ·refine Wb<|Lu [0] (fun T=>[(1, iv T.1), (5, iv T.2)]) r1 fun S2=>Sq<|Sr<|Qs 2 r<|Yo (Ln ke22 (Bc Z0) r)<|Qs 1 r<|Nx<|Wc r (fun H6=>?_) fun H6=>?_
   ·exact Sn<|Sq<|Wb<|Sr<|Qs 2 r<|Bi fun E7 H8=>Yo (Ix ke22 (Bc Z0) H8 r)<|Yo (Le kk118 (Bc Z0) H8 r)<|Qs 1 r<|Bi fun R9 H10=>Fo (Cl [] laws_szKeySlot_c H10 r r1) fun _=>Qs 1 r<|Nx<|Sr<|Qs 2 r<|Nx<|Wc r (fun H12=>Sr<|Qs 1 r<|Nx<|Wr<|Br<|Tr<|Er<|Br<|Jd<|Tr<|Re () []) fun H12=>Sk<|Bn<|Ne<|Rg<|Qs 3 r<|Nl<|Lg () []
   exact Wx<|Tx<|Ex<|Be<|Jg () []
  exact Ne<|Sr<|Qs 2 r<|Nx<|Wr<|Re () []

/-- loop.example/g00950/laws.szKeyDev -/
noncomputable def laws_szKeyDev (a : KeyDev) (left : Int) : Option Int :=
  if (decide (IntKind.i64.wrap (left - ((a.Master.length : Nat) : Int)) < (0 : Int))) = true then (some (-1 : Int))
  else ((laws_szKeySlotS a.Slots (IntKind.i64.wrap (left - ((a.Master.length : Nat) : Int)))).bind fun R3 =>
  if (decide (R3 < (0 : Int))) = true then (some (-1 : Int))
  else (some R3))

theorem laws_szKeyDev_c {a : KeyDev} {left : Int} {U0 : Value} : Cn Tryz.prog 9 [.agg #[strV a.Master, U0, iv a.Wiped], iv left] [] [(U0, lc a.Slots)] (laws_szKeyDev a left) (fun r (_ : Unit) => iv r) fun _ _ => [] := by
  unfold laws_szKeyDev
  refine Ci Tryz.func9 r r ?_
  rintro w S ⟨Z0,-⟩
  exact Sr<|Fo (Bx r (Ca ⟨Op',Ob Z0,Op',⟨⟩⟩)) fun B1=>Qs 1 r<|Nx<|Sr<|Qs 1 r<|Yo (Fb kf24_0 r)<|Yo (Lb 0 kk9 r)<|Yo (Y.slen ks9 r)<|Qs 2 r<|Nx<|Sq<|Sr<|Qs 2 r<|Nx<|Wc r (fun H2=>Sr<|Qs 1 r<|Nx<|Wr<|Tr<|Re () []) fun H2=>Sn<|Sr<|Yo (Fb kf24_1 r)<|Yo (Lb 0 kk22 r)<|Qs 1 r<|Bi fun R3 H4=>Fo (Cl [] laws_szKeySlotS_c H4 r r1 ⟨(Bc Z0),⟨⟩⟩) fun _=>Qs 1 r<|Nx<|Sq<|Sr<|Qs 2 r<|Nx<|Wc r (fun H6=>Sr<|Qs 1 r<|Nx<|Wr<|Tr<|Re () []) fun H6=>Sn<|Sr<|Qs 2 r<|Nx<|Wr<|Re () []

/-- loop.example/g00950/laws.szShareS -/
noncomputable def laws_szShareS (a : List Share) (left : Int) : Option Int :=
  if (decide (IntKind.i64.wrap (left - ((a.length : Nat) : Int)) < (0 : Int))) = true then (some (-1 : Int))
  else (some (IntKind.i64.wrap (left - ((a.length : Nat) : Int))))

theorem laws_szShareS_c {a : List Share} {left : Int} {U0 : Value} : Cn Tryz.prog 33 [U0, iv left] [] [(U0, lc a)] (laws_szShareS a left) (fun r (_ : Unit) => iv r) fun _ _ => [] := by
  unfold laws_szShareS
  refine Ci Tryz.func33 r r ?_
  rintro w S ⟨Z0,-⟩
  exact Sr<|Qs 1 r<|Nx<|Sr<|Qs 2 r<|Yo (Ln ke25 (Bc Z0) r)<|Qs 2 r<|Nx<|Sq<|Sr<|Qs 2 r<|Nx<|Wc r (fun H1=>Sr<|Qs 1 r<|Nx<|Wr<|Tr<|Re () []) fun H1=>Sn<|Sr<|Qs 2 r<|Nx<|Wr<|Re () []

/-- loop.example/g00950/laws.szShares -/
noncomputable def laws_szShares (a : Shares) (left : Int) : Option Int :=
  (laws_szShareS a.List left).bind fun R2 =>
  if (decide (R2 < (0 : Int))) = true then (some (-1 : Int))
  else (some R2)

theorem laws_szShares_c {a : Shares} {left : Int} {U0 : Value} : Cn Tryz.prog 10 [.agg #[iv a.Size, U0], iv left] [] [(U0, lc a.List)] (laws_szShares a left) (fun r (_ : Unit) => iv r) fun _ _ => [] := by
  unfold laws_szShares
  refine Ci Tryz.func10 r r ?_
  rintro w S ⟨Z0,-⟩
  exact Sr<|Fo (Bx r (Ca ⟨Op',Ob Z0,⟨⟩⟩)) fun B1=>Qs 1 r<|Nx<|Sr<|Yo (Fb kf27_1 r)<|Yo (Lb 0 kk25 r)<|Qs 1 r<|Bi fun R2 H3=>Fo (Cl [] laws_szShareS_c H3 r r1 ⟨(Bc Z0),⟨⟩⟩) fun _=>Qs 1 r<|Nx<|Sq<|Sr<|Qs 2 r<|Nx<|Wc r (fun H5=>Sr<|Qs 1 r<|Nx<|Wr<|Tr<|Re () []) fun H5=>Sn<|Sr<|Qs 2 r<|Nx<|Wr<|Re () []

/-- loop.example/g00950/laws.szEnt -/
noncomputable def laws_szEnt (a : Ent) (left : Int) : Option Int :=
  if (decide (IntKind.i64.wrap (left - ((a.Key.length : Nat) : Int)) < (0 : Int))) = true then (some (-1 : Int))
  else (if (decide (IntKind.i64.wrap (IntKind.i64.wrap (left - ((a.Key.length : Nat) : Int)) - ((a.Val.length : Nat) : Int)) < (0 : Int))) = true then (some (-1 : Int))
  else (some (IntKind.i64.wrap (IntKind.i64.wrap (left - ((a.Key.length : Nat) : Int)) - ((a.Val.length : Nat) : Int)))))

theorem laws_szEnt_c {a : Ent} {left : Int} : Cn Tryz.prog 113 [.agg #[strV a.Key, iv a.Seq, .bool a.Del, strV a.Val], iv left] [] [] (laws_szEnt a left) (fun r (_ : Unit) => iv r) fun _ _ => [] := by
  unfold laws_szEnt
  refine Ci Tryz.func113 r r ?_
  rintro w S -
  exact Sr<|Fo (Bx r (Cp r)) fun B1=>Qs 1 r<|Nx<|Sr<|Qs 1 r<|Yo (Fb kf162_0 r)<|Yo (Lb 0 kk9 r)<|Yo (Y.slen ks9 r)<|Qs 2 r<|Nx<|Sq<|Sr<|Qs 2 r<|Nx<|Wc r (fun H2=>Sr<|Qs 1 r<|Nx<|Wr<|Tr<|Re () []) fun H2=>Sn<|Sr<|Qs 1 r<|Yo (Fb kf162_3 r)<|Yo (Lb 0 kk9 r)<|Yo (Y.slen ks9 r)<|Qs 2 r<|Nx<|Sq<|Sr<|Qs 2 r<|Nx<|Wc r (fun H3=>Sr<|Qs 1 r<|Nx<|Wr<|Tr<|Re () []) fun H3=>Sn<|Sr<|Qs 2 r<|Nx<|Wr<|Re () []

/-- loop.example/g00950/laws.szEntS -/
noncomputable def laws_szEntS (a : List Ent) (left : Int) : Option Int :=
  if (decide (IntKind.i64.wrap (left - ((a.length : Nat) : Int)) < (0 : Int))) = true then (some (-1 : Int))
  else (bindC (loopO (fun (S2 : Int × Int) => if (decide (S2.2 < ((a.length : Nat) : Int))) = true then ((idx a S2.2).bind fun E7 =>
  (laws_szEnt E7 S2.1).bind fun R9 =>
  if (decide (R9 < (0 : Int))) = true then (some (.done (.done (-1 : Int))))
  else (some (.go (R9, IntKind.i64.wrap (S2.2 + (1 : Int))))))
  else (some (.done (.go S2.1))))
  (IntKind.i64.wrap (left - ((a.length : Nat) : Int)), (0 : Int)))
  (fun (T4 : Int) => some T4))

theorem laws_szEntS_c {a : List Ent} {left : Int} {U0 : Value} : Cn Tryz.prog 84 [U0, iv left] [] [(U0, lc a)] (laws_szEntS a left) (fun r (_ : Unit) => iv r) fun _ _ => [] := by
  unfold laws_szEntS
  refine Ci Tryz.func84 r r ?_
  rintro w S ⟨Z0,-⟩
  refine Sr<|Qs 1 r<|Nx<|Sr<|Qs 2 r<|Yo (Ln ke83 (Bc Z0) r)<|Qs 2 r<|Nx<|Sq<|Sr<|Qs 2 r<|Nx<|Wc r (fun H1=>Sr<|Qs 1 r<|Nx<|Wr<|Tr<|Re () []) fun H1=>Sn<|Sq<|Sr<|Qs 1 r<|Nx<|Ju [] (fun T=>[(1, iv T)]) r1 (?_) fun T4=>?_
  ·refine Wb<|Lu [0] (fun T=>[(1, iv T.1), (5, iv T.2)]) r1 fun S2=>Sq<|Sr<|Qs 2 r<|Yo (Ln ke83 (Bc Z0) r)<|Qs 1 r<|Nx<|Wc r (fun H6=>?_) fun H6=>?_
   ·exact Sn<|Sq<|Wb<|Sr<|Qs 2 r<|Bi fun E7 H8=>Yo (Ix ke83 (Bc Z0) H8 r)<|Yo (Le kk162 (Bc Z0) H8 r)<|Qs 1 r<|Bi fun R9 H10=>Fo (Cl [] laws_szEnt_c H10 r r1) fun _=>Qs 1 r<|Nx<|Sr<|Qs 2 r<|Nx<|Wc r (fun H12=>Sr<|Qs 1 r<|Nx<|Wr<|Br<|Tr<|Er<|Br<|Jd<|Tr<|Re () []) fun H12=>Sk<|Bn<|Ne<|Rg<|Qs 3 r<|Nl<|Lg () []
   exact Wx<|Tx<|Ex<|Be<|Jg () []
  exact Ne<|Sr<|Qs 2 r<|Nx<|Wr<|Re () []

/-- loop.example/g00950/laws.szEntSS -/
noncomputable def laws_szEntSS (a : List (List Ent)) (left : Int) : Option Int :=
  if (decide (IntKind.i64.wrap (left - ((a.length : Nat) : Int)) < (0 : Int))) = true then (some (-1 : Int))
  else (bindC (loopO (fun (S2 : Int × Int) => if (decide (S2.2 < ((a.length : Nat) : Int))) = true then ((idx a S2.2).bind fun E7 =>
  (laws_szEntS E7 S2.1).bind fun R10 =>
  if (decide (R10 < (0 : Int))) = true then (some (.done (.done (-1 : Int))))
  else (some (.go (R10, IntKind.i64.wrap (S2.2 + (1 : Int))))))
  else (some (.done (.go S2.1))))
  (IntKind.i64.wrap (left - ((a.length : Nat) : Int)), (0 : Int)))
  (fun (T4 : Int) => some T4))

theorem laws_szEntSS_c {a : List (List Ent)} {left : Int} {U0 : Value} : Cn Tryz.prog 85 [U0, iv left] [] [(U0, lc a)] (laws_szEntSS a left) (fun r (_ : Unit) => iv r) fun _ _ => [] := by
  unfold laws_szEntSS
  refine Ci Tryz.func85 r r ?_
  rintro w S ⟨Z0,-⟩
  refine Sr<|Qs 1 r<|Nx<|Sr<|Qs 2 r<|Yo (Ln ke84 (Bc Z0) r)<|Qs 2 r<|Nx<|Sq<|Sr<|Qs 2 r<|Nx<|Wc r (fun H1=>Sr<|Qs 1 r<|Nx<|Wr<|Tr<|Re () []) fun H1=>Sn<|Sq<|Sr<|Qs 1 r<|Nx<|Ju [] (fun T=>[(1, iv T)]) r1 (?_) fun T4=>?_
  ·refine Wb<|Lu [0] (fun T=>[(1, iv T.1), (5, iv T.2)]) r1 fun S2=>Sq<|Sr<|Qs 2 r<|Yo (Ln ke84 (Bc Z0) r)<|Qs 1 r<|Nx<|Wc r (fun H6=>?_) fun H6=>?_
   ·refine Sn<|Sq<|Wb<|Sr<|Qs 2 r<|Bi fun E7 H8=>Yo (Ix ke84 (Bc Z0) H8 r)<|?_
    have Q9 : Base w S (elv w U0 (S2.2.toNat * 1 + 0)) (lc E7):=Base.el Z0 (idx_get H8).2.2 r r
    exact Yo (Lz kk83 Z0 H8 r)<|Qs 1 r<|Bi fun R10 H11=>Fo (Cl [] laws_szEntS_c H11 r r1 ⟨(Bc Q9),⟨⟩⟩) fun _=>Qs 1 r<|Nx<|Sr<|Qs 2 r<|Nx<|Wc r (fun H13=>Sr<|Qs 1 r<|Nx<|Wr<|Br<|Tr<|Er<|Br<|Jd<|Tr<|Re () []) fun H13=>Sk<|Bn<|Ne<|Rg<|Qs 3 r<|Nl<|Lg () []
   exact Wx<|Tx<|Ex<|Be<|Jg () []
  exact Ne<|Sr<|Qs 2 r<|Nx<|Wr<|Re () []

/-- loop.example/g00950/laws.szIntS -/
noncomputable def laws_szIntS (a : List Int) (left : Int) : Option Int :=
  if (decide (IntKind.i64.wrap (left - ((a.length : Nat) : Int)) < (0 : Int))) = true then (some (-1 : Int))
  else (some (IntKind.i64.wrap (left - ((a.length : Nat) : Int))))

theorem laws_szIntS_c {a : List Int} {left : Int} {U0 : Value} : Cn Tryz.prog 86 [U0, iv left] [] [(U0, lc a)] (laws_szIntS a left) (fun r (_ : Unit) => iv r) fun _ _ => [] := by
  unfold laws_szIntS
  refine Ci Tryz.func86 r r ?_
  rintro w S ⟨Z0,-⟩
  exact Sr<|Qs 1 r<|Nx<|Sr<|Qs 2 r<|Yo (Ln ke56 (Bc Z0) r)<|Qs 2 r<|Nx<|Sq<|Sr<|Qs 2 r<|Nx<|Wc r (fun H1=>Sr<|Qs 1 r<|Nx<|Wr<|Tr<|Re () []) fun H1=>Sn<|Sr<|Qs 2 r<|Nx<|Wr<|Re () []

/-- loop.example/g00950/laws.szEng -/
noncomputable def laws_szEng (a : Eng) (left : Int) : Option Int :=
  (laws_szEntS a.Mem left).bind fun R2 =>
  if (decide (R2 < (0 : Int))) = true then (some (-1 : Int))
  else ((laws_szEntSS a.Tables R2).bind fun R6 =>
  if (decide (R6 < (0 : Int))) = true then (some (-1 : Int))
  else ((laws_szIntS a.Snaps R6).bind fun R10 =>
  if (decide (R10 < (0 : Int))) = true then (some (-1 : Int))
  else (some R10)))

theorem laws_szEng_c {a : Eng} {left : Int} {U0 U1 U2 : Value} : Cn Tryz.prog 61 [.agg #[U0, U1, iv a.Seq, U2], iv left] [] [(U0, lc a.Mem), (U1, lc a.Tables), (U2, lc a.Snaps)] (laws_szEng a left) (fun r (_ : Unit) => iv r) fun _ _ => [] := by
  unfold laws_szEng
  refine Ci Tryz.func61 r r ?_
  rintro w S ⟨Z0,Z1,Z2,-⟩
  refine Sr<|Fo (Bx r (Ca ⟨Ob Z0,Ob Z1,Op',Ob Z2,⟨⟩⟩)) fun B1=>Qs 1 r<|Nx<|Sr<|Yo (Fb kf86_0 r)<|Yo (Lb 0 kk83 r)<|Qs 1 r<|Bi fun R2 H3=>Fo (Cl [] laws_szEntS_c H3 r r1 ⟨(Bc Z0),⟨⟩⟩) fun _=>Qs 1 r<|Nx<|Sq<|Sr<|Qs 2 r<|Nx<|Wc r (fun H5=>Sr<|Qs 1 r<|Nx<|Wr<|Tr<|Re () []) fun H5=>Sn<|Sr<|Yo (Fb kf86_1 r)<|Yo (Lb 0 kk84 r)<|Qs 1 r<|Bi fun R6 H7=>Fo (Cl [] laws_szEntSS_c H7 r r1 ⟨(Bc Z1),⟨⟩⟩) fun _=>Qs 1 r<|Nx<|Sq<|Sr<|Qs 2 r<|Nx<|Wc r (fun H9=>Sr<|Qs 1 r<|Nx<|Wr<|Tr<|Re () []) fun H9=>Sn<|Sr<|Yo (Fb kf86_3 r)<|Yo (Lb 0 kk56 r)<|Qs 1 r<|Bi fun R10 H11=>?_
  exact Fo (Cl [] laws_szIntS_c H11 r r1 ⟨(Bc Z2),⟨⟩⟩) fun _=>Qs 1 r<|Nx<|Sq<|Sr<|Qs 2 r<|Nx<|Wc r (fun H13=>Sr<|Qs 1 r<|Nx<|Wr<|Tr<|Re () []) fun H13=>Sn<|Sr<|Qs 2 r<|Nx<|Wr<|Re () []

/-- loop.example/g00950/laws.szSTen -/
noncomputable def laws_szSTen (a : STen) (left : Int) : Option Int :=
  (laws_szEng a.Eng left).bind fun R2 =>
  if (decide (R2 < (0 : Int))) = true then (some (-1 : Int))
  else (some R2)

theorem laws_szSTen_c {a : STen} {left : Int} {U0 U1 U2 : Value} : Cn Tryz.prog 34 [.agg #[iv a.Id, iv a.Epoch, iv a.Base, U0, U1, iv a.Eng.Seq, U2], iv left] [] [(U0, lc a.Eng.Mem), (U1, lc a.Eng.Tables), (U2, lc a.Eng.Snaps)] (laws_szSTen a left) (fun r (_ : Unit) => iv r) fun _ _ => [] := by
  unfold laws_szSTen
  refine Ci Tryz.func34 r r ?_
  rintro w S ⟨Z0,Z1,Z2,-⟩
  exact Sr<|Fo (Bx r (Ca ⟨Op',Op',Op',Ob Z0,Ob Z1,Op',Ob Z2,⟨⟩⟩)) fun B1=>Qs 1 r<|Nx<|Sr<|Yo (Fb kf88_3 r)<|Yo (Lb 0 kk86 r)<|Qs 1 r<|Bi fun R2 H3=>Fo (Cl [] laws_szEng_c H3 r r1 ⟨(Bc Z0),(Bc Z1),(Bc Z2),⟨⟩⟩) fun _=>Qs 1 r<|Nx<|Sq<|Sr<|Qs 2 r<|Nx<|Wc r (fun H5=>Sr<|Qs 1 r<|Nx<|Wr<|Tr<|Re () []) fun H5=>Sn<|Sr<|Qs 2 r<|Nx<|Wr<|Re () []

/-- loop.example/g00950/laws.szSTenS -/
noncomputable def laws_szSTenS (a : List STen) (left : Int) : Option Int :=
  if (decide (IntKind.i64.wrap (left - ((a.length : Nat) : Int)) < (0 : Int))) = true then (some (-1 : Int))
  else (bindC (loopO (fun (S2 : Int × Int) => if (decide (S2.2 < ((a.length : Nat) : Int))) = true then ((idx a S2.2).bind fun E7 =>
  (laws_szSTen E7 S2.1).bind fun R12 =>
  if (decide (R12 < (0 : Int))) = true then (some (.done (.done (-1 : Int))))
  else (some (.go (R12, IntKind.i64.wrap (S2.2 + (1 : Int))))))
  else (some (.done (.go S2.1))))
  (IntKind.i64.wrap (left - ((a.length : Nat) : Int)), (0 : Int)))
  (fun (T4 : Int) => some T4))

theorem laws_szSTenS_c {a : List STen} {left : Int} {U0 : Value} : Cn Tryz.prog 11 [U0, iv left] [] [(U0, lc a)] (laws_szSTenS a left) (fun r (_ : Unit) => iv r) fun _ _ => [] := by
  unfold laws_szSTenS
  refine Ci Tryz.func11 r r ?_
  rintro w S ⟨Z0,-⟩
  refine Sr<|Qs 1 r<|Nx<|Sr<|Qs 2 r<|Yo (Ln ke28 (Bc Z0) r)<|Qs 2 r<|Nx<|Sq<|Sr<|Qs 2 r<|Nx<|Wc r (fun H1=>Sr<|Qs 1 r<|Nx<|Wr<|Tr<|Re () []) fun H1=>Sn<|Sq<|Sr<|Qs 1 r<|Nx<|Ju [] (fun T=>[(1, iv T)]) r1 (?_) fun T4=>?_
  ·refine Wb<|Lu [0] (fun T=>[(1, iv T.1), (5, iv T.2)]) r1 fun S2=>Sq<|Sr<|Qs 2 r<|Yo (Ln ke28 (Bc Z0) r)<|Qs 1 r<|Nx<|Wc r (fun H6=>?_) fun H6=>?_
   ·refine Sn<|Sq<|Wb<|Sr<|Qs 2 r<|Bi fun E7 H8=>Yo (Ix ke28 (Bc Z0) H8 r)<|?_
    have Q9 : Base w S (elv w U0 (S2.2.toNat * 7 + 3)) (lc E7.Eng.Mem):=Base.el Z0 (idx_get H8).2.2 r r
    have Q10 : Base w S (elv w U0 (S2.2.toNat * 7 + 4)) (lc E7.Eng.Tables):=Base.el Z0 (idx_get H8).2.2 r r
    have Q11 : Base w S (elv w U0 (S2.2.toNat * 7 + 6)) (lc E7.Eng.Snaps):=Base.el Z0 (idx_get H8).2.2 r r
    exact Yo (Lz kk88 Z0 H8 r)<|Qs 1 r<|Bi fun R12 H13=>Fo (Cl [] laws_szSTen_c H13 r r1 ⟨(Bc Q9),(Bc Q10),(Bc Q11),⟨⟩⟩) fun _=>Qs 1 r<|Nx<|Sr<|Qs 2 r<|Nx<|Wc r (fun H15=>Sr<|Qs 1 r<|Nx<|Wr<|Br<|Tr<|Er<|Br<|Jd<|Tr<|Re () []) fun H15=>Sk<|Bn<|Ne<|Rg<|Qs 3 r<|Nl<|Lg () []
   exact Wx<|Tx<|Ex<|Be<|Jg () []
  exact Ne<|Sr<|Qs 2 r<|Nx<|Wr<|Re () []

/-- loop.example/g00950/laws.szLogRow -/
noncomputable def laws_szLogRow (a : LogRow) (left : Int) : Option Int :=
  if (decide (IntKind.i64.wrap (left - ((a.Text.length : Nat) : Int)) < (0 : Int))) = true then (some (-1 : Int))
  else (some (IntKind.i64.wrap (left - ((a.Text.length : Nat) : Int))))

theorem laws_szLogRow_c {a : LogRow} {left : Int} : Cn Tryz.prog 35 [.agg #[iv a.Tenant, iv a.Boot, iv a.Seq, strV a.Text, .bool a.Synced], iv left] [] [] (laws_szLogRow a left) (fun r (_ : Unit) => iv r) fun _ _ => [] := by
  unfold laws_szLogRow
  refine Ci Tryz.func35 r r ?_
  rintro w S -
  exact Sr<|Fo (Bx r (Cp r)) fun B1=>Qs 1 r<|Nx<|Sr<|Qs 1 r<|Yo (Fb kf90_3 r)<|Yo (Lb 0 kk9 r)<|Yo (Y.slen ks9 r)<|Qs 2 r<|Nx<|Sq<|Sr<|Qs 2 r<|Nx<|Wc r (fun H2=>Sr<|Qs 1 r<|Nx<|Wr<|Tr<|Re () []) fun H2=>Sn<|Sr<|Qs 2 r<|Nx<|Wr<|Re () []

/-- loop.example/g00950/laws.szLogRowS -/
noncomputable def laws_szLogRowS (a : List LogRow) (left : Int) : Option Int :=
  if (decide (IntKind.i64.wrap (left - ((a.length : Nat) : Int)) < (0 : Int))) = true then (some (-1 : Int))
  else (bindC (loopO (fun (S2 : Int × Int) => if (decide (S2.2 < ((a.length : Nat) : Int))) = true then ((idx a S2.2).bind fun E7 =>
  (laws_szLogRow E7 S2.1).bind fun R9 =>
  if (decide (R9 < (0 : Int))) = true then (some (.done (.done (-1 : Int))))
  else (some (.go (R9, IntKind.i64.wrap (S2.2 + (1 : Int))))))
  else (some (.done (.go S2.1))))
  (IntKind.i64.wrap (left - ((a.length : Nat) : Int)), (0 : Int)))
  (fun (T4 : Int) => some T4))

theorem laws_szLogRowS_c {a : List LogRow} {left : Int} {U0 : Value} : Cn Tryz.prog 12 [U0, iv left] [] [(U0, lc a)] (laws_szLogRowS a left) (fun r (_ : Unit) => iv r) fun _ _ => [] := by
  unfold laws_szLogRowS
  refine Ci Tryz.func12 r r ?_
  rintro w S ⟨Z0,-⟩
  refine Sr<|Qs 1 r<|Nx<|Sr<|Qs 2 r<|Yo (Ln ke29 (Bc Z0) r)<|Qs 2 r<|Nx<|Sq<|Sr<|Qs 2 r<|Nx<|Wc r (fun H1=>Sr<|Qs 1 r<|Nx<|Wr<|Tr<|Re () []) fun H1=>Sn<|Sq<|Sr<|Qs 1 r<|Nx<|Ju [] (fun T=>[(1, iv T)]) r1 (?_) fun T4=>?_
  ·refine Wb<|Lu [0] (fun T=>[(1, iv T.1), (5, iv T.2)]) r1 fun S2=>Sq<|Sr<|Qs 2 r<|Yo (Ln ke29 (Bc Z0) r)<|Qs 1 r<|Nx<|Wc r (fun H6=>?_) fun H6=>?_
   ·exact Sn<|Sq<|Wb<|Sr<|Qs 2 r<|Bi fun E7 H8=>Yo (Ix ke29 (Bc Z0) H8 r)<|Yo (Le kk90 (Bc Z0) H8 r)<|Qs 1 r<|Bi fun R9 H10=>Fo (Cl [] laws_szLogRow_c H10 r r1) fun _=>Qs 1 r<|Nx<|Sr<|Qs 2 r<|Nx<|Wc r (fun H12=>Sr<|Qs 1 r<|Nx<|Wr<|Br<|Tr<|Er<|Br<|Jd<|Tr<|Re () []) fun H12=>Sk<|Bn<|Ne<|Rg<|Qs 3 r<|Nl<|Lg () []
   exact Wx<|Tx<|Ex<|Be<|Jg () []
  exact Ne<|Sr<|Qs 2 r<|Nx<|Wr<|Re () []

/-- loop.example/g00950/laws.szStore -/
noncomputable def laws_szStore (a : Store) (left : Int) : Option Int :=
  if (decide (IntKind.i64.wrap (left - ((a.Secret.length : Nat) : Int)) < (0 : Int))) = true then (some (-1 : Int))
  else ((laws_szKeyDev a.Keys (IntKind.i64.wrap (left - ((a.Secret.length : Nat) : Int)))).bind fun R3 =>
  if (decide (R3 < (0 : Int))) = true then (some (-1 : Int))
  else ((laws_szShares a.Shares R3).bind fun R7 =>
  if (decide (R7 < (0 : Int))) = true then (some (-1 : Int))
  else ((laws_szSTenS a.Tens R7).bind fun R11 =>
  if (decide (R11 < (0 : Int))) = true then (some (-1 : Int))
  else ((laws_szLogRowS a.Rows R11).bind fun R15 =>
  if (decide (R15 < (0 : Int))) = true then (some (-1 : Int))
  else ((laws_szLogRowS a.Hist R15).bind fun R19 =>
  if (decide (R19 < (0 : Int))) = true then (some (-1 : Int))
  else (some R19))))))

theorem laws_szStore_c {a : Store} {left : Int} {U0 U1 U2 U3 U4 : Value} : Cn Tryz.prog 4 [.agg #[strV a.Secret, strV a.Keys.Master, U0, iv a.Keys.Wiped, iv a.Shares.Size, U1, U2, U3, U4, iv a.Boot], iv left] [] [(U0, lc a.Keys.Slots), (U1, lc a.Shares.List), (U2, lc a.Tens), (U3, lc a.Rows), (U4, lc a.Hist)] (laws_szStore a left) (fun r (_ : Unit) => iv r) fun _ _ => [] := by
  unfold laws_szStore
  refine Ci Tryz.func4 r r ?_
  rintro w S ⟨Z0,Z1,Z2,Z3,Z4,-⟩
  refine Sr<|Fo (Bx r (Ca ⟨Op',Op',Ob Z0,Op',Op',Ob Z1,Ob Z2,Ob Z3,Ob Z4,Op',⟨⟩⟩)) fun B1=>Qs 1 r<|Nx<|Sr<|Qs 1 r<|Yo (Fb kf31_0 r)<|Yo (Lb 0 kk9 r)<|Yo (Y.slen ks9 r)<|Qs 2 r<|Nx<|Sq<|Sr<|Qs 2 r<|Nx<|Wc r (fun H2=>Sr<|Qs 1 r<|Nx<|Wr<|Tr<|Re () []) fun H2=>Sn<|Sr<|Yo (Fb kf31_1 r)<|Yo (Lb 0 kk24 r)<|Qs 1 r<|Bi fun R3 H4=>Fo (Cl [] laws_szKeyDev_c H4 r r1 ⟨(Bc Z0),⟨⟩⟩) fun _=>Qs 1 r<|Nx<|Sq<|Sr<|Qs 2 r<|Nx<|Wc r (fun H6=>Sr<|Qs 1 r<|Nx<|Wr<|Tr<|Re () []) fun H6=>Sn<|Sr<|Yo (Fb kf31_2 r)<|Yo (Lb 0 kk27 r)<|Qs 1 r<|Bi fun R7 H8=>?_
  refine Fo (Cl [] laws_szShares_c H8 r r1 ⟨(Bc Z1),⟨⟩⟩) fun _=>Qs 1 r<|Nx<|Sq<|Sr<|Qs 2 r<|Nx<|Wc r (fun H10=>Sr<|Qs 1 r<|Nx<|Wr<|Tr<|Re () []) fun H10=>Sn<|Sr<|Yo (Fb kf31_3 r)<|Yo (Lb 0 kk28 r)<|Qs 1 r<|Bi fun R11 H12=>Fo (Cl [] laws_szSTenS_c H12 r r1 ⟨(Bc Z2),⟨⟩⟩) fun _=>Qs 1 r<|Nx<|Sq<|Sr<|Qs 2 r<|Nx<|Wc r (fun H14=>Sr<|Qs 1 r<|Nx<|Wr<|Tr<|Re () []) fun H14=>Sn<|Sr<|Yo (Fb kf31_4 r)<|Yo (Lb 0 kk29 r)<|Qs 1 r<|Bi fun R15 H16=>Fo (Cl [] laws_szLogRowS_c H16 r r1 ⟨(Bc Z3),⟨⟩⟩) fun _=>Qs 1 r<|Nx<|Sq<|Sr<|Qs 2 r<|Nx<|Wc r (fun H18=>Sr<|Qs 1 r<|Nx<|Wr<|Tr<|Re () []) fun H18=>?_
  exact Sn<|Sr<|Yo (Fb kf31_5 r)<|Yo (Lb 0 kk29 r)<|Qs 1 r<|Bi fun R19 H20=>Fo (Cl [] laws_szLogRowS_c H20 r r1 ⟨(Bc Z4),⟨⟩⟩) fun _=>Qs 1 r<|Nx<|Sq<|Sr<|Qs 2 r<|Nx<|Wc r (fun H22=>Sr<|Qs 1 r<|Nx<|Wr<|Tr<|Re () []) fun H22=>Sn<|Sr<|Qs 2 r<|Nx<|Wr<|Re () []

/-- loop.example/g00950/laws.toKeySlot -/
noncomputable def laws_toKeySlot (a : KeySlot) : Option KeySlot :=
  some a

theorem laws_toKeySlot_c {a : KeySlot} : Cn Tryz.prog 72 [.agg #[iv a.Tenant, strV a.Key]] [] [] (laws_toKeySlot a) (fun r (_ : Unit) => .agg #[iv r.Tenant, strV r.Key]) fun _ _ => [] := by
  unfold laws_toKeySlot
  refine Ci Tryz.func72 r r ?_
  rintro w S -
  exact Sr<|Fo (Bx r (Cp r)) fun B1=>Fo (Al kz62 r) fun B2=>Nx<|Sr<|Fo (Al kz62 r) fun B3=>Nx<|Sr<|Yo (Fb kf118_0 r)<|Yo (Lb 2 kk3 r)<|Yo (Fb kf62_0 r)<|Fu (Sb 0 kk3 r (Cp r) r)<|Nx<|Sr<|Yo (Fb kf118_1 r)<|Yo (Lb 2 kk9 r)<|Yo (Fb kf62_1 r)<|Fu (Sb 0 kk9 r (Cp r) r)<|Nx<|Sr<|Yo (Lb 0 kk62 r)<|Fu (Sb 1 kk62 r (Cp r) r)<|Nx<|Wr<|TE.leaf fun _ _ hf_ hs_ => ret_any (rs := [.cell 2 62]) (vs := [.agg #[iv a.Tenant, strV a.Key]]) (.inl r) r (RV.cell 1 r r kk62 r ⟨⟩) hf_ hs_ ⟨(), r, hs_.pulls [] r⟩

/-- loop.example/g00950/laws.toKeySlotS -/
noncomputable def laws_toKeySlotS (a : List KeySlot) : Option (List KeySlot) :=
  (mkLen 24 ((a.length : Nat) : Int)).bind fun E2 =>
  bindC (loopO (fun (S4 : Int × List KeySlot) => if (decide (S4.1 < ((a.length : Nat) : Int))) = true then ((idx a S4.1).bind fun E9 =>
  (laws_toKeySlot E9).bind fun R11 =>
  (idx S4.2 S4.1).bind fun E14 =>
  some (.go (IntKind.i64.wrap (S4.1 + (1 : Int)), (S4.2.set S4.1.toNat R11))))
  else (some (.done (.go S4.2))))
  ((0 : Int), (List.replicate E2 ({ Tenant := (0 : Int), Key := [] : KeySlot } : KeySlot))))
  (fun (T6 : List KeySlot) => some T6)

theorem laws_toKeySlotS_c {a : List KeySlot} {U0 : Value} : Cn Tryz.prog 43 [U0] [] [(U0, lc a)] (laws_toKeySlotS a) (fun _ (X : Value) => X) fun r X => [.own X (lc r)] := by
  unfold laws_toKeySlotS
  refine Ci Tryz.func43 r r ?_
  rintro w S ⟨Z0,-⟩
  refine Sr<|Qs 1 r<|Nx<|Sr<|Qs 1 r<|Yo (Ln ke22 (Bc Z0) r)<|Bi fun E2 H3=>Fo (Mk ({ Tenant := (0 : Int), Key := [] : KeySlot } : KeySlot) H3 ke34 kz62) fun V1=>Qs 1 r<|Nx<|Sq<|Sr<|Qs 1 r<|Nx<|Jn Unit [3] [] (fun _ _=>[]) (fun T _=>[.own V1 (lc T)]) r2 r2 (?_) fun T6 X7=>?_
  ·refine Wb<|Lp Unit [0,3] [] (fun T _=>[(4, iv T.1)]) (fun T _=>[.own V1 (lc T.2)]) () [0] r2 r2 fun S4 X5=>Sq<|Sr<|Qs 2 r<|Yo (Ln ke22 (Bc Z0) r)<|Qs 1 r<|Nx<|Wc r (fun H8=>?_) fun H8=>?_
   ·exact Sn<|Sq<|Wb<|Rg<|Qs 4 r<|Bi fun E9 H10=>Yo (Ix ke22 (Bc Z0) H10 r)<|Yo (Le kk118 (Bc Z0) H10 r)<|Bi fun R11 H12=>Fo (Cl [] laws_toKeySlot_c H12 r r1) fun _=>Bi fun E14 H15=>Yo (Ix ke34 (Oc 0 r) H15 r)<|Fu (Se R11 0 kk62 H15 r (Cp r) r)<|Nl<|Bn<|Ne<|Rg<|Qs 3 r<|Nl<|Lg () [0]
   exact Wx<|Tx<|Ex<|Be<|Jg () [0]
  exact Ne<|Sr<|Qs 2 r<|Nx<|Wr<|Re V1 [0]

/-- loop.example/g00950/laws.toKeyDev -/
noncomputable def laws_toKeyDev (a : KeyDev) : Option KeyDev :=
  (laws_toKeySlotS a.Slots).bind fun R4 =>
  some ({ Master := a.Master, Slots := R4, Wiped := a.Wiped : KeyDev })

theorem laws_toKeyDev_c {a : KeyDev} {U0 : Value} : Cn Tryz.prog 19 [.agg #[strV a.Master, U0, iv a.Wiped]] [] [(U0, lc a.Slots)] (laws_toKeyDev a) (fun r (X : Value) => .agg #[strV r.Master, X, iv r.Wiped]) fun r X => [.own X (lc r.Slots)] := by
  unfold laws_toKeyDev
  refine Ci Tryz.func19 r r ?_
  rintro w S ⟨Z0,-⟩
  exact Sr<|Fo (Bx r (Ca ⟨Op',Ob Z0,Op',⟨⟩⟩)) fun B1=>Fo (Al kz36 r) fun B2=>Nx<|Sr<|Fo (Al kz36 r) fun B3=>Nx<|Sr<|Yo (Fb kf24_0 r)<|Yo (Lb 2 kk9 r)<|Yo (Fb kf36_0 r)<|Fu (Sb 0 kk9 r (Cp r) r)<|Nx<|Sr<|Yo (Fb kf24_1 r)<|Yo (Lb 2 kk22 r)<|Bi fun R4 H5=>Fo (Cl [] laws_toKeySlotS_c H5 r r1 ⟨(Bc Z0),⟨⟩⟩) fun Y6=>Yo (Fb kf36_1 r)<|Fu (Sb 1 kk34 r (Co 0) r)<|Nx<|Sr<|Yo (Fb kf24_2 r)<|Yo (Lb 3 kk3 r)<|Yo (Fb kf36_2 r)<|Fu (Sb 1 kk3 r (Cp r) r)<|Nx<|Sr<|Yo (Lb 1 kk36 r)<|Fu (Sb 2 kk36 r (Ca ⟨Op',Ow' 0,Op',⟨⟩⟩) r)<|Nx<|Wr<|TE.leaf fun _ _ hf_ hs_ => ret_any (rs := [.cell 2 36]) (vs := [.agg #[strV a.Master, Y6, iv a.Wiped]]) (.inl r) r (RV.cell 2 r r kk36 r ⟨⟩) hf_ hs_ ⟨Y6, r, hs_.pulls [0] r⟩

/-- loop.example/g00950/laws.toShare -/
noncomputable def laws_toShare (a : Share) : Option Share :=
  some a

theorem laws_toShare_c {a : Share} : Cn Tryz.prog 73 [.agg #[iv a.Tenant, iv a.Quota]] [] [] (laws_toShare a) (fun r (_ : Unit) => .agg #[iv r.Tenant, iv r.Quota]) fun _ _ => [] := by
  unfold laws_toShare
  refine Ci Tryz.func73 r r ?_
  rintro w S -
  exact Sr<|Fo (Bx r (Cp r)) fun B1=>Fo (Al kz64 r) fun B2=>Nx<|Sr<|Fo (Al kz64 r) fun B3=>Nx<|Sr<|Yo (Fb kf133_0 r)<|Yo (Lb 2 kk3 r)<|Yo (Fb kf64_0 r)<|Fu (Sb 0 kk3 r (Cp r) r)<|Nx<|Sr<|Yo (Fb kf133_1 r)<|Yo (Lb 2 kk3 r)<|Yo (Fb kf64_1 r)<|Fu (Sb 0 kk3 r (Cp r) r)<|Nx<|Sr<|Yo (Lb 0 kk64 r)<|Fu (Sb 1 kk64 r (Cp r) r)<|Nx<|Wr<|TE.leaf fun _ _ hf_ hs_ => ret_any (rs := [.cell 2 64]) (vs := [.agg #[iv a.Tenant, iv a.Quota]]) (.inl r) r (RV.cell 1 r r kk64 r ⟨⟩) hf_ hs_ ⟨(), r, hs_.pulls [] r⟩

/-- loop.example/g00950/laws.toShareS -/
noncomputable def laws_toShareS (a : List Share) : Option (List Share) :=
  (mkLen 16 ((a.length : Nat) : Int)).bind fun E2 =>
  bindC (loopO (fun (S4 : Int × List Share) => if (decide (S4.1 < ((a.length : Nat) : Int))) = true then ((idx a S4.1).bind fun E9 =>
  (laws_toShare E9).bind fun R11 =>
  (idx S4.2 S4.1).bind fun E14 =>
  some (.go (IntKind.i64.wrap (S4.1 + (1 : Int)), (S4.2.set S4.1.toNat R11))))
  else (some (.done (.go S4.2))))
  ((0 : Int), (List.replicate E2 ({ Tenant := (0 : Int), Quota := (0 : Int) : Share } : Share))))
  (fun (T6 : List Share) => some T6)

theorem laws_toShareS_c {a : List Share} {U0 : Value} : Cn Tryz.prog 44 [U0] [] [(U0, lc a)] (laws_toShareS a) (fun _ (X : Value) => X) fun r X => [.own X (lc r)] := by
  unfold laws_toShareS
  refine Ci Tryz.func44 r r ?_
  rintro w S ⟨Z0,-⟩
  refine Sr<|Qs 1 r<|Nx<|Sr<|Qs 1 r<|Yo (Ln ke25 (Bc Z0) r)<|Bi fun E2 H3=>Fo (Mk ({ Tenant := (0 : Int), Quota := (0 : Int) : Share } : Share) H3 ke37 kz64) fun V1=>Qs 1 r<|Nx<|Sq<|Sr<|Qs 1 r<|Nx<|Jn Unit [3] [] (fun _ _=>[]) (fun T _=>[.own V1 (lc T)]) r2 r2 (?_) fun T6 X7=>?_
  ·refine Wb<|Lp Unit [0,3] [] (fun T _=>[(4, iv T.1)]) (fun T _=>[.own V1 (lc T.2)]) () [0] r2 r2 fun S4 X5=>Sq<|Sr<|Qs 2 r<|Yo (Ln ke25 (Bc Z0) r)<|Qs 1 r<|Nx<|Wc r (fun H8=>?_) fun H8=>?_
   ·exact Sn<|Sq<|Wb<|Rg<|Qs 4 r<|Bi fun E9 H10=>Yo (Ix ke25 (Bc Z0) H10 r)<|Yo (Le kk133 (Bc Z0) H10 r)<|Bi fun R11 H12=>Fo (Cl [] laws_toShare_c H12 r r1) fun _=>Bi fun E14 H15=>Yo (Ix ke37 (Oc 0 r) H15 r)<|Fu (Se R11 0 kk64 H15 r (Cp r) r)<|Nl<|Bn<|Ne<|Rg<|Qs 3 r<|Nl<|Lg () [0]
   exact Wx<|Tx<|Ex<|Be<|Jg () [0]
  exact Ne<|Sr<|Qs 2 r<|Nx<|Wr<|Re V1 [0]

/-- loop.example/g00950/laws.toShares -/
noncomputable def laws_toShares (a : Shares) : Option Shares :=
  (laws_toShareS a.List).bind fun R4 =>
  some ({ Size := a.Size, List := R4 : Shares })

theorem laws_toShares_c {a : Shares} {U0 : Value} : Cn Tryz.prog 20 [.agg #[iv a.Size, U0]] [] [(U0, lc a.List)] (laws_toShares a) (fun r (X : Value) => .agg #[iv r.Size, X]) fun r X => [.own X (lc r.List)] := by
  unfold laws_toShares
  refine Ci Tryz.func20 r r ?_
  rintro w S ⟨Z0,-⟩
  exact Sr<|Fo (Bx r (Ca ⟨Op',Ob Z0,⟨⟩⟩)) fun B1=>Fo (Al kz39 r) fun B2=>Nx<|Sr<|Fo (Al kz39 r) fun B3=>Nx<|Sr<|Yo (Fb kf27_0 r)<|Yo (Lb 2 kk3 r)<|Yo (Fb kf39_0 r)<|Fu (Sb 0 kk3 r (Cp r) r)<|Nx<|Sr<|Yo (Fb kf27_1 r)<|Yo (Lb 2 kk25 r)<|Bi fun R4 H5=>Fo (Cl [] laws_toShareS_c H5 r r1 ⟨(Bc Z0),⟨⟩⟩) fun Y6=>Yo (Fb kf39_1 r)<|Fu (Sb 1 kk37 r (Co 0) r)<|Nx<|Sr<|Yo (Lb 1 kk39 r)<|Fu (Sb 2 kk39 r (Ca ⟨Op',Ow' 0,⟨⟩⟩) r)<|Nx<|Wr<|TE.leaf fun _ _ hf_ hs_ => ret_any (rs := [.cell 2 39]) (vs := [.agg #[iv a.Size, Y6]]) (.inl r) r (RV.cell 2 r r kk39 r ⟨⟩) hf_ hs_ ⟨Y6, r, hs_.pulls [0] r⟩

/-- loop.example/g00950/laws.toEnt -/
noncomputable def laws_toEnt (a : Ent) : Option Ent :=
  some a

theorem laws_toEnt_c {a : Ent} : Cn Tryz.prog 118 [.agg #[strV a.Key, iv a.Seq, .bool a.Del, strV a.Val]] [] [] (laws_toEnt a) (fun r (_ : Unit) => .agg #[strV r.Key, iv r.Seq, .bool r.Del, strV r.Val]) fun _ _ => [] := by
  unfold laws_toEnt
  refine Ci Tryz.func118 r r ?_
  rintro w S -
  exact Sr<|Fo (Bx r (Cp r)) fun B1=>Fo (Al kz102 r) fun B2=>Nx<|Sr<|Fo (Al kz102 r) fun B3=>Nx<|Sr<|Yo (Fb kf162_0 r)<|Yo (Lb 2 kk9 r)<|Yo (Fb kf102_0 r)<|Fu (Sb 0 kk9 r (Cp r) r)<|Nx<|Sr<|Yo (Fb kf162_1 r)<|Yo (Lb 2 kk3 r)<|Yo (Fb kf102_1 r)<|Fu (Sb 0 kk3 r (Cp r) r)<|Nx<|Sr<|Yo (Fb kf162_2 r)<|Yo (Lb 2 kk4 r)<|Yo (Fb kf102_2 r)<|Fu (Sb 0 kk4 r (Cp r) r)<|Nx<|Sr<|Yo (Fb kf162_3 r)<|Yo (Lb 2 kk9 r)<|Yo (Fb kf102_3 r)<|Fu (Sb 0 kk9 r (Cp r) r)<|Nx<|Sr<|Yo (Lb 0 kk102 r)<|Fu (Sb 1 kk102 r (Cp r) r)<|Nx<|Wr<|TE.leaf fun _ _ hf_ hs_ => ret_any (rs := [.cell 2 102]) (vs := [.agg #[strV a.Key, iv a.Seq, .bool a.Del, strV a.Val]]) (.inl r) r (RV.cell 1 r r kk102 r ⟨⟩) hf_ hs_ ⟨(), r, hs_.pulls [] r⟩

/-- loop.example/g00950/laws.toEntS -/
noncomputable def laws_toEntS (a : List Ent) : Option (List Ent) :=
  (mkLen 48 ((a.length : Nat) : Int)).bind fun E2 =>
  bindC (loopO (fun (S4 : Int × List Ent) => if (decide (S4.1 < ((a.length : Nat) : Int))) = true then ((idx a S4.1).bind fun E9 =>
  (laws_toEnt E9).bind fun R11 =>
  (idx S4.2 S4.1).bind fun E14 =>
  some (.go (IntKind.i64.wrap (S4.1 + (1 : Int)), (S4.2.set S4.1.toNat R11))))
  else (some (.done (.go S4.2))))
  ((0 : Int), (List.replicate E2 ({ Key := [], Seq := (0 : Int), Del := false, Val := [] : Ent } : Ent))))
  (fun (T6 : List Ent) => some T6)

theorem laws_toEntS_c {a : List Ent} {U0 : Value} : Cn Tryz.prog 93 [U0] [] [(U0, lc a)] (laws_toEntS a) (fun _ (X : Value) => X) fun r X => [.own X (lc r)] := by
  unfold laws_toEntS
  refine Ci Tryz.func93 r r ?_
  rintro w S ⟨Z0,-⟩
  refine Sr<|Qs 1 r<|Nx<|Sr<|Qs 1 r<|Yo (Ln ke83 (Bc Z0) r)<|Bi fun E2 H3=>Fo (Mk ({ Key := [], Seq := (0 : Int), Del := false, Val := [] : Ent } : Ent) H3 ke54 kz102) fun V1=>Qs 1 r<|Nx<|Sq<|Sr<|Qs 1 r<|Nx<|Jn Unit [3] [] (fun _ _=>[]) (fun T _=>[.own V1 (lc T)]) r2 r2 (?_) fun T6 X7=>?_
  ·refine Wb<|Lp Unit [0,3] [] (fun T _=>[(4, iv T.1)]) (fun T _=>[.own V1 (lc T.2)]) () [0] r2 r2 fun S4 X5=>Sq<|Sr<|Qs 2 r<|Yo (Ln ke83 (Bc Z0) r)<|Qs 1 r<|Nx<|Wc r (fun H8=>?_) fun H8=>?_
   ·exact Sn<|Sq<|Wb<|Rg<|Qs 4 r<|Bi fun E9 H10=>Yo (Ix ke83 (Bc Z0) H10 r)<|Yo (Le kk162 (Bc Z0) H10 r)<|Bi fun R11 H12=>Fo (Cl [] laws_toEnt_c H12 r r1) fun _=>Bi fun E14 H15=>Yo (Ix ke54 (Oc 0 r) H15 r)<|Fu (Se R11 0 kk102 H15 r (Cp r) r)<|Nl<|Bn<|Ne<|Rg<|Qs 3 r<|Nl<|Lg () [0]
   exact Wx<|Tx<|Ex<|Be<|Jg () [0]
  exact Ne<|Sr<|Qs 2 r<|Nx<|Wr<|Re V1 [0]

/-- loop.example/g00950/laws.toEntSS -/
noncomputable def laws_toEntSS (a : List (List Ent)) : Option (List (List Ent)) :=
  (mkLen 24 ((a.length : Nat) : Int)).bind fun E2 =>
  bindC (loopO (fun (S4 : Int × List (List Ent)) => if (decide (S4.1 < ((a.length : Nat) : Int))) = true then ((idx a S4.1).bind fun E9 =>
  (laws_toEntS E9).bind fun R12 =>
  (idx S4.2 S4.1).bind fun E15 =>
  some (.go (IntKind.i64.wrap (S4.1 + (1 : Int)), (S4.2.set S4.1.toNat R12))))
  else (some (.done (.go S4.2))))
  ((0 : Int), (List.replicate E2 ([] : List Ent))))
  (fun (T6 : List (List Ent)) => some T6)

theorem laws_toEntSS_c {a : List (List Ent)} {U0 : Value} : Cn Tryz.prog 94 [U0] [] [(U0, lc a)] (laws_toEntSS a) (fun _ (X : Value) => X) fun r X => [.own X (lc r)] := by
  unfold laws_toEntSS
  refine Ci Tryz.func94 r r ?_
  rintro w S ⟨Z0,-⟩
  refine Sr<|Qs 1 r<|Nx<|Sr<|Qs 1 r<|Yo (Ln ke84 (Bc Z0) r)<|Bi fun E2 H3=>Fo (Ef.makeN (α := List Ent) (z := ([] : List Ent)) (zs := [.slice none 0 0]) H3 ke55 kz54 r r r r r) fun V1=>Qs 1 r<|Nx<|Sq<|Sr<|Qs 1 r<|Nx<|Jn Unit [3] [] (fun _ _=>[]) (fun T _=>[.own V1 (lc T)]) r2 r2 (?_) fun T6 X7=>?_
  ·refine Wb<|Lp Unit [0,3] [] (fun T _=>[(4, iv T.1)]) (fun T _=>[.own V1 (lc T.2)]) () [0] r2 r2 fun S4 X5=>Sq<|Sr<|Qs 2 r<|Yo (Ln ke84 (Bc Z0) r)<|Qs 1 r<|Nx<|Wc r (fun H8=>?_) fun H8=>?_
   ·refine Sn<|Sq<|Wb<|Rg<|Qs 4 r<|Bi fun E9 H10=>Yo (Ix ke84 (Bc Z0) H10 r)<|?_
    have Q11 : Base w S (elv w U0 (S4.1.toNat * 1 + 0)) (lc E9):=Base.el Z0 (idx_get H10).2.2 r r
    exact Yo (Lz kk83 Z0 H10 r)<|Bi fun R12 H13=>Fo (Cl [] laws_toEntS_c H13 r r1 ⟨(Bc Q11),⟨⟩⟩) fun Y14=>Bi fun E15 H16=>Yo (Ix ke55 (Oc 1 r) H16 r)<|Gt (X := Value) (Ho 1 [1] H16 r r1) fun X17=>Fu (Sh 0 [.raw Y14] kk54 H16 r (Co 2) r)<|Nl<|Bn<|Ne<|Rg<|Qs 3 r<|Nl<|Ke (Hc [0, 1] R12 H16 r (Cf Cz))<|Lg () [0]
   exact Wx<|Tx<|Ex<|Be<|Jg () [0]
  exact Ne<|Sr<|Qs 2 r<|Nx<|Wr<|Re V1 [0]

/-- loop.example/g00950/laws.toIntS -/
noncomputable def laws_toIntS (a : List Int) : Option (List Int) :=
  (mkLen 8 ((a.length : Nat) : Int)).bind fun E2 =>
  bindC (loopO (fun (S4 : Int × List Int) => if (decide (S4.1 < ((a.length : Nat) : Int))) = true then ((idx a S4.1).bind fun E9 =>
  (idx S4.2 S4.1).bind fun E11 =>
  some (.go (IntKind.i64.wrap (S4.1 + (1 : Int)), (S4.2.set S4.1.toNat E9))))
  else (some (.done (.go S4.2))))
  ((0 : Int), (List.replicate E2 (0 : Int))))
  (fun (T6 : List Int) => some T6)

theorem laws_toIntS_c {a : List Int} {U0 : Value} : Cn Tryz.prog 95 [U0] [] [(U0, lc a)] (laws_toIntS a) (fun _ (X : Value) => X) fun r X => [.own X (lc r)] := by
  unfold laws_toIntS
  refine Ci Tryz.func95 r r ?_
  rintro w S ⟨Z0,-⟩
  refine Sr<|Qs 1 r<|Nx<|Sr<|Qs 1 r<|Yo (Ln ke56 (Bc Z0) r)<|Bi fun E2 H3=>Fo (Mk (0 : Int) H3 ke56 kz3) fun V1=>Qs 1 r<|Nx<|Sq<|Sr<|Qs 1 r<|Nx<|Jn Unit [3] [] (fun _ _=>[]) (fun T _=>[.own V1 (lc T)]) r2 r2 (?_) fun T6 X7=>?_
  ·exact Wb<|Lp Unit [0,3] [] (fun T _=>[(4, iv T.1)]) (fun T _=>[.own V1 (lc T.2)]) () [0] r2 r2 fun S4 X5=>Sq<|Sr<|Qs 2 r<|Yo (Ln ke56 (Bc Z0) r)<|Qs 1 r<|Nx<|Wc r (fun H8=>Sn<|Sq<|Wb<|Rg<|Qs 4 r<|Bi fun E9 H10=>Yo (Ix ke56 (Bc Z0) H10 r)<|Yo (Le kk3 (Bc Z0) H10 r)<|Bi fun E11 H12=>Yo (Ix ke56 (Oc 0 r) H12 r)<|Fu (Se E9 0 kk3 H12 r (Cp r) r)<|Nl<|Bn<|Ne<|Rg<|Qs 3 r<|Nl<|Lg () [0]) fun H8=>Wx<|Tx<|Ex<|Be<|Jg () [0]
  exact Ne<|Sr<|Qs 2 r<|Nx<|Wr<|Re V1 [0]

/-- loop.example/g00950/laws.toEng -/
noncomputable def laws_toEng (a : Eng) : Option Eng :=
  (laws_toEntS a.Mem).bind fun R4 =>
  (laws_toEntSS a.Tables).bind fun R7 =>
  (laws_toIntS a.Snaps).bind fun R10 =>
  some ({ Mem := R4, Tables := R7, Seq := a.Seq, Snaps := R10 : Eng })

theorem laws_toEng_c {a : Eng} {U0 U1 U2 : Value} : Cn Tryz.prog 74 [.agg #[U0, U1, iv a.Seq, U2]] [] [(U0, lc a.Mem), (U1, lc a.Tables), (U2, lc a.Snaps)] (laws_toEng a) (fun r (X : Value × Value × Value) => .agg #[X.1, X.2.1, iv r.Seq, X.2.2]) fun r X => [.own X.1 (lc r.Mem), .own X.2.1 (lc r.Tables), .own X.2.2 (lc r.Snaps)] := by
  unfold laws_toEng
  refine Ci Tryz.func74 r r ?_
  rintro w S ⟨Z0,Z1,Z2,-⟩
  refine Sr<|Fo (Bx r (Ca ⟨Ob Z0,Ob Z1,Op',Ob Z2,⟨⟩⟩)) fun B1=>Fo (Al kz58 r) fun B2=>Nx<|Sr<|Fo (Al kz58 r) fun B3=>Nx<|Sr<|Yo (Fb kf86_0 r)<|Yo (Lb 2 kk83 r)<|Bi fun R4 H5=>Fo (Cl [] laws_toEntS_c H5 r r1 ⟨(Bc Z0),⟨⟩⟩) fun Y6=>Yo (Fb kf58_0 r)<|Fu (Sb 1 kk54 r (Co 0) r)<|Nx<|Sr<|Yo (Fb kf86_1 r)<|Yo (Lb 3 kk84 r)<|Bi fun R7 H8=>Fo (Cl [] laws_toEntSS_c H8 r r1 ⟨(Bc Z1),⟨⟩⟩) fun Y9=>Yo (Fb kf58_1 r)<|Fu (Sb 2 kk55 r (Co 0) r)<|Nx<|Sr<|Yo (Fb kf86_2 r)<|Yo (Lb 4 kk3 r)<|Yo (Fb kf58_2 r)<|Fu (Sb 2 kk3 r (Cp r) r)<|Nx<|Sr<|Yo (Fb kf86_3 r)<|Yo (Lb 4 kk56 r)<|Bi fun R10 H11=>?_
  exact Fo (Cl [] laws_toIntS_c H11 r r1 ⟨(Bc Z2),⟨⟩⟩) fun Y12=>Yo (Fb kf58_3 r)<|Fu (Sb 3 kk56 r (Co 0) r)<|Nx<|Sr<|Yo (Lb 3 kk58 r)<|Fu (Sb 4 kk58 r (Ca ⟨Ow' 2,Ow' 1,Op',Ow' 0,⟨⟩⟩) r)<|Nx<|Wr<|TE.leaf fun _ _ hf_ hs_ => ret_any (rs := [.cell 2 58]) (vs := [.agg #[Y6, Y9, iv a.Seq, Y12]]) (.inl r) r (RV.cell 4 r r kk58 r ⟨⟩) hf_ hs_ ⟨(Y6, Y9, Y12), r, hs_.pulls [2, 1, 0] r⟩

/-- loop.example/g00950/laws.toSTen -/
noncomputable def laws_toSTen (a : STen) : Option STen :=
  (laws_toEng a.Eng).bind fun R4 =>
  some ({ Id := a.Id, Epoch := a.Epoch, Base := a.Base, Eng := R4 : STen })

theorem laws_toSTen_c {a : STen} {U0 U1 U2 : Value} : Cn Tryz.prog 45 [.agg #[iv a.Id, iv a.Epoch, iv a.Base, U0, U1, iv a.Eng.Seq, U2]] [] [(U0, lc a.Eng.Mem), (U1, lc a.Eng.Tables), (U2, lc a.Eng.Snaps)] (laws_toSTen a) (fun r (X : Value × Value × Value) => .agg #[iv r.Id, iv r.Epoch, iv r.Base, X.1, X.2.1, iv r.Eng.Seq, X.2.2]) fun r X => [.own X.1 (lc r.Eng.Mem), .own X.2.1 (lc r.Eng.Tables), .own X.2.2 (lc r.Eng.Snaps)] := by
  unfold laws_toSTen
  refine Ci Tryz.func45 r r ?_
  rintro w S ⟨Z0,Z1,Z2,-⟩
  refine Sr<|Fo (Bx r (Ca ⟨Op',Op',Op',Ob Z0,Ob Z1,Op',Ob Z2,⟨⟩⟩)) fun B1=>Fo (Al kz60 r) fun B2=>Nx<|Sr<|Fo (Al kz60 r) fun B3=>Nx<|Sr<|Yo (Fb kf88_0 r)<|Yo (Lb 2 kk3 r)<|Yo (Fb kf60_0 r)<|Fu (Sb 0 kk3 r (Cp r) r)<|Nx<|Sr<|Yo (Fb kf88_1 r)<|Yo (Lb 2 kk3 r)<|Yo (Fb kf60_1 r)<|Fu (Sb 0 kk3 r (Cp r) r)<|Nx<|Sr<|Yo (Fb kf88_2 r)<|Yo (Lb 2 kk3 r)<|Yo (Fb kf60_2 r)<|Fu (Sb 0 kk3 r (Cp r) r)<|Nx<|Sr<|Yo (Fb kf88_3 r)<|Yo (Lb 2 kk86 r)<|Bi fun R4 H5=>Fo (Cl [] laws_toEng_c H5 r r1 ⟨(Bc Z0),(Bc Z1),(Bc Z2),⟨⟩⟩) fun Y6=>?_
  exact Yo (Fb kf60_3 r)<|Fu (Sb 3 kk58 r (Ca ⟨Ow' 0,Ow' 1,Op',Ow' 2,⟨⟩⟩) r)<|Nx<|Sr<|Yo (Lb 3 kk60 r)<|Fu (Sb 4 kk60 r (Ca ⟨Op',Op',Op',Ow' 0,Ow' 1,Op',Ow' 2,⟨⟩⟩) r)<|Nx<|Wr<|TE.leaf fun _ _ hf_ hs_ => ret_any (rs := [.cell 2 60]) (vs := [.agg #[iv a.Id, iv a.Epoch, iv a.Base, Y6.1, Y6.2.1, iv R4.Seq, Y6.2.2]]) (.inl r) r (RV.cell 4 r r kk60 r ⟨⟩) hf_ hs_ ⟨(Y6.1, Y6.2.1, Y6.2.2), r, hs_.pulls [0, 0, 0] r⟩

/-- loop.example/g00950/laws.toSTenS -/
noncomputable def laws_toSTenS (a : List STen) : Option (List STen) :=
  (mkLen 104 ((a.length : Nat) : Int)).bind fun E2 =>
  bindC (loopO (fun (S4 : Int × List STen) => if (decide (S4.1 < ((a.length : Nat) : Int))) = true then ((idx a S4.1).bind fun E9 =>
  (laws_toSTen E9).bind fun R14 =>
  (idx S4.2 S4.1).bind fun E17 =>
  some (.go (IntKind.i64.wrap (S4.1 + (1 : Int)), (S4.2.set S4.1.toNat R14))))
  else (some (.done (.go S4.2))))
  ((0 : Int), (List.replicate E2 ({ Id := (0 : Int), Epoch := (0 : Int), Base := (0 : Int), Eng := { Mem := [], Tables := [], Seq := (0 : Int), Snaps := [] : Eng } : STen } : STen))))
  (fun (T6 : List STen) => some T6)

theorem laws_toSTenS_c {a : List STen} {U0 : Value} : Cn Tryz.prog 21 [U0] [] [(U0, lc a)] (laws_toSTenS a) (fun _ (X : Value) => X) fun r X => [.own X (lc r)] := by
  unfold laws_toSTenS
  refine Ci Tryz.func21 r r ?_
  rintro w S ⟨Z0,-⟩
  refine Sr<|Qs 1 r<|Nx<|Sr<|Qs 1 r<|Yo (Ln ke28 (Bc Z0) r)<|Bi fun E2 H3=>Fo (Ef.makeN (α := STen) (z := ({ Id := (0 : Int), Epoch := (0 : Int), Base := (0 : Int), Eng := { Mem := [], Tables := [], Seq := (0 : Int), Snaps := [] : Eng } : STen } : STen)) (zs := [iv (0 : Int), iv (0 : Int), iv (0 : Int), .slice none 0 0, .slice none 0 0, iv (0 : Int), .slice none 0 0]) H3 ke40 kz60 r r r r r) fun V1=>Qs 1 r<|Nx<|Sq<|Sr<|Qs 1 r<|Nx<|Jn Unit [3] [] (fun _ _=>[]) (fun T _=>[.own V1 (lc T)]) r2 r2 (?_) fun T6 X7=>?_
  ·refine Wb<|Lp Unit [0,3] [] (fun T _=>[(4, iv T.1)]) (fun T _=>[.own V1 (lc T.2)]) () [0] r2 r2 fun S4 X5=>Sq<|Sr<|Qs 2 r<|Yo (Ln ke28 (Bc Z0) r)<|Qs 1 r<|Nx<|Wc r (fun H8=>?_) fun H8=>?_
   ·refine Sn<|Sq<|Wb<|Rg<|Qs 4 r<|Bi fun E9 H10=>Yo (Ix ke28 (Bc Z0) H10 r)<|?_
    have Q11 : Base w S (elv w U0 (S4.1.toNat * 7 + 3)) (lc E9.Eng.Mem):=Base.el Z0 (idx_get H10).2.2 r r
    have Q12 : Base w S (elv w U0 (S4.1.toNat * 7 + 4)) (lc E9.Eng.Tables):=Base.el Z0 (idx_get H10).2.2 r r
    have Q13 : Base w S (elv w U0 (S4.1.toNat * 7 + 6)) (lc E9.Eng.Snaps):=Base.el Z0 (idx_get H10).2.2 r r
    exact Yo (Lz kk88 Z0 H10 r)<|Bi fun R14 H15=>Fo (Cl [] laws_toSTen_c H15 r r1 ⟨(Bc Q11),(Bc Q12),(Bc Q13),⟨⟩⟩) fun Y16=>Bi fun E17 H18=>Yo (Ix ke40 (Oc 3 r) H18 r)<|Gt (X := Value × Value × Value) (Ho 3 [3] H18 r r1) fun X19=>Fu (Sh 0 [ic R14.Id, ic R14.Epoch, ic R14.Base, .raw Y16.1, .raw Y16.2.1, ic R14.Eng.Seq, .raw Y16.2.2] kk60 H18 r (Ca ⟨Op',Op',Op',Ow' 4,Ow' 5,Op',Ow' 6,⟨⟩⟩) r)<|Nl<|Bn<|Ne<|Rg<|Qs 3 r<|Nl<|Ke (Hc [0, 3, 3, 3] R14 H18 r (Ck (Ck (Ck (Cf (Cf (Ck (Cf Cz))))))))<|Lg () [0]
   exact Wx<|Tx<|Ex<|Be<|Jg () [0]
  exact Ne<|Sr<|Qs 2 r<|Nx<|Wr<|Re V1 [0]

/-- loop.example/g00950/laws.toLogRow -/
noncomputable def laws_toLogRow (a : LogRow) : Option LogRow :=
  some a

theorem laws_toLogRow_c {a : LogRow} : Cn Tryz.prog 46 [.agg #[iv a.Tenant, iv a.Boot, iv a.Seq, strV a.Text, .bool a.Synced]] [] [] (laws_toLogRow a) (fun r (_ : Unit) => .agg #[iv r.Tenant, iv r.Boot, iv r.Seq, strV r.Text, .bool r.Synced]) fun _ _ => [] := by
  unfold laws_toLogRow
  refine Ci Tryz.func46 r r ?_
  rintro w S -
  exact Sr<|Fo (Bx r (Cp r)) fun B1=>Fo (Al kz69 r) fun B2=>Nx<|Sr<|Fo (Al kz69 r) fun B3=>Nx<|Sr<|Yo (Fb kf90_0 r)<|Yo (Lb 2 kk3 r)<|Yo (Fb kf69_0 r)<|Fu (Sb 0 kk3 r (Cp r) r)<|Nx<|Sr<|Yo (Fb kf90_1 r)<|Yo (Lb 2 kk3 r)<|Yo (Fb kf69_1 r)<|Fu (Sb 0 kk3 r (Cp r) r)<|Nx<|Sr<|Yo (Fb kf90_2 r)<|Yo (Lb 2 kk3 r)<|Yo (Fb kf69_2 r)<|Fu (Sb 0 kk3 r (Cp r) r)<|Nx<|Sr<|Yo (Fb kf90_3 r)<|Yo (Lb 2 kk9 r)<|Yo (Fb kf69_3 r)<|Fu (Sb 0 kk9 r (Cp r) r)<|Nx<|Sr<|Yo (Fb kf90_4 r)<|Yo (Lb 2 kk4 r)<|Yo (Fb kf69_4 r)<|Fu (Sb 0 kk4 r (Cp r) r)<|Nx<|Sr<|Yo (Lb 0 kk69 r)<|Fu (Sb 1 kk69 r (Cp r) r)<|Nx<|Wr<|TE.leaf fun _ _ hf_ hs_ => ret_any (rs := [.cell 2 69]) (vs := [.agg #[iv a.Tenant, iv a.Boot, iv a.Seq, strV a.Text, .bool a.Synced]]) (.inl r) r (RV.cell 1 r r kk69 r ⟨⟩) hf_ hs_ ⟨(), r, hs_.pulls [] r⟩

/-- loop.example/g00950/laws.toLogRowS -/
noncomputable def laws_toLogRowS (a : List LogRow) : Option (List LogRow) :=
  (mkLen 48 ((a.length : Nat) : Int)).bind fun E2 =>
  bindC (loopO (fun (S4 : Int × List LogRow) => if (decide (S4.1 < ((a.length : Nat) : Int))) = true then ((idx a S4.1).bind fun E9 =>
  (laws_toLogRow E9).bind fun R11 =>
  (idx S4.2 S4.1).bind fun E14 =>
  some (.go (IntKind.i64.wrap (S4.1 + (1 : Int)), (S4.2.set S4.1.toNat R11))))
  else (some (.done (.go S4.2))))
  ((0 : Int), (List.replicate E2 ({ Tenant := (0 : Int), Boot := (0 : Int), Seq := (0 : Int), Text := [], Synced := false : LogRow } : LogRow))))
  (fun (T6 : List LogRow) => some T6)

theorem laws_toLogRowS_c {a : List LogRow} {U0 : Value} : Cn Tryz.prog 22 [U0] [] [(U0, lc a)] (laws_toLogRowS a) (fun _ (X : Value) => X) fun r X => [.own X (lc r)] := by
  unfold laws_toLogRowS
  refine Ci Tryz.func22 r r ?_
  rintro w S ⟨Z0,-⟩
  refine Sr<|Qs 1 r<|Nx<|Sr<|Qs 1 r<|Yo (Ln ke29 (Bc Z0) r)<|Bi fun E2 H3=>Fo (Mk ({ Tenant := (0 : Int), Boot := (0 : Int), Seq := (0 : Int), Text := [], Synced := false : LogRow } : LogRow) H3 ke41 kz69) fun V1=>Qs 1 r<|Nx<|Sq<|Sr<|Qs 1 r<|Nx<|Jn Unit [3] [] (fun _ _=>[]) (fun T _=>[.own V1 (lc T)]) r2 r2 (?_) fun T6 X7=>?_
  ·refine Wb<|Lp Unit [0,3] [] (fun T _=>[(4, iv T.1)]) (fun T _=>[.own V1 (lc T.2)]) () [0] r2 r2 fun S4 X5=>Sq<|Sr<|Qs 2 r<|Yo (Ln ke29 (Bc Z0) r)<|Qs 1 r<|Nx<|Wc r (fun H8=>?_) fun H8=>?_
   ·exact Sn<|Sq<|Wb<|Rg<|Qs 4 r<|Bi fun E9 H10=>Yo (Ix ke29 (Bc Z0) H10 r)<|Yo (Le kk90 (Bc Z0) H10 r)<|Bi fun R11 H12=>Fo (Cl [] laws_toLogRow_c H12 r r1) fun _=>Bi fun E14 H15=>Yo (Ix ke41 (Oc 0 r) H15 r)<|Fu (Se R11 0 kk69 H15 r (Cp r) r)<|Nl<|Bn<|Ne<|Rg<|Qs 3 r<|Nl<|Lg () [0]
   exact Wx<|Tx<|Ex<|Be<|Jg () [0]
  exact Ne<|Sr<|Qs 2 r<|Nx<|Wr<|Re V1 [0]

/-- loop.example/g00950/laws.toStore -/
noncomputable def laws_toStore (a : Store) : Option Store :=
  (laws_toKeyDev a.Keys).bind fun R4 =>
  (laws_toShares a.Shares).bind fun R7 =>
  (laws_toSTenS a.Tens).bind fun R10 =>
  (laws_toLogRowS a.Rows).bind fun R13 =>
  (laws_toLogRowS a.Hist).bind fun R16 =>
  some ({ Secret := a.Secret, Keys := R4, Shares := R7, Tens := R10, Rows := R13, Hist := R16, Boot := a.Boot : Store })

theorem laws_toStore_c {a : Store} {U0 U1 U2 U3 U4 : Value} : Cn Tryz.prog 6 [.agg #[strV a.Secret, strV a.Keys.Master, U0, iv a.Keys.Wiped, iv a.Shares.Size, U1, U2, U3, U4, iv a.Boot]] [] [(U0, lc a.Keys.Slots), (U1, lc a.Shares.List), (U2, lc a.Tens), (U3, lc a.Rows), (U4, lc a.Hist)] (laws_toStore a) (fun r (X : Value × Value × Value × Value × Value) => .agg #[strV r.Secret, strV r.Keys.Master, X.1, iv r.Keys.Wiped, iv r.Shares.Size, X.2.1, X.2.2.1, X.2.2.2.1, X.2.2.2.2, iv r.Boot]) fun r X => [.own X.1 (lc r.Keys.Slots), .own X.2.1 (lc r.Shares.List), .own X.2.2.1 (lc r.Tens), .own X.2.2.2.1 (lc r.Rows), .own X.2.2.2.2 (lc r.Hist)] := by
  unfold laws_toStore
  refine Ci Tryz.func6 r r ?_
  rintro w S ⟨Z0,Z1,Z2,Z3,Z4,-⟩
  refine Sr<|Fo (Bx r (Ca ⟨Op',Op',Ob Z0,Op',Op',Ob Z1,Ob Z2,Ob Z3,Ob Z4,Op',⟨⟩⟩)) fun B1=>Fo (Al kz43 r) fun B2=>Nx<|Sr<|Fo (Al kz43 r) fun B3=>Nx<|Sr<|Yo (Fb kf31_0 r)<|Yo (Lb 2 kk9 r)<|Yo (Fb kf43_0 r)<|Fu (Sb 0 kk9 r (Cp r) r)<|Nx<|Sr<|Yo (Fb kf31_1 r)<|Yo (Lb 2 kk24 r)<|Bi fun R4 H5=>Fo (Cl [] laws_toKeyDev_c H5 r r1 ⟨(Bc Z0),⟨⟩⟩) fun Y6=>Yo (Fb kf43_1 r)<|Fu (Sb 1 kk36 r (Ca ⟨Op',Ow' 0,Op',⟨⟩⟩) r)<|Nx<|Sr<|Yo (Fb kf31_2 r)<|Yo (Lb 3 kk27 r)<|Bi fun R7 H8=>Fo (Cl [] laws_toShares_c H8 r r1 ⟨(Bc Z1),⟨⟩⟩) fun Y9=>?_
  exact Yo (Fb kf43_2 r)<|Fu (Sb 2 kk39 r (Ca ⟨Op',Ow' 0,⟨⟩⟩) r)<|Nx<|Sr<|Yo (Fb kf31_3 r)<|Yo (Lb 4 kk28 r)<|Bi fun R10 H11=>Fo (Cl [] laws_toSTenS_c H11 r r1 ⟨(Bc Z2),⟨⟩⟩) fun Y12=>Yo (Fb kf43_3 r)<|Fu (Sb 3 kk40 r (Co 0) r)<|Nx<|Sr<|Yo (Fb kf31_4 r)<|Yo (Lb 5 kk29 r)<|Bi fun R13 H14=>Fo (Cl [] laws_toLogRowS_c H14 r r1 ⟨(Bc Z3),⟨⟩⟩) fun Y15=>Yo (Fb kf43_4 r)<|Fu (Sb 4 kk41 r (Co 0) r)<|Nx<|Sr<|Yo (Fb kf31_5 r)<|Yo (Lb 6 kk29 r)<|Bi fun R16 H17=>Fo (Cl [] laws_toLogRowS_c H17 r r1 ⟨(Bc Z4),⟨⟩⟩) fun Y18=>Yo (Fb kf43_5 r)<|Fu (Sb 5 kk41 r (Co 0) r)<|Nx<|Sr<|Yo (Fb kf31_6 r)<|Yo (Lb 7 kk3 r)<|Yo (Fb kf43_6 r)<|Fu (Sb 5 kk3 r (Cp r) r)<|Nx<|Sr<|Yo (Lb 5 kk43 r)<|Fu (Sb 6 kk43 r (Ca ⟨Op',Op',Ow' 4,Op',Op',Ow' 3,Ow' 2,Ow' 1,Ow' 0,Op',⟨⟩⟩) r)<|Nx<|Wr<|TE.leaf fun _ _ hf_ hs_ => ret_any (rs := [.cell 2 43]) (vs := [.agg #[strV a.Secret, strV R4.Master, Y6, iv R4.Wiped, iv R7.Size, Y9, Y12, Y15, Y18, iv a.Boot]]) (.inl r) r (RV.cell 6 r r kk43 r ⟨⟩) hf_ hs_ ⟨(Y6, Y9, Y12, Y15, Y18), r, hs_.pulls [4, 3, 2, 1, 0] r⟩

/-- loop.example/g00950/spec.l1In -/
noncomputable def spec_l1In (x : Int) (low : Int) (high : Int) : Option Bool :=
  (if (decide (x ≥ low)) = true then (some (decide (x ≤ high)))
  else (some false)).bind (fun (T1 : Bool) =>
  some T1)

theorem spec_l1In_c {x : Int} {low : Int} {high : Int} : Cn Tryz.prog 15 [iv x, iv low, iv high] [] [] (spec_l1In x low high) (fun r (_ : Unit) => .bool r) fun _ _ => [] := by
  unfold spec_l1In
  refine Ci Tryz.func15 r r ?_
  rintro w S -
  exact Sr<|Qs 1 r<|Nx<|Sq<|Jv [] (fun T=>[(6, .bool T)]) r1 (Rg<|Qs 4 r<|It (fun H3=>Qg 3 (beq_tt H3) r r<|Yo (Pt H3 r)<|Qs 1 r<|Nl<|Bg () []) fun H3=>Of 3 (beq_ft H3) r r<|Yo (Pf H3 r)<|Qs 1 r<|Nl<|Bg () []) fun T1=>Ne<|Wr<|Re () []

/-- loop.example/g00950/spec.KeyOk -/
noncomputable def spec_KeyOk (d : KeyDev) : Option Bool :=
  (if (!(decide (((d.Master.length : Nat) : Int) = (32 : Int)))) = true then (some true)
  else (if (decide (((d.Slots.length : Nat) : Int) > (4 : Int))) = true then (some true)
  else ((spec_l1In d.Wiped (0 : Int) (1000000 : Int)).bind fun R6 =>
  some (!R6)))).bind (fun (T2 : Bool) =>
  if T2 = true then (some false)
  else (bindC (loopO (fun (S10 : Int) => if (decide (S10 < ((d.Slots.length : Nat) : Int))) = true then ((idx d.Slots S10).bind fun E15 =>
  ((spec_l1In E15.Tenant (1 : Int) (99 : Int)).bind fun R20 =>
  if (!R20) = true then (some true)
  else (if (!(decide (((E15.Key.length : Nat) : Int) = (32 : Int)))) = true then (some true)
  else (if (decide (S10 > (0 : Int))) = true then ((idx d.Slots (IntKind.i64.wrap (S10 - (1 : Int)))).bind fun E26 =>
  some (decide (E26.Tenant ≥ E15.Tenant)))
  else (some false)))).bind (fun (T18 : Bool) =>
  if T18 = true then (some (.done (.done false)))
  else (some (.go (IntKind.i64.wrap (S10 + (1 : Int)))))))
  else (some (.done (.go ()))))
  (0 : Int))
  (fun (T12 : Unit) => some true)))

theorem spec_KeyOk_c {d : KeyDev} {U0 : Value} : Cn Tryz.prog 13 [.agg #[strV d.Master, U0, iv d.Wiped]] [] [(U0, lc d.Slots)] (spec_KeyOk d) (fun r (_ : Unit) => .bool r) fun _ _ => [] := by
  unfold spec_KeyOk
  refine Ci Tryz.func13 r r ?_
  rintro w S ⟨Z0,-⟩
  refine Sr<|Fo (Bx r (Ca ⟨Op',Ob Z0,Op',⟨⟩⟩)) fun B1=>Qs 1 r<|Nx<|Sq<|Sq<|Jv [1] (fun T=>[(20, .bool T)]) r1 (?_) fun T2=>?_
  ·refine Rg<|Yo (Fb kf36_0 r)<|Yo (Lb 0 kk9 r)<|Yo (Y.slen ks9 r)<|Qs 2 r<|It (fun H4=>Of 4 (beq_tf H4) r r<|Yo (Pt H4 r)<|Qs 1 r<|Of 4 r r r<|Yo (Pt r r)<|Nl<|Bg () [0]) fun H4=>Yg (gdA (beq_ff H4)) (Fb kf36_1 r)<|Yg (gdA (beq_ff H4)) (Lb 0 kk34 r)<|Yg (gdA (beq_ff H4)) (Ln ke34 (Bc Z0) r)<|Qg 1 (beq_ff H4) r r<|Yo (Pf H4 r)<|Qs 1 r<|It (fun H5=>Of 4 (beq_tf H5) r r<|Yo (Pt H5 r)<|Nl<|Bg () [0]) fun H5=>Yg (gdA (beq_ff H5)) (Fb kf36_2 r)<|Yg (gdA (beq_ff H5)) (Lb 0 kk3 r)<|Bi fun R6 H7=>Fg (gdA (beq_ff H5)) (Cl [] spec_l1In_c H7 r r1) fun _=>?_
   exact Qg 1 (beq_ff H5) r r<|Yo (Pf H5 r)<|Nl<|Bg () [0]
  refine Ne<|Wc r (fun H9=>Sr<|Qs 1 r<|Nx<|Wr<|Tr<|Re () []) fun H9=>Sn<|Sq<|Sr<|Qs 1 r<|Nx<|Jn Unit [] [] (fun _ _=>[]) (fun _ _=>[]) r2 r2 (?_) fun T12 X13=>?_
  ·refine Wb<|Lu [1] (fun T=>[(3, iv T)]) r1 fun S10=>Sq<|Sr<|Qs 1 r<|Yo (Fb kf36_1 r)<|Yo (Lb 0 kk34 r)<|Yo (Ln ke34 (Bc Z0) r)<|Qs 1 r<|Nx<|Wc r (fun H14=>?_) fun H14=>?_
   ·refine Sn<|Sq<|Wb<|Sr<|Yo (Fb kf36_1 r)<|Yo (Lb 0 kk34 r)<|Qs 1 r<|Bi fun E15 H16=>Yo (Ix ke34 (Bc Z0) H16 r)<|Yo (Le kk62 (Bc Z0) H16 r)<|Fo (Al kz62 r) fun B17=>Fu (Sb 0 kk62 r (Cp r) r)<|Nx<|Sq<|Jb Unit [1,3] [1] (fun T _=>[(58, .bool T)]) (fun _ _=>[]) r2 r2 (?_) fun T18 X19=>?_
    ·refine Dr [0,0] r hMix<|Ay 0 [0,0] r (Fb kf62_0 r)<|Ay 1 [0,0] r (Lb 0 kk3 r)<|Ai fun R20 H21=>A1 2<|Xe [0,0] r (Cl [] spec_l1In_c H21 r r1) fun _=>Aq [3,4] [0,0] r<|Ia (fun H23=>Ax [5,6,7,8] [0,0] (beq_tf H23) r r<|Ay 9 [0,0] r (Pt H23 r)<|Aq [10] [0,0] r<|Ax [11,12,13] [0,0] r r r<|Au [14,15,16,17,18,19,20,21,22,23] [0,0] r r<|Ax [24] [0,0] r r r<|Ay 25 [0,0] r (Pt r r)<|Az<|Bg () [1]) fun H23=>Ag 5 [0,0] (gdA (beq_ff H23)) r (Fb kf62_1 r)<|Ag 6 [0,0] (gdA (beq_ff H23)) r (Lb 0 kk9 r)<|Ag 7 [0,0] (gdA (beq_ff H23)) r (Y.slen ks9 r)<|Ag 8 [0,0] (gdA (beq_ff H23)) r (Y.neq r r)<|Ay 9 [0,0] r (Pf H23 r)<|Aq [10] [0,0] r<|Ia (fun H24=>Ax [11,12,13] [0,0] (beq_tf H24) r r<|Au [14,15,16,17,18,19,20,21,22,23] [0,0] r r<|Ax [24] [0,0] (beq_tf H24) r r<|Ay 25 [0,0] r (Pt H24 r)<|Az<|Bg () [1]) fun H24=>?_
     refine Ag 11 [0,0] (gdA (beq_ff H24)) r (Y.move r)<|Ag 12 [0,0] (gdA (beq_ff H24)) r (Y.gtr r r)<|Ag 13 [0,0] (gdA (beq_ff H24)) r (Y.move r)<|Ia (fun H25=>?_) fun H25=>?_
     ·exact Ag 14 [0,0] (gdA (beq_tt H25)) r (Fb kf36_1 r)<|Ag 15 [0,0] (gdA (beq_tt H25)) r (Lb 1 kk34 r)<|Ag 16 [0,0] (gdA (beq_tt H25)) r (Y.move r)<|Ag 17 [0,0] (gdA (beq_tt H25)) r (Y.sub r r)<|Ai fun E26 H27=>Ag 18 [0,0] (gdA (beq_tt H25)) r (Ix ke34 (Bc Z0) H27 r)<|Ag 19 [0,0] (gdA (beq_tt H25)) r (Fe kf62_0 (Bc Z0) H27 r)<|Ag 20 [0,0] (gdA (beq_tt H25)) r (Le kk3 (Bc Z0) H27 r)<|Ag 21 [0,0] (gdA (beq_tt H25)) r (Fb kf62_0 r)<|Ag 22 [0,0] (gdA (beq_tt H25)) r (Lb 0 kk3 r)<|Ag 23 [0,0] (gdA (beq_tt H25)) r (Y.geq r r)<|Ag 24 [0,0] (gdA (beq_ff H24)) r (Pt H25 r)<|Ay 25 [0,0] r (Pf H24 r)<|Az<|Bg () [1]
     exact Ax [14,15,16,17,18,19,20,21,22,23] [0,0] (beq_ft H25) r r<|Ag 24 [0,0] (gdA (beq_ff H24)) r (Pf H25 r)<|Ay 25 [0,0] r (Pf H24 r)<|Az<|Bg () [1]
    exact Ne<|Wc r (fun H28=>Sr<|Qs 1 r<|Nx<|Wr<|Br<|Tr<|Er<|Br<|Jd<|Tr<|Re () []) fun H28=>Sk<|Bn<|Ne<|Rg<|Qs 3 r<|Nl<|Lg () [0]
   exact Wx<|Tx<|Ex<|Be<|Jg () []
  exact Ne<|Sr<|Qs 1 r<|Nx<|Wr<|Re () []

/-- loop.example/g00950/spec.Need -/
noncomputable def spec_Need (quota : Int) : Option Int :=
  (spec_l1In quota (0 : Int) (1000 : Int)).bind fun R1 =>
  if (!R1) = true then (some (0 : Int))
  else (some (IntKind.i64.wrap ((2 : Int) + (IntKind.i64.wrap ((2 : Int) * (IntKind.i64.wrap (Int.tdiv (IntKind.i64.wrap (quota + (49 : Int))) (50 : Int))))))))

theorem spec_Need_c {quota : Int} : Cn Tryz.prog 62 [iv quota] [] [] (spec_Need quota) (fun r (_ : Unit) => iv r) fun _ _ => [] := by
  unfold spec_Need
  refine Ci Tryz.func62 r r ?_
  rintro w S -
  exact Sr<|Qs 1 r<|Nx<|Sq<|Sr<|Qs 1 r<|Bi fun R1 H2=>Fo (Cl [] spec_l1In_c H2 r r1) fun _=>Qs 1 r<|Nx<|Wc r (fun H4=>Sr<|Qs 1 r<|Nx<|Wr<|Tr<|Re () []) fun H4=>Sn<|Sr<|Qs 2 r<|Yo (Y.quo (by decide) r r)<|Qs 3 r<|Nx<|Wr<|Re () []

/-- loop.example/g00950/spec.l19All -/
noncomputable def spec_l19All (s : Shares) : Option Int :=
  bindC (loopO (fun (S2 : Int × Int) => if (decide (S2.2 < ((s.List.length : Nat) : Int))) = true then ((idx s.List S2.2).bind fun E7 =>
  (spec_Need E7.Quota).bind fun R9 =>
  some (.go (IntKind.i64.wrap (S2.1 + R9), IntKind.i64.wrap (S2.2 + (1 : Int)))))
  else (some (.done (.go S2.1))))
  ((0 : Int), (0 : Int)))
  (fun (T4 : Int) => bindC (if (decide (((s.List.length : Nat) : Int) > (0 : Int))) = true then (some (.go (IntKind.i64.wrap (T4 + (4 : Int)))))
  else (some (.go T4)))
  (fun (T12 : Int) => some T12))

theorem spec_l19All_c {s : Shares} {U0 : Value} : Cn Tryz.prog 36 [.agg #[iv s.Size, U0]] [] [(U0, lc s.List)] (spec_l19All s) (fun r (_ : Unit) => iv r) fun _ _ => [] := by
  unfold spec_l19All
  refine Ci Tryz.func36 r r ?_
  rintro w S ⟨Z0,-⟩
  refine Sr<|Fo (Bx r (Ca ⟨Op',Ob Z0,⟨⟩⟩)) fun B1=>Qs 1 r<|Nx<|Sr<|Qs 1 r<|Nx<|Sq<|Sr<|Qs 1 r<|Nx<|Ju [1] (fun T=>[(3, iv T)]) r1 (?_) fun T4=>?_
  ·refine Wb<|Lu [1] (fun T=>[(3, iv T.1), (4, iv T.2)]) r1 fun S2=>Sq<|Sr<|Qs 1 r<|Yo (Fb kf39_1 r)<|Yo (Lb 0 kk37 r)<|Yo (Ln ke37 (Bc Z0) r)<|Qs 1 r<|Nx<|Wc r (fun H6=>?_) fun H6=>?_
   ·exact Sn<|Sq<|Wb<|Rg<|Qs 1 r<|Yo (Fb kf39_1 r)<|Yo (Lb 0 kk37 r)<|Qs 1 r<|Bi fun E7 H8=>Yo (Ix ke37 (Bc Z0) H8 r)<|Yo (Fe kf64_1 (Bc Z0) H8 r)<|Yo (Le kk3 (Bc Z0) H8 r)<|Bi fun R9 H10=>Fo (Cl [] spec_Need_c H10 r r1) fun _=>Qs 2 r<|Nl<|Bn<|Ne<|Rg<|Qs 3 r<|Nl<|Lg () [0]
   exact Wx<|Tx<|Ex<|Be<|Jg () [0]
  exact Ne<|Sq<|Sr<|Yo (Fb kf39_1 r)<|Yo (Lb 0 kk37 r)<|Yo (Ln ke37 (Bc Z0) r)<|Qs 1 r<|Nx<|Jn Unit [] [] (fun T _=>[(3, iv T)]) (fun _ _=>[]) r2 r2 (Wc r (fun H14=>Rg<|Qs 3 r<|Nl<|Jg () []) fun H14=>Sk<|Jg () []) fun T12 X13=>Ne<|Sr<|Qs 2 r<|Nx<|Wr<|Re () []

/-- loop.example/g00950/spec.SharesOk -/
noncomputable def spec_SharesOk (s : Shares) : Option Bool :=
  ((spec_l1In s.Size (0 : Int) (1000 : Int)).bind fun R4 =>
  if (!R4) = true then (some true)
  else (some (decide (((s.List.length : Nat) : Int) > (4 : Int))))).bind (fun (T2 : Bool) =>
  if T2 = true then (some false)
  else (bindC (loopO (fun (S9 : Int) => if (decide (S9 < ((s.List.length : Nat) : Int))) = true then ((idx s.List S9).bind fun E14 =>
  ((spec_l1In E14.Tenant (1 : Int) (99 : Int)).bind fun R19 =>
  if (!R19) = true then (some true)
  else ((spec_l1In E14.Quota (0 : Int) (1000 : Int)).bind fun R23 =>
  if (!R23) = true then (some true)
  else (if (decide (S9 > (0 : Int))) = true then ((idx s.List (IntKind.i64.wrap (S9 - (1 : Int)))).bind fun E28 =>
  some (decide (E28.Tenant ≥ E14.Tenant)))
  else (some false)))).bind (fun (T17 : Bool) =>
  if T17 = true then (some (.done (.done false)))
  else (some (.go (IntKind.i64.wrap (S9 + (1 : Int)))))))
  else (some (.done (.go ()))))
  (0 : Int))
  (fun (T11 : Unit) => (spec_l19All s).bind fun R31 =>
  some (decide (R31 ≤ s.Size)))))

theorem spec_SharesOk_c {s : Shares} {U0 : Value} : Cn Tryz.prog 14 [.agg #[iv s.Size, U0]] [] [(U0, lc s.List)] (spec_SharesOk s) (fun r (_ : Unit) => .bool r) fun _ _ => [] := by
  unfold spec_SharesOk
  refine Ci Tryz.func14 r r ?_
  rintro w S ⟨Z0,-⟩
  refine Sr<|Fo (Bx r (Ca ⟨Op',Ob Z0,⟨⟩⟩)) fun B1=>Qs 1 r<|Nx<|Sq<|Sq<|Jv [1] (fun T=>[(14, .bool T)]) r1 (?_) fun T2=>?_
  ·exact Rg<|Yo (Fb kf39_0 r)<|Yo (Lb 0 kk3 r)<|Bi fun R4 H5=>Fo (Cl [] spec_l1In_c H5 r r1) fun _=>Qs 2 r<|It (fun H7=>Of 4 (beq_tf H7) r r<|Yo (Pt H7 r)<|Nl<|Bg () [0]) fun H7=>Yg (gdA (beq_ff H7)) (Fb kf39_1 r)<|Yg (gdA (beq_ff H7)) (Lb 0 kk37 r)<|Yg (gdA (beq_ff H7)) (Ln ke37 (Bc Z0) r)<|Qg 1 (beq_ff H7) r r<|Yo (Pf H7 r)<|Nl<|Bg () [0]
  refine Ne<|Wc r (fun H8=>Sr<|Qs 1 r<|Nx<|Wr<|Tr<|Re () []) fun H8=>Sn<|Sq<|Sr<|Qs 1 r<|Nx<|Ju [1] (fun _=>[]) r1 (?_) fun T11=>?_
  ·refine Wb<|Lu [1] (fun T=>[(3, iv T)]) r1 fun S9=>Sq<|Sr<|Qs 1 r<|Yo (Fb kf39_1 r)<|Yo (Lb 0 kk37 r)<|Yo (Ln ke37 (Bc Z0) r)<|Qs 1 r<|Nx<|Wc r (fun H13=>?_) fun H13=>?_
   ·refine Sn<|Sq<|Wb<|Sr<|Yo (Fb kf39_1 r)<|Yo (Lb 0 kk37 r)<|Qs 1 r<|Bi fun E14 H15=>Yo (Ix ke37 (Bc Z0) H15 r)<|Yo (Le kk64 (Bc Z0) H15 r)<|Fo (Al kz64 r) fun B16=>Fu (Sb 0 kk64 r (Cp r) r)<|Nx<|Sq<|Jb Unit [1,3] [1] (fun T _=>[(52, .bool T)]) (fun _ _=>[]) r2 r2 (?_) fun T17 X18=>?_
    ·refine Dr [0,0] r hMix<|Ay 0 [0,0] r (Fb kf64_0 r)<|Ay 1 [0,0] r (Lb 0 kk3 r)<|Ai fun R19 H20=>A1 2<|Xe [0,0] r (Cl [] spec_l1In_c H20 r r1) fun _=>Aq [3,4] [0,0] r<|Ia (fun H22=>Ax [5,6,7,8] [0,0] (beq_tf H22) r r<|Ay 9 [0,0] r (Pt H22 r)<|Aq [10] [0,0] r<|Ax [11,12,13] [0,0] r r r<|Au [14,15,16,17,18,19,20,21,22,23] [0,0] r r<|Ax [24] [0,0] r r r<|Ay 25 [0,0] r (Pt r r)<|Az<|Bg () [1]) fun H22=>Ag 5 [0,0] (gdA (beq_ff H22)) r (Fb kf64_1 r)<|Ag 6 [0,0] (gdA (beq_ff H22)) r (Lb 0 kk3 r)<|Ai fun R23 H24=>A1 7<|Xeg [0,0] (gdA (beq_ff H22)) r (Cl [] spec_l1In_c H24 r r1) fun _=>?_
     refine Ag 8 [0,0] (gdA (beq_ff H22)) r (Y.not r)<|Ay 9 [0,0] r (Pf H22 r)<|Aq [10] [0,0] r<|Ia (fun H26=>Ax [11,12,13] [0,0] (beq_tf H26) r r<|Au [14,15,16,17,18,19,20,21,22,23] [0,0] r r<|Ax [24] [0,0] (beq_tf H26) r r<|Ay 25 [0,0] r (Pt H26 r)<|Az<|Bg () [1]) fun H26=>Ag 11 [0,0] (gdA (beq_ff H26)) r (Y.move r)<|Ag 12 [0,0] (gdA (beq_ff H26)) r (Y.gtr r r)<|Ag 13 [0,0] (gdA (beq_ff H26)) r (Y.move r)<|Ia (fun H27=>?_) fun H27=>?_
     ·exact Ag 14 [0,0] (gdA (beq_tt H27)) r (Fb kf39_1 r)<|Ag 15 [0,0] (gdA (beq_tt H27)) r (Lb 1 kk37 r)<|Ag 16 [0,0] (gdA (beq_tt H27)) r (Y.move r)<|Ag 17 [0,0] (gdA (beq_tt H27)) r (Y.sub r r)<|Ai fun E28 H29=>Ag 18 [0,0] (gdA (beq_tt H27)) r (Ix ke37 (Bc Z0) H29 r)<|Ag 19 [0,0] (gdA (beq_tt H27)) r (Fe kf64_0 (Bc Z0) H29 r)<|Ag 20 [0,0] (gdA (beq_tt H27)) r (Le kk3 (Bc Z0) H29 r)<|Ag 21 [0,0] (gdA (beq_tt H27)) r (Fb kf64_0 r)<|Ag 22 [0,0] (gdA (beq_tt H27)) r (Lb 0 kk3 r)<|Ag 23 [0,0] (gdA (beq_tt H27)) r (Y.geq r r)<|Ag 24 [0,0] (gdA (beq_ff H26)) r (Pt H27 r)<|Ay 25 [0,0] r (Pf H26 r)<|Az<|Bg () [1]
     exact Ax [14,15,16,17,18,19,20,21,22,23] [0,0] (beq_ft H27) r r<|Ag 24 [0,0] (gdA (beq_ff H26)) r (Pf H27 r)<|Ay 25 [0,0] r (Pf H26 r)<|Az<|Bg () [1]
    exact Ne<|Wc r (fun H30=>Sr<|Qs 1 r<|Nx<|Wr<|Br<|Tr<|Er<|Br<|Jd<|Tr<|Re () []) fun H30=>Sk<|Bn<|Ne<|Rg<|Qs 3 r<|Nl<|Lg () [0]
   exact Wx<|Tx<|Ex<|Be<|Jg () [0]
  exact Ne<|Sq<|Dr [0] r hMix<|Ay 0 [0] r (Lb 0 kk39 r)<|Ay 2 [0] r (Fb kf39_0 r)<|Ay 3 [0] r (Lb 0 kk3 r)<|Ai fun R31 H32=>A1 1<|Xe [0] r (Cl [] spec_l19All_c H32 r r1 ⟨(Bc Z0),⟨⟩⟩) fun _=>Aq [4,5] [0] r<|Az<|Ne<|Wr<|Re () []

/-- loop.example/g00950/spec.l7Op -/
noncomputable def spec_l7Op (o : Op) : Option Bool :=
  ((spec_l1In ((o.Key.length : Nat) : Int) (1 : Int) (10 : Int)).bind fun R4 =>
  if R4 = true then (if (decide (((o.Val.length : Nat) : Int) ≤ (16 : Int))) = true then (if (!o.Del) = true then (some true)
  else (some (decide (o.Val = ([])))))
  else (some false))
  else (some false)).bind (fun (T2 : Bool) =>
  some T2)

theorem spec_l7Op_c {o : Op} : Cn Tryz.prog 87 [.agg #[strV o.Key, .bool o.Del, strV o.Val]] [] [] (spec_l7Op o) (fun r (_ : Unit) => .bool r) fun _ _ => [] := by
  unfold spec_l7Op
  refine Ci Tryz.func87 r r ?_
  rintro w S -
  refine Sr<|Fo (Bx r (Cp r)) fun B1=>Qs 1 r<|Nx<|Sq<|Jb Unit [] [] (fun T _=>[(2, .bool T)]) (fun _ _=>[]) r2 r2 (?_) fun T2 X3=>?_
  ·refine Rg<|Yo (Fb kf129_0 r)<|Yo (Lb 0 kk9 r)<|Yo (Y.slen ks9 r)<|Bi fun R4 H5=>Fo (Cl [] spec_l1In_c H5 r r1) fun _=>Qs 1 r<|It (fun H7=>?_) fun H7=>?_
   ·refine Yg (gdA (beq_tt H7)) (Fb kf129_2 r)<|Yg (gdA (beq_tt H7)) (Lb 0 kk9 r)<|Yg (gdA (beq_tt H7)) (Y.slen ks9 r)<|Qg 1 (beq_tt H7) r r<|Yo (Pt H7 r)<|Qs 1 r<|It (fun H8=>?_) fun H8=>?_
    ·exact Yg (gdA (beq_tt H8)) (Fb kf129_1 r)<|Yg (gdA (beq_tt H8)) (Lb 0 kk4 r)<|Qg 2 (beq_tt H8) r r<|It (fun H9=>Of 3 (beq_tf H9) r r<|Yg (gdA (beq_tt H8)) (Pt H9 r)<|Yo (Pt H8 r)<|Qs 1 r<|Nl<|Bg () []) fun H9=>Yg (gdA (beq_ff H9)) (Fb kf129_2 r)<|Yg (gdA (beq_ff H9)) (Lb 0 kk9 r)<|Qg 1 (beq_ff H9) r r<|Yg (gdA (beq_tt H8)) (Pf H9 r)<|Yo (Pt H8 r)<|Qs 1 r<|Nl<|Bg () []
    exact Of 4 (beq_ft H8) r r<|Ou 3 r r<|Of 1 (beq_ft H8) r r<|Yo (Pf H8 r)<|Qs 1 r<|Nl<|Bg () []
   exact Of 4 (beq_ft H7) r r<|Yo (Pf H7 r)<|Qs 1 r<|Of 4 r r r<|Ou 3 r r<|Of 1 r r r<|Yo (Pf r r)<|Qs 1 r<|Nl<|Bg () []
  exact Ne<|Wr<|Re () []

/-- loop.example/g00950/spec.l9Ent -/
noncomputable def spec_l9Ent (e : Ent) : Option Bool :=
  ((spec_l7Op ({ Key := e.Key, Del := e.Del, Val := e.Val : Op })).bind fun R4 =>
  if R4 = true then ((spec_l1In e.Seq (0 : Int) (1000000 : Int)).bind fun R8 =>
  some R8)
  else (some false)).bind (fun (T2 : Bool) =>
  some T2)

theorem spec_l9Ent_c {e : Ent} : Cn Tryz.prog 63 [.agg #[strV e.Key, iv e.Seq, .bool e.Del, strV e.Val]] [] [] (spec_l9Ent e) (fun r (_ : Unit) => .bool r) fun _ _ => [] := by
  unfold spec_l9Ent
  refine Ci Tryz.func63 r r ?_
  rintro w S -
  refine Sr<|Fo (Bx r (Cp r)) fun B1=>Qs 1 r<|Nx<|Sq<|Jb Unit [] [] (fun T _=>[(2, .bool T)]) (fun _ _=>[]) r2 r2 (?_) fun T2 X3=>?_
  ·exact Rg<|Yo (Fb kf102_0 r)<|Yo (Lb 0 kk9 r)<|Yo (Fb kf102_2 r)<|Yo (Lb 0 kk4 r)<|Yo (Fb kf102_3 r)<|Yo (Lb 0 kk9 r)<|Yo (Bd kp129 kz129 (Pc r (Cp r)<|Pc r (Cp r)<|Pc r (Cp r)<|Pz) r)<|Bi fun R4 H5=>Fo (Cl [] spec_l7Op_c H5 r r1) fun _=>Qs 1 r<|It (fun H7=>Yg (gdA (beq_tt H7)) (Fb kf102_1 r)<|Yg (gdA (beq_tt H7)) (Lb 0 kk3 r)<|Bi fun R8 H9=>Fg (gdA (beq_tt H7)) (Cl [] spec_l1In_c H9 r r1) fun _=>Yo (Pt H7 r)<|Qs 1 r<|Nl<|Bg () []) fun H7=>Of 3 (beq_ft H7) r r<|Yo (Pf H7 r)<|Qs 1 r<|Nl<|Bg () []
  exact Ne<|Wr<|Re () []

/-- loop.example/g00950/spec.l9Ahead -/
noncomputable def spec_l9Ahead (a : Ent) (b : Ent) : Option Bool :=
  (if (sLt a.Key b.Key) = true then (some true)
  else (if (decide (a.Key = b.Key)) = true then (some (decide (a.Seq > b.Seq)))
  else (some false))).bind (fun (T3 : Bool) =>
  some T3)

theorem spec_l9Ahead_c {a : Ent} {b : Ent} : Cn Tryz.prog 64 [.agg #[strV a.Key, iv a.Seq, .bool a.Del, strV a.Val], .agg #[strV b.Key, iv b.Seq, .bool b.Del, strV b.Val]] [] [] (spec_l9Ahead a b) (fun r (_ : Unit) => .bool r) fun _ _ => [] := by
  unfold spec_l9Ahead
  refine Ci Tryz.func64 r r ?_
  rintro w S -
  refine Sr<|Fo (Bx r (Cp r)) fun B1=>Fo (Bx r (Cp r)) fun B2=>Qs 1 r<|Nx<|Sq<|Jb Unit [] [] (fun T _=>[(4, .bool T)]) (fun _ _=>[]) r2 r2 (?_) fun T3 X4=>?_
  ·refine Rg<|Yo (Fb kf102_0 r)<|Yo (Lb 1 kk9 r)<|Yo (Fb kf102_0 r)<|Yo (Lb 0 kk9 r)<|Qs 2 r<|It (fun H5=>Of 6 (beq_tf H5) r r<|Ou 5 r r<|Of 1 (beq_tf H5) r r<|Yo (Pt H5 r)<|Qs 1 r<|Nl<|Bg () []) fun H5=>Yg (gdA (beq_ff H5)) (Fb kf102_0 r)<|Yg (gdA (beq_ff H5)) (Lb 1 kk9 r)<|Yg (gdA (beq_ff H5)) (Fb kf102_0 r)<|Yg (gdA (beq_ff H5)) (Lb 0 kk9 r)<|Qg 2 (beq_ff H5) r r<|It (fun H6=>Yg (gdA (beq_tt H6)) (Fb kf102_1 r)<|Yg (gdA (beq_tt H6)) (Lb 1 kk3 r)<|Yg (gdA (beq_tt H6)) (Fb kf102_1 r)<|Yg (gdA (beq_tt H6)) (Lb 0 kk3 r)<|Qg 1 (beq_tt H6) r r<|Yg (gdA (beq_ff H5)) (Pt H6 r)<|Yo (Pf H5 r)<|Qs 1 r<|Nl<|Bg () []) fun H6=>?_
   exact Of 5 (beq_ft H6) r r<|Yg (gdA (beq_ff H5)) (Pf H6 r)<|Yo (Pf H5 r)<|Qs 1 r<|Nl<|Bg () []
  exact Ne<|Wr<|Re () []

/-- loop.example/g00950/spec.l9Ents -/
noncomputable def spec_l9Ents (l : List Ent) : Option Bool :=
  bindC (loopO (fun (S1 : Int) => if (decide (S1 < ((l.length : Nat) : Int))) = true then (((idx l S1).bind fun E8 =>
  (spec_l9Ent E8).bind fun R10 =>
  if (!R10) = true then (some true)
  else (if (decide (S1 > (0 : Int))) = true then ((idx l (IntKind.i64.wrap (S1 - (1 : Int)))).bind fun E15 =>
  (spec_l9Ahead E15 E8).bind fun R17 =>
  some (!R17))
  else (some false))).bind (fun (T6 : Bool) =>
  if T6 = true then (some (.done (.done false)))
  else (some (.go (IntKind.i64.wrap (S1 + (1 : Int)))))))
  else (some (.done (.go ()))))
  (0 : Int))
  (fun (T3 : Unit) => some true)

theorem spec_l9Ents_c {l : List Ent} {U0 : Value} : Cn Tryz.prog 39 [U0] [] [(U0, lc l)] (spec_l9Ents l) (fun r (_ : Unit) => .bool r) fun _ _ => [] := by
  unfold spec_l9Ents
  refine Ci Tryz.func39 r r ?_
  rintro w S ⟨Z0,-⟩
  refine Sr<|Qs 1 r<|Nx<|Sq<|Sr<|Qs 1 r<|Nx<|Ju [] (fun _=>[]) r1 (?_) fun T3=>?_
  ·refine Wb<|Lu [0] (fun T=>[(3, iv T)]) r1 fun S1=>Sq<|Sr<|Qs 2 r<|Yo (Ln ke54 (Bc Z0) r)<|Qs 1 r<|Nx<|Wc r (fun H5=>?_) fun H5=>?_
   ·refine Sn<|Sq<|Wb<|Sq<|Jv [0,3] (fun T=>[(32, .bool T)]) r1 (?_) fun T6=>?_
    ·refine Dr [] r hMix<|Aq [0,1] [] r<|Ai fun E8 H9=>Ay 2 [] r (Ix ke54 (Bc Z0) H9 r)<|Ay 3 [] r (Le kk102 (Bc Z0) H9 r)<|Ai fun R10 H11=>A1 4<|Xe [] r (Cl [] spec_l9Ent_c H11 r r1) fun _=>Aq [5,6] [] r<|Ia (fun H13=>Ax [7,8,9] [] (beq_tf H13) r r<|Au [10,11,12,13,14,15,16,17,18,19,20] [] r r<|Ax [21] [] (beq_tf H13) r r<|Ay 22 [] r (Pt H13 r)<|Az<|Bg () []) fun H13=>Ag 7 [] (gdA (beq_ff H13)) r (Y.move r)<|Ag 8 [] (gdA (beq_ff H13)) r (Y.gtr r r)<|Ag 9 [] (gdA (beq_ff H13)) r (Y.move r)<|Ia (fun H14=>?_) fun H14=>?_
     ·refine Ag 10 [] (gdA (beq_tt H14)) r (Y.move r)<|Ag 11 [] (gdA (beq_tt H14)) r (Y.move r)<|Ag 12 [] (gdA (beq_tt H14)) r (Y.sub r r)<|Ai fun E15 H16=>Ag 13 [] (gdA (beq_tt H14)) r (Ix ke54 (Bc Z0) H16 r)<|Ag 14 [] (gdA (beq_tt H14)) r (Le kk102 (Bc Z0) H16 r)<|Ag 15 [] (gdA (beq_tt H14)) r (Y.move r)<|Ag 16 [] (gdA (beq_tt H14)) r (Y.move r)<|Ag 17 [] (gdA (beq_tt H14)) r (Ix ke54 (Bc Z0) H9 r)<|Ag 18 [] (gdA (beq_tt H14)) r (Le kk102 (Bc Z0) H9 r)<|Ai fun R17 H18=>A1 19<|Xeg [] (gdA (beq_tt H14)) r (Cl [] spec_l9Ahead_c H18 r r1) fun _=>?_
      exact Ag 20 [] (gdA (beq_tt H14)) r (Y.not r)<|Ag 21 [] (gdA (beq_ff H13)) r (Pt H14 r)<|Ay 22 [] r (Pf H13 r)<|Az<|Bg () []
     exact Ax [10,11,12,13,14,15,16,17,18,19,20] [] (beq_ft H14) r r<|Ag 21 [] (gdA (beq_ff H13)) r (Pf H14 r)<|Ay 22 [] r (Pf H13 r)<|Az<|Bg () []
    exact Ne<|Wc r (fun H20=>Sr<|Qs 1 r<|Nx<|Wr<|Br<|Tr<|Er<|Br<|Jd<|Tr<|Re () []) fun H20=>Sk<|Bn<|Ne<|Rg<|Qs 3 r<|Nl<|Lg () []
   exact Wx<|Tx<|Ex<|Be<|Jg () []
  exact Ne<|Sr<|Qs 1 r<|Nx<|Wr<|Re () []

/-- loop.example/g00950/spec.MemOk -/
noncomputable def spec_MemOk (l : List Ent) : Option Bool :=
  (if (decide (((l.length : Nat) : Int) ≤ (60 : Int))) = true then ((spec_l9Ents l).bind fun R4 =>
  some R4)
  else (some false)).bind (fun (T1 : Bool) =>
  some T1)

theorem spec_MemOk_c {l : List Ent} {U0 : Value} : Cn Tryz.prog 37 [U0] [] [(U0, lc l)] (spec_MemOk l) (fun r (_ : Unit) => .bool r) fun _ _ => [] := by
  unfold spec_MemOk
  refine Ci Tryz.func37 r r ?_
  rintro w S ⟨Z0,-⟩
  refine Sr<|Qs 1 r<|Nx<|Sq<|Jv [] (fun T=>[(2, .bool T)]) r1 (?_) fun T1=>?_
  ·exact Rg<|Qs 1 r<|Yo (Ln ke54 (Bc Z0) r)<|Qs 2 r<|It (fun H3=>Qg 1 (beq_tt H3) r r<|Bi fun R4 H5=>Fg (gdA (beq_tt H3)) (Cl [] spec_l9Ents_c H5 r r1 ⟨(Bc Z0),⟨⟩⟩) fun _=>Yo (Pt H3 r)<|Qs 1 r<|Nl<|Bg () []) fun H3=>Of 2 (beq_ft H3) r r<|Yo (Pf H3 r)<|Qs 1 r<|Nl<|Bg () []
  exact Ne<|Wr<|Re () []

/-- loop.example/g00950/spec.l20Bounds -/
noncomputable def spec_l20Bounds (l : List Ent) : Option (Int × Int) :=
  bindC (loopO (fun (S1 : Int × Int × Int) => if (decide (S1.2.2 < ((l.length : Nat) : Int))) = true then ((idx l S1.2.2).bind fun E6 =>
  bindC (if (decide (E6.Seq < S1.1)) = true then (some (.go E6.Seq))
  else (some (.go S1.1)))
  (fun (T8 : Int) => bindC (if (decide (E6.Seq > S1.2.1)) = true then (some (.go E6.Seq))
  else (some (.go S1.2.1)))
  (fun (T11 : Int) => some (.go (T8, T11, IntKind.i64.wrap (S1.2.2 + (1 : Int)))))))
  else (some (.done (.go (S1.1, S1.2.1)))))
  ((1000001 : Int), (-1 : Int), (0 : Int)))
  (fun (T3 : Int × Int) => some (T3.1, T3.2))

theorem spec_l20Bounds_c {l : List Ent} {U0 : Value} : Cn Tryz.prog 38 [U0] [] [(U0, lc l)] (spec_l20Bounds l) (fun r (_ : Unit) => .tuple #[iv r.1, iv r.2]) fun _ _ => [] := by
  unfold spec_l20Bounds
  refine Ci Tryz.func38 r r ?_
  rintro w S ⟨Z0,-⟩
  refine Sr<|Qs 2 r<|Nx<|Sr<|Qs 1 r<|Nx<|Sr<|Qs 1 r<|Nx<|Sq<|Sr<|Qs 1 r<|Nx<|Ju [] (fun T=>[(4, iv T.1), (5, iv T.2)]) r1 (?_) fun T3=>?_
  ·refine Wb<|Lu [0] (fun T=>[(4, iv T.1), (5, iv T.2.1), (6, iv T.2.2)]) r1 fun S1=>Sq<|Sr<|Qs 2 r<|Yo (Ln ke54 (Bc Z0) r)<|Qs 1 r<|Nx<|Wc r (fun H5=>?_) fun H5=>?_
   ·refine Sn<|Sq<|Wb<|Sq<|Sr<|Qs 2 r<|Bi fun E6 H7=>Yo (Ix ke54 (Bc Z0) H7 r)<|Yo (Fe kf102_1 (Bc Z0) H7 r)<|Yo (Le kk3 (Bc Z0) H7 r)<|Qs 2 r<|Nx<|Ju [0,5,6] (fun T=>[(4, iv T)]) r1 (Wc r (fun H10=>Rg<|Qs 2 r<|Yo (Ix ke54 (Bc Z0) H7 r)<|Yo (Fe kf102_1 (Bc Z0) H7 r)<|Yo (Le kk3 (Bc Z0) H7 r)<|Qs 1 r<|Nl<|Jg () []) fun H10=>Sk<|Jg () []) fun T8=>Ne<|Sr<|Qs 2 r<|Yo (Ix ke54 (Bc Z0) H7 r)<|Yo (Fe kf102_1 (Bc Z0) H7 r)<|Yo (Le kk3 (Bc Z0) H7 r)<|Qs 2 r<|Nx<|Ju [0,4,6] (fun T=>[(5, iv T)]) r1 (Wc r (fun H13=>Rg<|Qs 2 r<|Yo (Ix ke54 (Bc Z0) H7 r)<|Yo (Fe kf102_1 (Bc Z0) H7 r)<|Yo (Le kk3 (Bc Z0) H7 r)<|Qs 1 r<|Nl<|Jg () []) fun H13=>Sk<|Jg () []) fun T11=>?_
    exact Bn<|Ne<|Rg<|Qs 3 r<|Nl<|Lg () []
   exact Wx<|Tx<|Ex<|Be<|Jg () []
  exact Ne<|Sr<|Qs 4 r<|Nx<|Wr<|Re () []

/-- loop.example/g00950/spec.EngOk -/
noncomputable def spec_EngOk (e : Eng) : Option Bool :=
  ((spec_MemOk e.Mem).bind fun R4 =>
  if (!R4) = true then (some true)
  else (if (decide (((e.Tables.length : Nat) : Int) > (6 : Int))) = true then (some true)
  else ((spec_l1In e.Seq (0 : Int) (1000000 : Int)).bind fun R9 =>
  if (!R9) = true then (some true)
  else (some (decide (((e.Snaps.length : Nat) : Int) > (4 : Int))))))).bind (fun (T2 : Bool) =>
  if T2 = true then (some false)
  else ((spec_l20Bounds e.Mem).bind fun R14 =>
  if (decide (R14.2 > e.Seq)) = true then (some false)
  else (bindC (loopO (fun (S18 : Int × Int × Int) => if (decide (S18.2.2 < ((e.Tables.length : Nat) : Int))) = true then ((idx e.Tables S18.2.2).bind fun E23 =>
  (spec_l20Bounds E23).bind fun R26 =>
  (if (decide (((E23.length : Nat) : Int) = (0 : Int))) = true then (some true)
  else ((spec_l9Ents E23).bind fun R32 =>
  if (!R32) = true then (some true)
  else (if (decide (R26.2 ≥ S18.1)) = true then (some true)
  else (some (decide (R26.2 > e.Seq)))))).bind (fun (T29 : Bool) =>
  if T29 = true then (some (.done (.done false)))
  else (some (.go (R26.1, IntKind.i64.wrap (S18.2.1 + ((E23.length : Nat) : Int)), IntKind.i64.wrap (S18.2.2 + (1 : Int)))))))
  else (some (.done (.go S18.2.1))))
  (R14.1, ((e.Mem.length : Nat) : Int), (0 : Int)))
  (fun (T20 : Int) => bindC (loopO (fun (S38 : Int) => if (decide (S38 < ((e.Snaps.length : Nat) : Int))) = true then (((idx e.Snaps S38).bind fun E45 =>
  (spec_l1In E45 (0 : Int) e.Seq).bind fun R47 =>
  if (!R47) = true then (some true)
  else (if (decide (S38 > (0 : Int))) = true then ((idx e.Snaps (IntKind.i64.wrap (S38 - (1 : Int)))).bind fun E52 =>
  some (decide (E52 ≥ E45)))
  else (some false))).bind (fun (T43 : Bool) =>
  if T43 = true then (some (.done (.done false)))
  else (some (.go (IntKind.i64.wrap (S38 + (1 : Int)))))))
  else (some (.done (.go ()))))
  (0 : Int))
  (fun (T40 : Unit) => some (decide (T20 ≤ (400 : Int))))))))

theorem spec_EngOk_c {e : Eng} {U0 U1 U2 : Value} : Cn Tryz.prog 16 [.agg #[U0, U1, iv e.Seq, U2]] [] [(U0, lc e.Mem), (U1, lc e.Tables), (U2, lc e.Snaps)] (spec_EngOk e) (fun r (_ : Unit) => .bool r) fun _ _ => [] := by
  unfold spec_EngOk
  refine Ci Tryz.func16 r r ?_
  rintro w S ⟨Z0,Z1,Z2,-⟩
  refine Sr<|Fo (Bx r (Ca ⟨Ob Z0,Ob Z1,Op',Ob Z2,⟨⟩⟩)) fun B1=>Qs 1 r<|Nx<|Sq<|Sq<|Jv [1] (fun T=>[(32, .bool T)]) r1 (?_) fun T2=>?_
  ·refine Rg<|Yo (Fb kf58_0 r)<|Yo (Lb 0 kk54 r)<|Bi fun R4 H5=>Fo (Cl [] spec_MemOk_c H5 r r1 ⟨(Bc Z0),⟨⟩⟩) fun _=>Qs 2 r<|It (fun H7=>Of 4 (beq_tf H7) r r<|Yo (Pt H7 r)<|Qs 1 r<|Of 4 r r r<|Yo (Pt r r)<|Qs 1 r<|Of 4 r r r<|Yo (Pt r r)<|Nl<|Bg () [0]) fun H7=>Yg (gdA (beq_ff H7)) (Fb kf58_1 r)<|Yg (gdA (beq_ff H7)) (Lb 0 kk55 r)<|Yg (gdA (beq_ff H7)) (Ln ke55 (Bc Z1) r)<|Qg 1 (beq_ff H7) r r<|Yo (Pf H7 r)<|Qs 1 r<|It (fun H8=>Of 4 (beq_tf H8) r r<|Yo (Pt H8 r)<|Qs 1 r<|Of 4 r r r<|Yo (Pt r r)<|Nl<|Bg () [0]) fun H8=>Yg (gdA (beq_ff H8)) (Fb kf58_2 r)<|Yg (gdA (beq_ff H8)) (Lb 0 kk3 r)<|Bi fun R9 H10=>?_
   exact Fg (gdA (beq_ff H8)) (Cl [] spec_l1In_c H10 r r1) fun _=>Qg 1 (beq_ff H8) r r<|Yo (Pf H8 r)<|Qs 1 r<|It (fun H12=>Of 4 (beq_tf H12) r r<|Yo (Pt H12 r)<|Nl<|Bg () [0]) fun H12=>Yg (gdA (beq_ff H12)) (Fb kf58_3 r)<|Yg (gdA (beq_ff H12)) (Lb 0 kk56 r)<|Yg (gdA (beq_ff H12)) (Ln ke56 (Bc Z2) r)<|Qg 1 (beq_ff H12) r r<|Yo (Pf H12 r)<|Nl<|Bg () [0]
  refine Ne<|Wc r (fun H13=>Sr<|Qs 1 r<|Nx<|Wr<|Tr<|Re () []) fun H13=>Sn<|Sr<|Yo (Fb kf58_0 r)<|Yo (Lb 0 kk54 r)<|Bi fun R14 H15=>Fo (Cl [] spec_l20Bounds_c H15 r r1 ⟨(Bc Z0),⟨⟩⟩) fun _=>Qs 5 r<|Nx<|Sq<|Sr<|Qs 1 r<|Yo (Fb kf58_2 r)<|Yo (Lb 0 kk3 r)<|Qs 1 r<|Nx<|Wc r (fun H17=>Sr<|Qs 1 r<|Nx<|Wr<|Tr<|Re () []) fun H17=>Sn<|Sr<|Yo (Fb kf58_0 r)<|Yo (Lb 0 kk54 r)<|Yo (Ln ke54 (Bc Z0) r)<|Qs 1 r<|Nx<|Sq<|Sr<|Qs 1 r<|Nx<|Ju [1] (fun T=>[(5, iv T)]) r1 (?_) fun T20=>?_
  ·refine Wb<|Lu [1] (fun T=>[(3, iv T.1), (5, iv T.2.1), (6, iv T.2.2)]) r1 fun S18=>Sq<|Sr<|Qs 1 r<|Yo (Fb kf58_1 r)<|Yo (Lb 0 kk55 r)<|Yo (Ln ke55 (Bc Z1) r)<|Qs 1 r<|Nx<|Wc r (fun H22=>?_) fun H22=>?_
   ·refine Sn<|Sq<|Wb<|Sr<|Yo (Fb kf58_1 r)<|Yo (Lb 0 kk55 r)<|Qs 1 r<|Bi fun E23 H24=>Yo (Ix ke55 (Bc Z1) H24 r)<|?_
    have Q25 : Base w S (elv w U1 (S18.2.2.toNat * 1 + 0)) (lc E23):=Base.el Z1 (idx_get H24).2.2 r r
    refine Yo (Lz kk54 Z1 H24 r)<|Qs 1 r<|Nx<|Sr<|Qs 1 r<|Bi fun R26 H27=>Fo (Cl [] spec_l20Bounds_c H27 r r1 ⟨(Bc Q25),⟨⟩⟩) fun _=>Qs 5 r<|Nx<|Sq<|Sq<|Jv [1,5,6,7,8] (fun T=>[(81, .bool T)]) r1 (?_) fun T29=>?_
    ·refine Rg<|Qs 1 r<|Yo (Ln ke54 (Bc Q25) r)<|Qs 2 r<|It (fun H31=>Of 3 (beq_tf H31) r r<|Yo (Pt H31 r)<|Qs 1 r<|Of 3 r r r<|Yo (Pt r r)<|Qs 1 r<|Of 4 r r r<|Yo (Pt r r)<|Nl<|Bg () [0]) fun H31=>Qg 1 (beq_ff H31) r r<|Bi fun R32 H33=>Fg (gdA (beq_ff H31)) (Cl [] spec_l9Ents_c H33 r r1 ⟨(Bc Q25),⟨⟩⟩) fun _=>Qg 1 (beq_ff H31) r r<|Yo (Pf H31 r)<|Qs 1 r<|It (fun H35=>Of 3 (beq_tf H35) r r<|Yo (Pt H35 r)<|Qs 1 r<|Of 4 r r r<|Yo (Pt r r)<|Nl<|Bg () [0]) fun H35=>Qg 3 (beq_ff H35) r r<|Yo (Pf H35 r)<|Qs 1 r<|It (fun H36=>Of 4 (beq_tf H36) r r<|Yo (Pt H36 r)<|Nl<|Bg () [0]) fun H36=>?_
     exact Qg 1 (beq_ff H36) r r<|Yg (gdA (beq_ff H36)) (Fb kf58_2 r)<|Yg (gdA (beq_ff H36)) (Lb 0 kk3 r)<|Qg 1 (beq_ff H36) r r<|Yo (Pf H36 r)<|Nl<|Bg () [0]
    exact Ne<|Wc r (fun H37=>Sr<|Qs 1 r<|Nx<|Wr<|Tr<|Br<|Tr<|Er<|Br<|Jd<|Tr<|Re () []) fun H37=>Sn<|Sr<|Qs 2 r<|Nx<|Rg<|Qs 2 r<|Yo (Ln ke54 (Bc Q25) r)<|Qs 2 r<|Nl<|Bn<|Ne<|Rg<|Qs 3 r<|Nl<|Lg () [0]
   exact Wx<|Tx<|Ex<|Be<|Jg () [0]
  refine Ne<|Sq<|Sr<|Qs 1 r<|Nx<|Jn Unit [5] [] (fun _ _=>[]) (fun _ _=>[]) r2 r2 (?_) fun T40 X41=>?_
  ·refine Wb<|Lu [1,5] (fun T=>[(10, iv T)]) r1 fun S38=>Sq<|Sr<|Qs 1 r<|Yo (Fb kf58_3 r)<|Yo (Lb 0 kk56 r)<|Yo (Ln ke56 (Bc Z2) r)<|Qs 1 r<|Nx<|Wc r (fun H42=>?_) fun H42=>?_
   ·refine Sn<|Sq<|Wb<|Sq<|Jv [1,5,10] (fun T=>[(120, .bool T)]) r1 (?_) fun T43=>?_
    ·refine Dr [0] r hMix<|Ay 0 [0] r (Fb kf58_3 r)<|Ay 1 [0] r (Lb 0 kk56 r)<|Aq [2] [0] r<|Ai fun E45 H46=>Ay 3 [0] r (Ix ke56 (Bc Z2) H46 r)<|Ay 4 [0] r (Le kk3 (Bc Z2) H46 r)<|Ay 5 [0] r (Fb kf58_2 r)<|Ay 6 [0] r (Lb 0 kk3 r)<|Ai fun R47 H48=>A1 7<|Xe [0] r (Cl [] spec_l1In_c H48 r r1) fun _=>Aq [8,9] [0] r<|Ia (fun H50=>Ax [10,11,12] [0] (beq_tf H50) r r<|Au [13,14,15,16,17,18,19,20,21,22,23,24] [0] r r<|Ax [25] [0] (beq_tf H50) r r<|Ay 26 [0] r (Pt H50 r)<|Az<|Bg () [0]) fun H50=>Ag 10 [0] (gdA (beq_ff H50)) r (Y.move r)<|Ag 11 [0] (gdA (beq_ff H50)) r (Y.gtr r r)<|Ag 12 [0] (gdA (beq_ff H50)) r (Y.move r)<|Ia (fun H51=>?_) fun H51=>?_
     ·exact Ag 13 [0] (gdA (beq_tt H51)) r (Fb kf58_3 r)<|Ag 14 [0] (gdA (beq_tt H51)) r (Lb 0 kk56 r)<|Ag 15 [0] (gdA (beq_tt H51)) r (Y.move r)<|Ag 16 [0] (gdA (beq_tt H51)) r (Y.sub r r)<|Ai fun E52 H53=>Ag 17 [0] (gdA (beq_tt H51)) r (Ix ke56 (Bc Z2) H53 r)<|Ag 18 [0] (gdA (beq_tt H51)) r (Le kk3 (Bc Z2) H53 r)<|Ag 19 [0] (gdA (beq_tt H51)) r (Fb kf58_3 r)<|Ag 20 [0] (gdA (beq_tt H51)) r (Lb 0 kk56 r)<|Ag 21 [0] (gdA (beq_tt H51)) r (Y.move r)<|Ag 22 [0] (gdA (beq_tt H51)) r (Ix ke56 (Bc Z2) H46 r)<|Ag 23 [0] (gdA (beq_tt H51)) r (Le kk3 (Bc Z2) H46 r)<|Ag 24 [0] (gdA (beq_tt H51)) r (Y.geq r r)<|Ag 25 [0] (gdA (beq_ff H50)) r (Pt H51 r)<|Ay 26 [0] r (Pf H50 r)<|Az<|Bg () [0]
     exact Ax [13,14,15,16,17,18,19,20,21,22,23,24] [0] (beq_ft H51) r r<|Ag 25 [0] (gdA (beq_ff H50)) r (Pf H51 r)<|Ay 26 [0] r (Pf H50 r)<|Az<|Bg () [0]
    exact Ne<|Wc r (fun H54=>Sr<|Qs 1 r<|Nx<|Wr<|Br<|Tr<|Er<|Br<|Jd<|Tr<|Re () []) fun H54=>Sk<|Bn<|Ne<|Rg<|Qs 3 r<|Nl<|Lg () [0]
   exact Wx<|Tx<|Ex<|Be<|Jg () []
  exact Ne<|Sr<|Qs 3 r<|Nx<|Wr<|Re () []

/-- loop.example/g00950/spec.KeyOf -/
noncomputable def spec_KeyOf (d : KeyDev) (tenant : Int) : Option (List UInt8) :=
  bindC (loopO (fun (S2 : Int) => (if (decide (S2 < ((d.Slots.length : Nat) : Int))) = true then ((spec_KeyOk d).bind fun R9 =>
  some R9)
  else (some false)).bind (fun (T6 : Bool) =>
  if T6 = true then ((idx d.Slots S2).bind fun E13 =>
  if (decide (E13.Tenant = tenant)) = true then (some (.done (.done E13.Key)))
  else (some (.go (IntKind.i64.wrap (S2 + (1 : Int))))))
  else (some (.done (.go ())))))
  (0 : Int))
  (fun (T4 : Unit) => some ([]))

theorem spec_KeyOf_c {d : KeyDev} {tenant : Int} {U0 : Value} : Cn Tryz.prog 40 [.agg #[strV d.Master, U0, iv d.Wiped], iv tenant] [] [(U0, lc d.Slots)] (spec_KeyOf d tenant) (fun r (_ : Unit) => strV r) fun _ _ => [] := by
  unfold spec_KeyOf
  refine Ci Tryz.func40 r r ?_
  rintro w S ⟨Z0,-⟩
  refine Sr<|Fo (Bx r (Ca ⟨Op',Ob Z0,Op',⟨⟩⟩)) fun B1=>Qs 1 r<|Nx<|Sq<|Sr<|Qs 1 r<|Nx<|Jn Unit [] [] (fun _ _=>[]) (fun _ _=>[]) r2 r2 (?_) fun T4 X5=>?_
  ·refine Wb<|Lu [1,2] (fun T=>[(5, iv T)]) r1 fun S2=>Sq<|Sq<|Jv [1,2,5] (fun T=>[(14, .bool T)]) r1 (?_) fun T6=>?_
   ·exact Rg<|Qs 1 r<|Yo (Fb kf36_1 r)<|Yo (Lb 0 kk34 r)<|Yo (Ln ke34 (Bc Z0) r)<|Qs 2 r<|It (fun H8=>Yg (gdA (beq_tt H8)) (Lb 0 kk36 r)<|Bi fun R9 H10=>Fg (gdA (beq_tt H8)) (Cl [] spec_KeyOk_c H10 r r1 ⟨(Bc Z0),⟨⟩⟩) fun _=>Yo (Pt H8 r)<|Nl<|Bg () [0]) fun H8=>Of 2 (beq_ft H8) r r<|Yo (Pf H8 r)<|Nl<|Bg () [0]
   refine Ne<|Wc r (fun H12=>?_) fun H12=>?_
   ·exact Sn<|Sq<|Wb<|Sr<|Yo (Fb kf36_1 r)<|Yo (Lb 0 kk34 r)<|Qs 1 r<|Bi fun E13 H14=>Yo (Ix ke34 (Bc Z0) H14 r)<|Yo (Fe kf62_0 (Bc Z0) H14 r)<|Yo (Le kk3 (Bc Z0) H14 r)<|Qs 2 r<|Nx<|Wc r (fun H15=>Sr<|Yo (Fb kf36_1 r)<|Yo (Lb 0 kk34 r)<|Qs 1 r<|Yo (Ix ke34 (Bc Z0) H14 r)<|Yo (Fe kf62_1 (Bc Z0) H14 r)<|Yo (Le kk9 (Bc Z0) H14 r)<|Qs 1 r<|Nx<|Wr<|Br<|Tr<|Er<|Br<|Jd<|Tr<|Re () []) fun H15=>Sk<|Bn<|Ne<|Rg<|Qs 3 r<|Nl<|Lg () [0]
   exact Wx<|Tx<|Ex<|Be<|Jg () []
  exact Ne<|Sr<|Qs 1 r<|Nx<|Wr<|Re () []

/-- loop.example/g00950/spec.l8At -/
noncomputable def spec_l8At (boot : Int) (seq : Int) : Option Bool :=
  ((spec_l1In boot (0 : Int) (1000 : Int)).bind fun R3 =>
  if R3 = true then ((spec_l1In seq (0 : Int) (999999 : Int)).bind fun R7 =>
  some R7)
  else (some false)).bind (fun (T1 : Bool) =>
  some T1)

theorem spec_l8At_c {boot : Int} {seq : Int} : Cn Tryz.prog 65 [iv boot, iv seq] [] [] (spec_l8At boot seq) (fun r (_ : Unit) => .bool r) fun _ _ => [] := by
  unfold spec_l8At
  refine Ci Tryz.func65 r r ?_
  rintro w S -
  refine Sr<|Qs 1 r<|Nx<|Sq<|Jv [] (fun T=>[(4, .bool T)]) r1 (?_) fun T1=>?_
  ·exact Rg<|Qs 1 r<|Bi fun R3 H4=>Fo (Cl [] spec_l1In_c H4 r r1) fun _=>Qs 1 r<|It (fun H6=>Qg 1 (beq_tt H6) r r<|Bi fun R7 H8=>Fg (gdA (beq_tt H6)) (Cl [] spec_l1In_c H8 r r1) fun _=>Yo (Pt H6 r)<|Qs 1 r<|Nl<|Bg () []) fun H6=>Of 2 (beq_ft H6) r r<|Yo (Pf H6 r)<|Qs 1 r<|Nl<|Bg () []
  exact Ne<|Wr<|Re () []

/-- loop.example/g00950/spec.Fixed -/
noncomputable def spec_Fixed (n : Int) (width : Int) : Option (List UInt8) :=
  ((spec_l1In width (1 : Int) (7 : Int)).bind fun R3 =>
  if (!R3) = true then (some true)
  else (some (decide (n < (0 : Int))))).bind (fun (T1 : Bool) =>
  if T1 = true then (some ([]))
  else (bindC (loopO (fun (S8 : Int × List UInt8 × Int) => if (decide (S8.2.2 < width)) = true then ((cat ([toU8 (Int.tmod S8.1 (256 : Int))]) S8.2.1).bind fun E14 =>
  some (.go (IntKind.i64.wrap (Int.tdiv S8.1 (256 : Int)), E14, IntKind.i64.wrap (S8.2.2 + (1 : Int)))))
  else (some (.done (.go (S8.1, S8.2.1)))))
  (n, [], (0 : Int)))
  (fun (T10 : Int × List UInt8) => if (decide (T10.1 > (0 : Int))) = true then (some ([]))
  else (some T10.2))))

theorem spec_Fixed_c {n : Int} {width : Int} : Cn Tryz.prog 92 [iv n, iv width] [] [] (spec_Fixed n width) (fun r (_ : Unit) => strV r) fun _ _ => [] := by
  unfold spec_Fixed
  refine Ci Tryz.func92 r r ?_
  rintro w S -
  refine Sr<|Qs 1 r<|Nx<|Sq<|Sq<|Jv [0,1] (fun T=>[(13, .bool T)]) r1 (Rg<|Qs 1 r<|Bi fun R3 H4=>Fo (Cl [] spec_l1In_c H4 r r1) fun _=>Qs 2 r<|It (fun H6=>Of 2 (beq_tf H6) r r<|Yo (Pt H6 r)<|Nl<|Bg () []) fun H6=>Qg 2 (beq_ff H6) r r<|Yo (Pf H6 r)<|Nl<|Bg () []) fun T1=>Ne<|Wc r (fun H7=>Sr<|Qs 1 r<|Nx<|Wr<|Tr<|Re () []) fun H7=>Sn<|Sr<|Qs 1 r<|Nx<|Sq<|Sr<|Qs 1 r<|Nx<|Ju [] (fun T=>[(0, iv T.1), (5, strV T.2)]) r1 (?_) fun T10=>?_
  ·refine Wb<|Lu [1] (fun T=>[(0, iv T.1), (5, strV T.2.1), (6, iv T.2.2)]) r1 fun S8=>Sq<|Sr<|Qs 3 r<|Nx<|Wc r (fun H12=>?_) fun H12=>?_
   ·exact Sn<|Sq<|Wb<|Sr<|Qs 1 r<|Yo (Y.rem (by decide) r r)<|Yo (Y.conv8 ki3 ki5 r)<|Fo (Bs [toU8 (Int.tmod S8.1 (256 : Int))] ke147 kz5) fun B13=>Yo (Y.toStr ke147 ki5 ks9 (Oc 0 r) r)<|Qs 1 r<|Bi fun E14 H15=>Yo (Y.cat H15 r r)<|Qs 1 r<|Nx<|Rg<|Qs 1 r<|Yo (Y.quo (by decide) r r)<|Qs 1 r<|Nl<|Bn<|Ne<|Rg<|Qs 3 r<|Nl<|Lg () []
   exact Wx<|Tx<|Ex<|Be<|Jg () []
  exact Ne<|Sq<|Sr<|Qs 2 r<|Nx<|Wc r (fun H16=>Sr<|Qs 1 r<|Nx<|Wr<|Tr<|Re () []) fun H16=>Sn<|Sr<|Qs 2 r<|Nx<|Wr<|Re () []

/-- loop.example/g00950/spec.NonceOf -/
noncomputable def spec_NonceOf (kind : Int) (n : Int) : Option (List UInt8) :=
  ((spec_l1In kind (0 : Int) (255 : Int)).bind fun R3 =>
  if (!R3) = true then (some true)
  else ((spec_l1In n (0 : Int) (562949953421311 : Int)).bind fun R7 =>
  some (!R7))).bind (fun (T1 : Bool) =>
  if T1 = true then (some ([]))
  else ((spec_Fixed n (7 : Int)).bind fun R12 =>
  (cat ([toU8 kind, (0 : UInt8), (0 : UInt8), (0 : UInt8), (0 : UInt8)]) R12).bind fun E17 =>
  some E17))

theorem spec_NonceOf_c {kind : Int} {n : Int} : Cn Tryz.prog 68 [iv kind, iv n] [] [] (spec_NonceOf kind n) (fun r (_ : Unit) => strV r) fun _ _ => [] := by
  unfold spec_NonceOf
  refine Ci Tryz.func68 r r ?_
  rintro w S -
  refine Sr<|Qs 1 r<|Nx<|Sq<|Sq<|Jv [0,1] (fun T=>[(12, .bool T)]) r1 (?_) fun T1=>?_
  ·exact Rg<|Qs 1 r<|Bi fun R3 H4=>Fo (Cl [] spec_l1In_c H4 r r1) fun _=>Qs 2 r<|It (fun H6=>Of 3 (beq_tf H6) r r<|Yo (Pt H6 r)<|Nl<|Bg () []) fun H6=>Qg 1 (beq_ff H6) r r<|Bi fun R7 H8=>Fg (gdA (beq_ff H6)) (Cl [] spec_l1In_c H8 r r1) fun _=>Qg 1 (beq_ff H6) r r<|Yo (Pf H6 r)<|Nl<|Bg () []
  refine Ne<|Wc r (fun H10=>Sr<|Qs 1 r<|Nx<|Wr<|Tr<|Re () []) fun H10=>Sn<|Sq<|Wi fun R12 H13=>Wi fun E17 H18=>Jw Unit [] [] (fun _=>[(4, strV E17)]) (fun _=>[]) r1 r1 (?_) fun X20=>?_
  ·refine Dr [] r hMix<|Aq [0] [] r<|Ay 1 [] r (Y.conv8 ki3 ki5 r)<|Aq [4] [] r<|A2 2 5 (?_)<|?_
   ·exact Xe [] r (Bs [toU8 kind, (0 : UInt8), (0 : UInt8), (0 : UInt8), (0 : UInt8)] ke147 kz5) fun B21=>A2 3 5 (Xy [] r (Y.toStr ke147 ki5 ks9 (Oc 0 r) r)<|A1 5<|Xe [] r (Cl [] spec_Fixed_c H13 r r1) fun _=>Ay 6 [] r (Y.cat H18 r r)<|Aq [7] [] r<|Az<|Bg () [])<|Xe [] r (Cl [] spec_Fixed_c H13 r r1) fun _=>A1 3<|Xy [] r (Y.toStr ke147 ki5 ks9 (Oc 0 r) r)<|Ay 6 [] r (Y.cat H18 r r)<|Aq [7] [] r<|Az<|Bg () []
   exact Xe [] r (Cl [] spec_Fixed_c H13 r r1) fun _=>A1 2<|Xe [] r (Bs [toU8 kind, (0 : UInt8), (0 : UInt8), (0 : UInt8), (0 : UInt8)] ke147 kz5) fun B23=>A1 3<|Xy [] r (Y.toStr ke147 ki5 ks9 (Oc 0 r) r)<|Ay 6 [] r (Y.cat H18 r r)<|Aq [7] [] r<|Az<|Bg () []
  exact Ne<|Wr<|Re () []

/-- loop.example/g00950/spec.l3Little -/
noncomputable def spec_l3Little (s : List UInt8) (at_ : Int) : Option Int :=
  (sidx s at_).bind fun E1 =>
  (sidx s (IntKind.i64.wrap (at_ + (1 : Int)))).bind fun E3 =>
  (sidx s (IntKind.i64.wrap (at_ + (2 : Int)))).bind fun E5 =>
  (sidx s (IntKind.i64.wrap (at_ + (3 : Int)))).bind fun E7 =>
  some (ior .i64 (ior .i64 (ior .i64 (IntKind.i64.wrap ((E1.toNat : Nat) : Int)) (ishl .i64 (IntKind.i64.wrap ((E3.toNat : Nat) : Int)) (8 : Int))) (ishl .i64 (IntKind.i64.wrap ((E5.toNat : Nat) : Int)) (16 : Int))) (ishl .i64 (IntKind.i64.wrap ((E7.toNat : Nat) : Int)) (24 : Int)))

theorem spec_l3Little_c {s : List UInt8} {at_ : Int} : Cn Tryz.prog 135 [strV s, iv at_] [] [] (spec_l3Little s at_) (fun r (_ : Unit) => iv r) fun _ _ => [] := by
  unfold spec_l3Little
  refine Ci Tryz.func135 r r ?_
  rintro w S -
  exact Sr<|Qs 1 r<|Nx<|Sq<|Dr [] r hMix<|Aq [0,1] [] r<|Ai fun E1 H2=>Ay 2 [] r (Y.sidx H2 ks9 r r)<|Ay 3 [] r (Y.conv ki5 ki3 r)<|Aq [4,5,6] [] r<|Ai fun E3 H4=>Ay 7 [] r (Y.sidx H4 ks9 r r)<|Ay 8 [] r (Y.conv ki5 ki3 r)<|Ay 9 [] r (Y.shl (by decide) r r)<|Aq [10,11,12,13] [] r<|Ai fun E5 H6=>Ay 14 [] r (Y.sidx H6 ks9 r r)<|Ay 15 [] r (Y.conv ki5 ki3 r)<|Ay 16 [] r (Y.shl (by decide) r r)<|Aq [17,18,19,20] [] r<|Ai fun E7 H8=>Ay 21 [] r (Y.sidx H8 ks9 r r)<|Ay 22 [] r (Y.conv ki5 ki3 r)<|Ay 23 [] r (Y.shl (by decide) r r)<|Aq [24,25] [] r<|Az<|Ne<|Wr<|Re () []

/-- loop.example/g00950/spec.l3Word -/
noncomputable def spec_l3Word (x : Int) : Option Int :=
  some (iand .i64 x (4294967295 : Int))

theorem spec_l3Word_c {x : Int} : Cn Tryz.prog 137 [iv x] [] [] (spec_l3Word x) (fun r (_ : Unit) => iv r) fun _ _ => [] := by
  unfold spec_l3Word
  refine Ci Tryz.func137 r r ?_
  rintro w S -
  exact Sr<|Qs 1 r<|Nx<|Sr<|Qs 3 r<|Nx<|Wr<|Re () []

/-- loop.example/g00950/spec.l3Left -/
noncomputable def spec_l3Left (x : Int) (n : Int) : Option Int :=
  (nn n).bind fun E1 =>
  (spec_l3Word (ior .i64 (ishl .i64 x n) (ishr .i64 x (IntKind.u64.wrap ((32 : Int) - n))))).bind fun R3 =>
  some R3

theorem spec_l3Left_c {x : Int} {n : Int} : Cn Tryz.prog 150 [iv x, .int .u64 n] [] [] (spec_l3Left x n) (fun r (_ : Unit) => iv r) fun _ _ => [] := by
  unfold spec_l3Left
  refine Ci Tryz.func150 r r ?_
  rintro w S -
  exact Sr<|Qs 1 r<|Nx<|Sr<|Qs 2 r<|Bi fun E1 H2=>Yo (Y.shl (nn_ge H2) r r)<|Qs 3 r<|Yo (Y.shr (wrap_u_nonneg r _) r r)<|Qs 1 r<|Bi fun R3 H4=>Fo (Cl [] spec_l3Word_c H4 r r1) fun _=>Qs 1 r<|Nx<|Wr<|Re () []

end Go.Proofs.YtkheimgjallpkaaGreat
