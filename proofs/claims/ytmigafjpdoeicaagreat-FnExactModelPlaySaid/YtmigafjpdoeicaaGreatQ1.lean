/-
  The functions that a law reaches, each as a pure function, with the proof that the program computes it, and the step from a pure law to the given statement. Conditions: none.
-/
import Derived.Test.YtmigafjpdoeicaaGreatSw
import Derived.Test.YtmigafjpdoeicaaGreatSz
import Derived.Test.YtmigafjpdoeicaaGreatRows
import Derived.Test.YtmigafjpdoeicaaGreatSx
set_option linter.unusedVariables false
set_option maxRecDepth 100000
set_option maxHeartbeats 4000000
namespace Go.Proofs.YtmigafjpdoeicaaGreat
open Go Sl
structure L1Cur where
  b : List UInt8
  i : Int
  h : Int
  deriving DecidableEq
instance : Enc L1Cur := ⟨3, fun x => [lc x.b, .int .i64 x.i, .int .i64 x.h], fun _ => rfl, by decide⟩
instance : Dec L1Cur where
  sh := [.sl 1 (Dec.sh UInt8), .int .i64, .int .i64]
  ok x := okl x.b ∧ okI x.i ∧ okI x.h
  dec cs h := by
    obtain ⟨c0, r0, rfl, h0, h⟩ := h.cons_inv
    obtain ⟨c1, r1, rfl, h1, h⟩ := h.cons_inv
    obtain ⟨c2, r2, rfl, h2, h⟩ := h.cons_inv
    obtain rfl := h.nil_inv
    obtain ⟨y0, rfl, w0⟩ := h0.sl_inv (α := UInt8) rfl
    obtain ⟨y1, rfl, w1_⟩ := h1.int_inv
    have w1 := okI_of w1_
    obtain ⟨y2, rfl, w2_⟩ := h2.int_inv
    have w2 := okI_of w2_
    exact ⟨{ b := y0, i := y1, h := y2 : L1Cur }, rfl, w0, w1, w2⟩
structure Op where
  Key : List UInt8
  Del : Bool
  Val : List UInt8
  deriving DecidableEq
instance : Enc Op := ⟨3, fun x => [.str x.Key, .bool x.Del, .str x.Val], fun _ => rfl, by decide⟩
instance : Dec Op where
  sh := [.str, .bool, .str]
  ok x := x.Key.length ≤ 9223372036854775807 ∧ True ∧ x.Val.length ≤ 9223372036854775807
  dec cs h := by
    obtain ⟨c0, r0, rfl, h0, h⟩ := h.cons_inv
    obtain ⟨c1, r1, rfl, h1, h⟩ := h.cons_inv
    obtain ⟨c2, r2, rfl, h2, h⟩ := h.cons_inv
    obtain rfl := h.nil_inv
    obtain ⟨y0, rfl, w0⟩ := h0.str_inv
    obtain ⟨y1, rfl⟩ := h1.bool_inv
    have w1 := True.intro
    obtain ⟨y2, rfl, w2⟩ := h2.str_inv
    exact ⟨{ Key := y0, Del := y1, Val := y2 : Op }, rfl, w0, w1, w2⟩
instance : Flat Op := { vals := fun x => [strV x.Key, .bool x.Del, strV x.Val], flat := fun _ => rfl }
structure Call where
  Kind : Int
  Token : List UInt8
  Tenant : Int
  N : Int
  Key : List UInt8
  To : List UInt8
  Ops : List Op
  deriving DecidableEq
instance : Enc Call := ⟨7, fun x => [.int .i64 x.Kind, .str x.Token, .int .i64 x.Tenant, .int .i64 x.N, .str x.Key, .str x.To, lc x.Ops], fun _ => rfl, by decide⟩
instance : Dec Call where
  sh := [.int .i64, .str, .int .i64, .int .i64, .str, .str, .sl 3 (Dec.sh Op)]
  ok x := okI x.Kind ∧ x.Token.length ≤ 9223372036854775807 ∧ okI x.Tenant ∧ okI x.N ∧ x.Key.length ≤ 9223372036854775807 ∧ x.To.length ≤ 9223372036854775807 ∧ okl x.Ops
  dec cs h := by
    obtain ⟨c0, r0, rfl, h0, h⟩ := h.cons_inv
    obtain ⟨c1, r1, rfl, h1, h⟩ := h.cons_inv
    obtain ⟨c2, r2, rfl, h2, h⟩ := h.cons_inv
    obtain ⟨c3, r3, rfl, h3, h⟩ := h.cons_inv
    obtain ⟨c4, r4, rfl, h4, h⟩ := h.cons_inv
    obtain ⟨c5, r5, rfl, h5, h⟩ := h.cons_inv
    obtain ⟨c6, r6, rfl, h6, h⟩ := h.cons_inv
    obtain rfl := h.nil_inv
    obtain ⟨y0, rfl, w0_⟩ := h0.int_inv
    have w0 := okI_of w0_
    obtain ⟨y1, rfl, w1⟩ := h1.str_inv
    obtain ⟨y2, rfl, w2_⟩ := h2.int_inv
    have w2 := okI_of w2_
    obtain ⟨y3, rfl, w3_⟩ := h3.int_inv
    have w3 := okI_of w3_
    obtain ⟨y4, rfl, w4⟩ := h4.str_inv
    obtain ⟨y5, rfl, w5⟩ := h5.str_inv
    obtain ⟨y6, rfl, w6⟩ := h6.sl_inv (α := Op) rfl
    exact ⟨{ Kind := y0, Token := y1, Tenant := y2, N := y3, Key := y4, To := y5, Ops := y6 : Call }, rfl, w0, w1, w2, w3, w4, w5, w6⟩
structure Share where
  Tenant : Int
  Quota : Int
  deriving DecidableEq
instance : Enc Share := ⟨2, fun x => [.int .i64 x.Tenant, .int .i64 x.Quota], fun _ => rfl, by decide⟩
instance : Dec Share where
  sh := [.int .i64, .int .i64]
  ok x := okI x.Tenant ∧ okI x.Quota
  dec cs h := by
    obtain ⟨c0, r0, rfl, h0, h⟩ := h.cons_inv
    obtain ⟨c1, r1, rfl, h1, h⟩ := h.cons_inv
    obtain rfl := h.nil_inv
    obtain ⟨y0, rfl, w0_⟩ := h0.int_inv
    have w0 := okI_of w0_
    obtain ⟨y1, rfl, w1_⟩ := h1.int_inv
    have w1 := okI_of w1_
    exact ⟨{ Tenant := y0, Quota := y1 : Share }, rfl, w0, w1⟩
instance : Flat Share := { vals := fun x => [.int .i64 x.Tenant, .int .i64 x.Quota], flat := fun _ => rfl }
structure Shares where
  Size : Int
  List : _root_.List Share
  deriving DecidableEq
instance : Enc Shares := ⟨2, fun x => [.int .i64 x.Size, lc x.List], fun _ => rfl, by decide⟩
instance : Dec Shares where
  sh := [.int .i64, .sl 2 (Dec.sh Share)]
  ok x := okI x.Size ∧ okl x.List
  dec cs h := by
    obtain ⟨c0, r0, rfl, h0, h⟩ := h.cons_inv
    obtain ⟨c1, r1, rfl, h1, h⟩ := h.cons_inv
    obtain rfl := h.nil_inv
    obtain ⟨y0, rfl, w0_⟩ := h0.int_inv
    have w0 := okI_of w0_
    obtain ⟨y1, rfl, w1⟩ := h1.sl_inv (α := Share) rfl
    exact ⟨{ Size := y0, List := y1 : Shares }, rfl, w0, w1⟩
structure KV where
  Key : List UInt8
  Val : List UInt8
  deriving DecidableEq
instance : Enc KV := ⟨2, fun x => [.str x.Key, .str x.Val], fun _ => rfl, by decide⟩
instance : Dec KV where
  sh := [.str, .str]
  ok x := x.Key.length ≤ 9223372036854775807 ∧ x.Val.length ≤ 9223372036854775807
  dec cs h := by
    obtain ⟨c0, r0, rfl, h0, h⟩ := h.cons_inv
    obtain ⟨c1, r1, rfl, h1, h⟩ := h.cons_inv
    obtain rfl := h.nil_inv
    obtain ⟨y0, rfl, w0⟩ := h0.str_inv
    obtain ⟨y1, rfl, w1⟩ := h1.str_inv
    exact ⟨{ Key := y0, Val := y1 : KV }, rfl, w0, w1⟩
instance : Flat KV := { vals := fun x => [strV x.Key, strV x.Val], flat := fun _ => rfl }
structure MSnap where
  Seq : Int
  Map : List KV
  deriving DecidableEq
instance : Enc MSnap := ⟨2, fun x => [.int .i64 x.Seq, lc x.Map], fun _ => rfl, by decide⟩
instance : Dec MSnap where
  sh := [.int .i64, .sl 2 (Dec.sh KV)]
  ok x := okI x.Seq ∧ okl x.Map
  dec cs h := by
    obtain ⟨c0, r0, rfl, h0, h⟩ := h.cons_inv
    obtain ⟨c1, r1, rfl, h1, h⟩ := h.cons_inv
    obtain rfl := h.nil_inv
    obtain ⟨y0, rfl, w0_⟩ := h0.int_inv
    have w0 := okI_of w0_
    obtain ⟨y1, rfl, w1⟩ := h1.sl_inv (α := KV) rfl
    exact ⟨{ Seq := y0, Map := y1 : MSnap }, rfl, w0, w1⟩
structure MTen where
  Id : Int
  Epoch : Int
  Seq : Int
  Map : List KV
  Snaps : List MSnap
  deriving DecidableEq
instance : Enc MTen := ⟨5, fun x => [.int .i64 x.Id, .int .i64 x.Epoch, .int .i64 x.Seq, lc x.Map, lc x.Snaps], fun _ => rfl, by decide⟩
instance : Dec MTen where
  sh := [.int .i64, .int .i64, .int .i64, .sl 2 (Dec.sh KV), .sl 2 (Dec.sh MSnap)]
  ok x := okI x.Id ∧ okI x.Epoch ∧ okI x.Seq ∧ okl x.Map ∧ okl x.Snaps
  dec cs h := by
    obtain ⟨c0, r0, rfl, h0, h⟩ := h.cons_inv
    obtain ⟨c1, r1, rfl, h1, h⟩ := h.cons_inv
    obtain ⟨c2, r2, rfl, h2, h⟩ := h.cons_inv
    obtain ⟨c3, r3, rfl, h3, h⟩ := h.cons_inv
    obtain ⟨c4, r4, rfl, h4, h⟩ := h.cons_inv
    obtain rfl := h.nil_inv
    obtain ⟨y0, rfl, w0_⟩ := h0.int_inv
    have w0 := okI_of w0_
    obtain ⟨y1, rfl, w1_⟩ := h1.int_inv
    have w1 := okI_of w1_
    obtain ⟨y2, rfl, w2_⟩ := h2.int_inv
    have w2 := okI_of w2_
    obtain ⟨y3, rfl, w3⟩ := h3.sl_inv (α := KV) rfl
    obtain ⟨y4, rfl, w4⟩ := h4.sl_inv (α := MSnap) rfl
    exact ⟨{ Id := y0, Epoch := y1, Seq := y2, Map := y3, Snaps := y4 : MTen }, rfl, w0, w1, w2, w3, w4⟩
structure MRow where
  Tenant : Int
  Ops : List Op
  Synced : Bool
  deriving DecidableEq
instance : Enc MRow := ⟨3, fun x => [.int .i64 x.Tenant, lc x.Ops, .bool x.Synced], fun _ => rfl, by decide⟩
instance : Dec MRow where
  sh := [.int .i64, .sl 3 (Dec.sh Op), .bool]
  ok x := okI x.Tenant ∧ okl x.Ops ∧ True
  dec cs h := by
    obtain ⟨c0, r0, rfl, h0, h⟩ := h.cons_inv
    obtain ⟨c1, r1, rfl, h1, h⟩ := h.cons_inv
    obtain ⟨c2, r2, rfl, h2, h⟩ := h.cons_inv
    obtain rfl := h.nil_inv
    obtain ⟨y0, rfl, w0_⟩ := h0.int_inv
    have w0 := okI_of w0_
    obtain ⟨y1, rfl, w1⟩ := h1.sl_inv (α := Op) rfl
    obtain ⟨y2, rfl⟩ := h2.bool_inv
    have w2 := True.intro
    exact ⟨{ Tenant := y0, Ops := y1, Synced := y2 : MRow }, rfl, w0, w1, w2⟩
structure Model where
  Secret : List UInt8
  Shares : Shares
  Tens : List MTen
  Base : List MTen
  Rows : List MRow
  deriving DecidableEq
instance : Enc Model := ⟨6, fun x => [.str x.Secret, .int .i64 x.Shares.Size, lc x.Shares.List, lc x.Tens, lc x.Base, lc x.Rows], fun _ => rfl, by decide⟩
instance : Dec Model where
  sh := [.str, .int .i64, .sl 2 (Dec.sh Share), .sl 5 (Dec.sh MTen), .sl 5 (Dec.sh MTen), .sl 3 (Dec.sh MRow)]
  ok x := x.Secret.length ≤ 9223372036854775807 ∧ okI x.Shares.Size ∧ okl x.Shares.List ∧ okl x.Tens ∧ okl x.Base ∧ okl x.Rows
  dec cs h := by
    obtain ⟨c0, r0, rfl, h0, h⟩ := h.cons_inv
    obtain ⟨c1, r1, rfl, h1, h⟩ := h.cons_inv
    obtain ⟨c2, r2, rfl, h2, h⟩ := h.cons_inv
    obtain ⟨c3, r3, rfl, h3, h⟩ := h.cons_inv
    obtain ⟨c4, r4, rfl, h4, h⟩ := h.cons_inv
    obtain ⟨c5, r5, rfl, h5, h⟩ := h.cons_inv
    obtain rfl := h.nil_inv
    obtain ⟨y0, rfl, w0⟩ := h0.str_inv
    obtain ⟨y1, rfl, w1_⟩ := h1.int_inv
    have w1 := okI_of w1_
    obtain ⟨y2, rfl, w2⟩ := h2.sl_inv (α := Share) rfl
    obtain ⟨y3, rfl, w3⟩ := h3.sl_inv (α := MTen) rfl
    obtain ⟨y4, rfl, w4⟩ := h4.sl_inv (α := MTen) rfl
    obtain ⟨y5, rfl, w5⟩ := h5.sl_inv (α := MRow) rfl
    exact ⟨{ Secret := y0, Shares := { Size := y1, List := y2 : Shares }, Tens := y3, Base := y4, Rows := y5 : Model }, rfl, w0, w1, w2, w3, w4, w5⟩
structure Reply where
  Code : Int
  N : Int
  Text : _root_.List UInt8
  List : _root_.List KV
  deriving DecidableEq
instance : Enc Reply := ⟨4, fun x => [.int .i64 x.Code, .int .i64 x.N, .str x.Text, lc x.List], fun _ => rfl, by decide⟩
instance : Dec Reply where
  sh := [.int .i64, .int .i64, .str, .sl 2 (Dec.sh KV)]
  ok x := okI x.Code ∧ okI x.N ∧ x.Text.length ≤ 9223372036854775807 ∧ okl x.List
  dec cs h := by
    obtain ⟨c0, r0, rfl, h0, h⟩ := h.cons_inv
    obtain ⟨c1, r1, rfl, h1, h⟩ := h.cons_inv
    obtain ⟨c2, r2, rfl, h2, h⟩ := h.cons_inv
    obtain ⟨c3, r3, rfl, h3, h⟩ := h.cons_inv
    obtain rfl := h.nil_inv
    obtain ⟨y0, rfl, w0_⟩ := h0.int_inv
    have w0 := okI_of w0_
    obtain ⟨y1, rfl, w1_⟩ := h1.int_inv
    have w1 := okI_of w1_
    obtain ⟨y2, rfl, w2⟩ := h2.str_inv
    obtain ⟨y3, rfl, w3⟩ := h3.sl_inv (α := KV) rfl
    exact ⟨{ Code := y0, N := y1, Text := y2, List := y3 : Reply }, rfl, w0, w1, w2, w3⟩
structure Reader where
  text : List UInt8
  at_ : Int
  bad : Bool
  deriving DecidableEq
instance : Enc Reader := ⟨3, fun x => [.str x.text, .int .i64 x.at_, .bool x.bad], fun _ => rfl, by decide⟩
instance : Dec Reader where
  sh := [.str, .int .i64, .bool]
  ok x := x.text.length ≤ 9223372036854775807 ∧ okI x.at_ ∧ True
  dec cs h := by
    obtain ⟨c0, r0, rfl, h0, h⟩ := h.cons_inv
    obtain ⟨c1, r1, rfl, h1, h⟩ := h.cons_inv
    obtain ⟨c2, r2, rfl, h2, h⟩ := h.cons_inv
    obtain rfl := h.nil_inv
    obtain ⟨y0, rfl, w0⟩ := h0.str_inv
    obtain ⟨y1, rfl, w1_⟩ := h1.int_inv
    have w1 := okI_of w1_
    obtain ⟨y2, rfl⟩ := h2.bool_inv
    have w2 := True.intro
    exact ⟨{ text := y0, at_ := y1, bad := y2 : Reader }, rfl, w0, w1, w2⟩
instance : Flat Reader := { vals := fun x => [strV x.text, .int .i64 x.at_, .bool x.bad], flat := fun _ => rfl }
theorem hMix : Tryz.prog.follows .mixedOrders = true := by kernel_rfl
theorem ke22 : elemB Tryz.prog 22 = some (5, 1, 1) := by kernel_rfl
theorem kk5 : kindB Tryz.prog 5 = some (false, 1) := by kernel_rfl
theorem ki5 : intB Tryz.prog 5 = some .u8 := by kernel_rfl
theorem ki3 : intB Tryz.prog 3 = some .i64 := by kernel_rfl
theorem kz5 : zeroB Tryz.prog 5 = some (.int .u8 (0 : Int)) := by kernel_rfl
theorem ks9 : isStrB Tryz.prog 9 = true := by kernel_rfl
theorem kk3 : kindB Tryz.prog 3 = some (false, 1) := by kernel_rfl
theorem ke61 : elemB Tryz.prog 61 = some (3, 1, 8) := by kernel_rfl
theorem kz3 : zeroB Tryz.prog 3 = some (.int .i64 (0 : Int)) := by kernel_rfl
theorem kk9 : kindB Tryz.prog 9 = some (false, 1) := by kernel_rfl
theorem kz98 : zeroB Tryz.prog 98 = some (.agg #[strV ([]), .bool false, strV ([])]) := by kernel_rfl
theorem ke44 : elemB Tryz.prog 44 = some (98, 3, 40) := by kernel_rfl
theorem kp98 : placesB Tryz.prog 98 = some [(0, 1), (1, 1), (2, 1)] := by kernel_rfl
theorem kk98 : kindB Tryz.prog 98 = some (true, 3) := by kernel_rfl
theorem kf98_1 : fieldB Tryz.prog 98 1 = some 1 := by kernel_rfl
theorem kk4 : kindB Tryz.prog 4 = some (false, 1) := by kernel_rfl
theorem kf98_2 : fieldB Tryz.prog 98 2 = some 2 := by kernel_rfl
theorem kf98_0 : fieldB Tryz.prog 98 0 = some 0 := by kernel_rfl
theorem kz46 : zeroB Tryz.prog 46 = some (.agg #[.int .i64 (0 : Int), strV ([]), .int .i64 (0 : Int), .int .i64 (0 : Int), strV ([]), strV ([]), .slice none 0 0]) := by kernel_rfl
theorem kk46 : kindB Tryz.prog 46 = some (true, 7) := by kernel_rfl
theorem kf46_0 : fieldB Tryz.prog 46 0 = some 0 := by kernel_rfl
theorem kf46_3 : fieldB Tryz.prog 46 3 = some 3 := by kernel_rfl
theorem kf46_4 : fieldB Tryz.prog 46 4 = some 4 := by kernel_rfl
theorem kf46_5 : fieldB Tryz.prog 46 5 = some 5 := by kernel_rfl
theorem kf46_6 : fieldB Tryz.prog 46 6 = some 6 := by kernel_rfl
theorem kk44 : kindB Tryz.prog 44 = some (false, 1) := by kernel_rfl
theorem kf46_1 : fieldB Tryz.prog 46 1 = some 1 := by kernel_rfl
theorem ke24 : elemB Tryz.prog 24 = some (46, 7, 96) := by kernel_rfl
theorem kz36 : zeroB Tryz.prog 36 = some (.agg #[strV ([]), .int .i64 (0 : Int), .slice none 0 0, .slice none 0 0, .slice none 0 0, .slice none 0 0]) := by kernel_rfl
theorem kp36 : placesB Tryz.prog 36 = some [(0, 1), (1, 2), (3, 1), (4, 1), (5, 1)] := by kernel_rfl
theorem kk36 : kindB Tryz.prog 36 = some (true, 6) := by kernel_rfl
theorem kz32 : zeroB Tryz.prog 32 = some (.agg #[.int .i64 (0 : Int), .slice none 0 0]) := by kernel_rfl
theorem kp32 : placesB Tryz.prog 32 = some [(0, 1), (1, 1)] := by kernel_rfl
theorem ke33 : elemB Tryz.prog 33 = some (90, 5, 72) := by kernel_rfl
theorem kk90 : kindB Tryz.prog 90 = some (true, 5) := by kernel_rfl
theorem kf90_0 : fieldB Tryz.prog 90 0 = some 0 := by kernel_rfl
theorem kz41 : zeroB Tryz.prog 41 = some (.agg #[.int .i64 (0 : Int), .int .i64 (0 : Int), strV ([]), .slice none 0 0]) := by kernel_rfl
theorem kp41 : placesB Tryz.prog 41 = some [(0, 1), (1, 1), (2, 1), (3, 1)] := by kernel_rfl
theorem kk41 : kindB Tryz.prog 41 = some (true, 4) := by kernel_rfl
theorem kf32_1 : fieldB Tryz.prog 32 1 = some 1 := by kernel_rfl
theorem kk30 : kindB Tryz.prog 30 = some (false, 1) := by kernel_rfl
theorem ke30 : elemB Tryz.prog 30 = some (134, 2, 16) := by kernel_rfl
theorem kk134 : kindB Tryz.prog 134 = some (true, 2) := by kernel_rfl
theorem kz134 : zeroB Tryz.prog 134 = some (.agg #[.int .i64 (0 : Int), .int .i64 (0 : Int)]) := by kernel_rfl
theorem kf134_1 : fieldB Tryz.prog 134 1 = some 1 := by kernel_rfl
theorem kf32_0 : fieldB Tryz.prog 32 0 = some 0 := by kernel_rfl
theorem kf134_0 : fieldB Tryz.prog 134 0 = some 0 := by kernel_rfl
theorem kk32 : kindB Tryz.prog 32 = some (true, 2) := by kernel_rfl
theorem kp134 : placesB Tryz.prog 134 = some [(0, 1), (1, 1)] := by kernel_rfl
theorem kz90 : zeroB Tryz.prog 90 = some (.agg #[.int .i64 (0 : Int), .int .i64 (0 : Int), .int .i64 (0 : Int), .slice none 0 0, .slice none 0 0]) := by kernel_rfl
theorem ki104 : intB Tryz.prog 104 = some .u64 := by kernel_rfl
theorem ki175 : intB Tryz.prog 175 = some .u32 := by kernel_rfl
theorem kz176 : zeroB Tryz.prog 176 = some (arrV (List.replicate 16 (Wrd.mk 0))) := by kernel_rfl
theorem ka176 : arrB Tryz.prog 176 = some (16, 175, 1) := by kernel_rfl
theorem kk176 : kindB Tryz.prog 176 = some (true, 16) := by kernel_rfl
theorem kk175 : kindB Tryz.prog 175 = some (false, 1) := by kernel_rfl
theorem kf46_2 : fieldB Tryz.prog 46 2 = some 2 := by kernel_rfl
theorem kf36_2 : fieldB Tryz.prog 36 2 = some 3 := by kernel_rfl
theorem kk33 : kindB Tryz.prog 33 = some (false, 1) := by kernel_rfl
theorem kf36_1 : fieldB Tryz.prog 36 1 = some 1 := by kernel_rfl
theorem kp90 : placesB Tryz.prog 90 = some [(0, 1), (1, 1), (2, 1), (3, 1), (4, 1)] := by kernel_rfl
theorem kf36_3 : fieldB Tryz.prog 36 3 = some 4 := by kernel_rfl
theorem kf36_0 : fieldB Tryz.prog 36 0 = some 0 := by kernel_rfl
theorem kf36_4 : fieldB Tryz.prog 36 4 = some 5 := by kernel_rfl
theorem kk34 : kindB Tryz.prog 34 = some (false, 1) := by kernel_rfl
theorem ke34 : elemB Tryz.prog 34 = some (95, 3, 40) := by kernel_rfl
theorem kk95 : kindB Tryz.prog 95 = some (true, 3) := by kernel_rfl
theorem kf95_0 : fieldB Tryz.prog 95 0 = some 0 := by kernel_rfl
theorem kz95 : zeroB Tryz.prog 95 = some (.agg #[.int .i64 (0 : Int), .slice none 0 0, .bool false]) := by kernel_rfl
theorem kf90_1 : fieldB Tryz.prog 90 1 = some 1 := by kernel_rfl
theorem ke39 : elemB Tryz.prog 39 = some (100, 2, 32) := by kernel_rfl
theorem kz100 : zeroB Tryz.prog 100 = some (.agg #[strV ([]), strV ([])]) := by kernel_rfl
theorem kf90_2 : fieldB Tryz.prog 90 2 = some 2 := by kernel_rfl
theorem kf90_3 : fieldB Tryz.prog 90 3 = some 3 := by kernel_rfl
theorem kk39 : kindB Tryz.prog 39 = some (false, 1) := by kernel_rfl
theorem kf90_4 : fieldB Tryz.prog 90 4 = some 4 := by kernel_rfl
theorem kk88 : kindB Tryz.prog 88 = some (false, 1) := by kernel_rfl
theorem ke88 : elemB Tryz.prog 88 = some (121, 2, 32) := by kernel_rfl
theorem kk121 : kindB Tryz.prog 121 = some (true, 2) := by kernel_rfl
theorem kz121 : zeroB Tryz.prog 121 = some (.agg #[.int .i64 (0 : Int), .slice none 0 0]) := by kernel_rfl
theorem kf121_0 : fieldB Tryz.prog 121 0 = some 0 := by kernel_rfl
theorem kf121_1 : fieldB Tryz.prog 121 1 = some 1 := by kernel_rfl
theorem kp121 : placesB Tryz.prog 121 = some [(0, 1), (1, 1)] := by kernel_rfl
theorem kf153_2 : fieldB Tryz.prog 153 2 = some 2 := by kernel_rfl
theorem kf153_0 : fieldB Tryz.prog 153 0 = some 0 := by kernel_rfl
theorem kf153_1 : fieldB Tryz.prog 153 1 = some 1 := by kernel_rfl
theorem kz153 : zeroB Tryz.prog 153 = some (.agg #[strV ([]), .int .i64 (0 : Int), .bool false]) := by kernel_rfl
theorem kp153 : placesB Tryz.prog 153 = some [(0, 1), (1, 1), (2, 1)] := by kernel_rfl
theorem kk153 : kindB Tryz.prog 153 = some (true, 3) := by kernel_rfl
theorem kk100 : kindB Tryz.prog 100 = some (true, 2) := by kernel_rfl
theorem kf100_0 : fieldB Tryz.prog 100 0 = some 0 := by kernel_rfl
theorem kf100_1 : fieldB Tryz.prog 100 1 = some 1 := by kernel_rfl
theorem kp100 : placesB Tryz.prog 100 = some [(0, 1), (1, 1)] := by kernel_rfl
theorem kp95 : placesB Tryz.prog 95 = some [(0, 1), (1, 1), (2, 1)] := by kernel_rfl
theorem kf95_2 : fieldB Tryz.prog 95 2 = some 2 := by kernel_rfl
theorem kf95_1 : fieldB Tryz.prog 95 1 = some 1 := by kernel_rfl
theorem ke28 : elemB Tryz.prog 28 = some (41, 4, 56) := by kernel_rfl
theorem kf41_0 : fieldB Tryz.prog 41 0 = some 0 := by kernel_rfl
theorem kf41_1 : fieldB Tryz.prog 41 1 = some 1 := by kernel_rfl
theorem kf41_2 : fieldB Tryz.prog 41 2 = some 2 := by kernel_rfl
theorem kf41_3 : fieldB Tryz.prog 41 3 = some 3 := by kernel_rfl
theorem kf137_0 : fieldB Tryz.prog 137 0 = some 0 := by kernel_rfl
theorem kf137_2 : fieldB Tryz.prog 137 2 = some 2 := by kernel_rfl
theorem ke68 : elemB Tryz.prog 68 = some (137, 3, 40) := by kernel_rfl
theorem kk137 : kindB Tryz.prog 137 = some (true, 3) := by kernel_rfl
theorem kf70_1 : fieldB Tryz.prog 70 1 = some 1 := by kernel_rfl
theorem kf70_4 : fieldB Tryz.prog 70 4 = some 4 := by kernel_rfl
theorem kf70_5 : fieldB Tryz.prog 70 5 = some 5 := by kernel_rfl
theorem kf70_6 : fieldB Tryz.prog 70 6 = some 6 := by kernel_rfl
theorem kk68 : kindB Tryz.prog 68 = some (false, 1) := by kernel_rfl
theorem ke48 : elemB Tryz.prog 48 = some (70, 7, 96) := by kernel_rfl
theorem kk70 : kindB Tryz.prog 70 = some (true, 7) := by kernel_rfl
theorem kf137_1 : fieldB Tryz.prog 137 1 = some 1 := by kernel_rfl
theorem kf70_0 : fieldB Tryz.prog 70 0 = some 0 := by kernel_rfl
theorem kf70_2 : fieldB Tryz.prog 70 2 = some 2 := by kernel_rfl
theorem kf70_3 : fieldB Tryz.prog 70 3 = some 3 := by kernel_rfl
theorem kb4 : Tryz.prog.underlying 4 = some .bool := by kernel_rfl
theorem hu9 : Tryz.prog.underlying 9 = some (.string) := by kernel_rfl
theorem hs9 : shB Tryz.prog 20 9 = some ([.str]) := by kernel_rfl
theorem hu3 : Tryz.prog.underlying 3 = some (.int .i64) := by kernel_rfl
theorem hs3 : shB Tryz.prog 20 3 = some ([.int .i64]) := by kernel_rfl
theorem hu48 : Tryz.prog.underlying 48 = some (.slice 70) := by kernel_rfl
theorem hs48 : shB Tryz.prog 20 48 = some ([.sl 7 (Dec.sh Call)]) := by kernel_rfl
noncomputable def spec_l1In (x : Int) (low : Int) (high : Int) : Option Bool :=
  (if (decide (x ≥ low)) = true then (some (decide (x ≤ high)))
  else (some false)).bind (fun (T1 : Bool) =>
  some T1)
theorem spec_l1In_c {x : Int} {low : Int} {high : Int} : Cn Tryz.prog 50 [iv x, iv low, iv high] [] [] (spec_l1In x low high) (fun r (_ : Unit) => .bool r) fun _ _ => [] := by
  unfold spec_l1In
  refine Ci Tryz.func50 r r ?_
  rintro w S -
  exact Sr<|Qs 1 r<|Nx<|Sq<|Jv [] (fun T=>[(6, .bool T)]) r1 (Rg<|Qs 4 r<|It (fun H3=>Qg 3 (beq_tt H3) r r<|Yo (Pt H3 r)<|Qs 1 r<|Nl<|Bg () []) fun H3=>Of 3 (beq_ft H3) r r<|Yo (Pf H3 r)<|Qs 1 r<|Nl<|Bg () []) fun T1=>Ne<|Wr<|Re () []
noncomputable def spec_Var (n : Int) : Option (List UInt8) :=
  (spec_l1In n (0 : Int) (562949953421311 : Int)).bind fun R1 =>
  if (!R1) = true then (some ([]))
  else (bindC (loopO (fun (S6 : Int × List UInt8) => if (decide (S6.1 ≥ (128 : Int))) = true then ((app 1 S6.2 ([toU8 (IntKind.i64.wrap ((128 : Int) + (Int.tmod S6.1 (128 : Int))))])).bind fun E13 =>
  some (.go (IntKind.i64.wrap (Int.tdiv S6.1 (128 : Int)), E13)))
  else (some (.done (.go (S6.1, S6.2)))))
  (n, ([] : List UInt8)))
  (fun (T8 : Int × List UInt8) => (app 1 T8.2 ([toU8 T8.1])).bind fun E17 =>
  some E17))
theorem spec_Var_c {n : Int} : Cn Tryz.prog 105 [iv n] [] [] (spec_Var n) (fun r (_ : Unit) => strV r) fun _ _ => [] := by
  unfold spec_Var
  refine Ci Tryz.func105 r r ?_
  rintro w S -
  refine Sr<|Qs 1 r<|Nx<|Sq<|Sr<|Qs 1 r<|Bi fun R1 H2=>Fo (Cl [] spec_l1In_c H2 r r1) fun _=>Qs 1 r<|Nx<|Wc r (fun H4=>Sr<|Qs 1 r<|Nx<|Wr<|Tr<|Re () []) fun H4=>Sn<|Sr<|Fo (Bs ([] : List UInt8) ke22 kz5) fun B5=>Qs 1 r<|Nx<|Sq<|Jn Value [] [] (fun T X=>[(0, iv T.1), (3, X)]) (fun T X=>[.own X (lc T.2)]) r2 r2 (?_) fun T8 X9=>?_
  ·refine Wb<|Lp Value [] [] (fun T X=>[(0, iv T.1), (3, X)]) (fun T X=>[.own X (lc T.2)]) (.slice (some ⟨B5, 0, none⟩) 0 0) [0] r2 r2 fun S6 X7=>Sq<|Sr<|Qs 2 r<|Nx<|Wc r (fun H10=>?_) fun H10=>?_
   ·exact Sn<|Wb<|Sr<|Qs 2 r<|Yo (Y.rem (by decide) r r)<|Qs 1 r<|Yo (Y.conv8 ki3 ki5 r)<|Fo (Bs [toU8 (IntKind.i64.wrap ((128 : Int) + (Int.tmod S6.1 (128 : Int))))] ke22 kz5) fun B11=>Bi fun E13 H14=>Fo (Ap [1] H14 ke22 kz5 r (Oc 0 r)) fun V12=>Qs 1 r<|Nx<|Rg<|Qs 1 r<|Yo (Y.quo (by decide) r r)<|Qs 1 r<|Nl<|Bn<|Lg V12 [0]
   exact Wx<|Tx<|Ex<|Be<|Jg X7 [0]
  exact Ne<|Sr<|Qs 2 r<|Yo (Y.conv8 ki3 ki5 r)<|Fo (Bs [toU8 T8.1] ke22 kz5) fun B15=>Bi fun E17 H18=>Fo (Ap [1] H18 ke22 kz5 r (Oc 0 r)) fun V16=>Yo (Y.toStr ke22 ki5 ks9 (Oc 0 r) r)<|Qs 1 r<|Nx<|Wr<|Re () []
noncomputable def spec_Fixed (n : Int) (width : Int) : Option (List UInt8) :=
  ((spec_l1In width (1 : Int) (7 : Int)).bind fun R3 =>
  if (!R3) = true then (some true)
  else (some (decide (n < (0 : Int))))).bind (fun (T1 : Bool) =>
  if T1 = true then (some ([]))
  else (bindC (loopO (fun (S8 : Int × List UInt8 × Int) => if (decide (S8.2.2 < width)) = true then ((cat ([toU8 (Int.tmod S8.1 (256 : Int))]) S8.2.1).bind fun E14 =>
  some (.go (IntKind.i64.wrap (Int.tdiv S8.1 (256 : Int)), E14, IntKind.i64.wrap (S8.2.2 + (1 : Int)))))
  else (some (.done (.go (S8.1, S8.2.1)))))
  (n, [], (0 : Int)))
  (fun (T10 : Int × List UInt8) => if (decide (T10.1 > (0 : Int))) = true then (some ([]))
  else (some T10.2))))
theorem spec_Fixed_c {n : Int} {width : Int} : Cn Tryz.prog 146 [iv n, iv width] [] [] (spec_Fixed n width) (fun r (_ : Unit) => strV r) fun _ _ => [] := by
  unfold spec_Fixed
  refine Ci Tryz.func146 r r ?_
  rintro w S -
  refine Sr<|Qs 1 r<|Nx<|Sq<|Sq<|Jv [0,1] (fun T=>[(13, .bool T)]) r1 (Rg<|Qs 1 r<|Bi fun R3 H4=>Fo (Cl [] spec_l1In_c H4 r r1) fun _=>Qs 2 r<|It (fun H6=>Of 2 (beq_tf H6) r r<|Yo (Pt H6 r)<|Nl<|Bg () []) fun H6=>Qg 2 (beq_ff H6) r r<|Yo (Pf H6 r)<|Nl<|Bg () []) fun T1=>Ne<|Wc r (fun H7=>Sr<|Qs 1 r<|Nx<|Wr<|Tr<|Re () []) fun H7=>Sn<|Sr<|Qs 1 r<|Nx<|Sq<|Sr<|Qs 1 r<|Nx<|Ju [] (fun T=>[(0, iv T.1), (5, strV T.2)]) r1 (?_) fun T10=>?_
  ·refine Wb<|Lu [1] (fun T=>[(0, iv T.1), (5, strV T.2.1), (6, iv T.2.2)]) r1 fun S8=>Sq<|Sr<|Qs 3 r<|Nx<|Wc r (fun H12=>?_) fun H12=>?_
   ·exact Sn<|Sq<|Wb<|Sr<|Qs 1 r<|Yo (Y.rem (by decide) r r)<|Yo (Y.conv8 ki3 ki5 r)<|Fo (Bs [toU8 (Int.tmod S8.1 (256 : Int))] ke22 kz5) fun B13=>Yo (Y.toStr ke22 ki5 ks9 (Oc 0 r) r)<|Qs 1 r<|Bi fun E14 H15=>Yo (Y.cat H15 r r)<|Qs 1 r<|Nx<|Rg<|Qs 1 r<|Yo (Y.quo (by decide) r r)<|Qs 1 r<|Nl<|Bn<|Ne<|Rg<|Qs 3 r<|Nl<|Lg () []
   exact Wx<|Tx<|Ex<|Be<|Jg () []
  exact Ne<|Sq<|Sr<|Qs 2 r<|Nx<|Wc r (fun H16=>Sr<|Qs 1 r<|Nx<|Wr<|Tr<|Re () []) fun H16=>Sn<|Sr<|Qs 2 r<|Nx<|Wr<|Re () []
noncomputable def spec_NonceOf (kind : Int) (n : Int) : Option (List UInt8) :=
  ((spec_l1In kind (0 : Int) (255 : Int)).bind fun R3 =>
  if (!R3) = true then (some true)
  else ((spec_l1In n (0 : Int) (562949953421311 : Int)).bind fun R7 =>
  some (!R7))).bind (fun (T1 : Bool) =>
  if T1 = true then (some ([]))
  else ((spec_Fixed n (7 : Int)).bind fun R12 =>
  (cat ([toU8 kind, (0 : UInt8), (0 : UInt8), (0 : UInt8), (0 : UInt8)]) R12).bind fun E17 =>
  some E17))
theorem spec_NonceOf_c {kind : Int} {n : Int} : Cn Tryz.prog 107 [iv kind, iv n] [] [] (spec_NonceOf kind n) (fun r (_ : Unit) => strV r) fun _ _ => [] := by
  unfold spec_NonceOf
  refine Ci Tryz.func107 r r ?_
  rintro w S -
  refine Sr<|Qs 1 r<|Nx<|Sq<|Sq<|Jv [0,1] (fun T=>[(12, .bool T)]) r1 (?_) fun T1=>?_
  ·exact Rg<|Qs 1 r<|Bi fun R3 H4=>Fo (Cl [] spec_l1In_c H4 r r1) fun _=>Qs 2 r<|It (fun H6=>Of 3 (beq_tf H6) r r<|Yo (Pt H6 r)<|Nl<|Bg () []) fun H6=>Qg 1 (beq_ff H6) r r<|Bi fun R7 H8=>Fg (gdA (beq_ff H6)) (Cl [] spec_l1In_c H8 r r1) fun _=>Qg 1 (beq_ff H6) r r<|Yo (Pf H6 r)<|Nl<|Bg () []
  refine Ne<|Wc r (fun H10=>Sr<|Qs 1 r<|Nx<|Wr<|Tr<|Re () []) fun H10=>Sn<|Sq<|Wi fun R12 H13=>Wi fun E17 H18=>Jw Unit [] [] (fun _=>[(4, strV E17)]) (fun _=>[]) r1 r1 (?_) fun X20=>?_
  ·refine Dr [] r hMix<|Aq [0] [] r<|Ay 1 [] r (Y.conv8 ki3 ki5 r)<|Aq [4] [] r<|A2 2 5 (?_)<|?_
   ·exact Xe [] r (Bs [toU8 kind, (0 : UInt8), (0 : UInt8), (0 : UInt8), (0 : UInt8)] ke22 kz5) fun B21=>A2 3 5 (Xy [] r (Y.toStr ke22 ki5 ks9 (Oc 0 r) r)<|A1 5<|Xe [] r (Cl [] spec_Fixed_c H13 r r1) fun _=>Ay 6 [] r (Y.cat H18 r r)<|Aq [7] [] r<|Az<|Bg () [])<|Xe [] r (Cl [] spec_Fixed_c H13 r r1) fun _=>A1 3<|Xy [] r (Y.toStr ke22 ki5 ks9 (Oc 0 r) r)<|Ay 6 [] r (Y.cat H18 r r)<|Aq [7] [] r<|Az<|Bg () []
   exact Xe [] r (Cl [] spec_Fixed_c H13 r r1) fun _=>A1 2<|Xe [] r (Bs [toU8 kind, (0 : UInt8), (0 : UInt8), (0 : UInt8), (0 : UInt8)] ke22 kz5) fun B23=>A1 3<|Xy [] r (Y.toStr ke22 ki5 ks9 (Oc 0 r) r)<|Ay 6 [] r (Y.cat H18 r r)<|Aq [7] [] r<|Az<|Bg () []
  exact Ne<|Wr<|Re () []
noncomputable def spec_l3Little (s : List UInt8) (at_ : Int) : Option Int :=
  (sidx s at_).bind fun E1 =>
  (sidx s (IntKind.i64.wrap (at_ + (1 : Int)))).bind fun E3 =>
  (sidx s (IntKind.i64.wrap (at_ + (2 : Int)))).bind fun E5 =>
  (sidx s (IntKind.i64.wrap (at_ + (3 : Int)))).bind fun E7 =>
  some (ior .i64 (ior .i64 (ior .i64 (IntKind.i64.wrap ((E1.toNat : Nat) : Int)) (ishl .i64 (IntKind.i64.wrap ((E3.toNat : Nat) : Int)) (8 : Int))) (ishl .i64 (IntKind.i64.wrap ((E5.toNat : Nat) : Int)) (16 : Int))) (ishl .i64 (IntKind.i64.wrap ((E7.toNat : Nat) : Int)) (24 : Int)))
theorem spec_l3Little_c {s : List UInt8} {at_ : Int} : Cn Tryz.prog 174 [strV s, iv at_] [] [] (spec_l3Little s at_) (fun r (_ : Unit) => iv r) fun _ _ => [] := by
  unfold spec_l3Little
  refine Ci Tryz.func174 r r ?_
  rintro w S -
  exact Sr<|Qs 1 r<|Nx<|Sq<|Dr [] r hMix<|Aq [0,1] [] r<|Ai fun E1 H2=>Ay 2 [] r (Y.sidx H2 ks9 r r)<|Ay 3 [] r (Y.conv ki5 ki3 r)<|Aq [4,5,6] [] r<|Ai fun E3 H4=>Ay 7 [] r (Y.sidx H4 ks9 r r)<|Ay 8 [] r (Y.conv ki5 ki3 r)<|Ay 9 [] r (Y.shl (by decide) r r)<|Aq [10,11,12,13] [] r<|Ai fun E5 H6=>Ay 14 [] r (Y.sidx H6 ks9 r r)<|Ay 15 [] r (Y.conv ki5 ki3 r)<|Ay 16 [] r (Y.shl (by decide) r r)<|Aq [17,18,19,20] [] r<|Ai fun E7 H8=>Ay 21 [] r (Y.sidx H8 ks9 r r)<|Ay 22 [] r (Y.conv ki5 ki3 r)<|Ay 23 [] r (Y.shl (by decide) r r)<|Aq [24,25] [] r<|Az<|Ne<|Wr<|Re () []
noncomputable def spec_l3Word (x : Int) : Option Int :=
  some (iand .i64 x (4294967295 : Int))
theorem spec_l3Word_c {x : Int} : Cn Tryz.prog 176 [iv x] [] [] (spec_l3Word x) (fun r (_ : Unit) => iv r) fun _ _ => [] := by
  unfold spec_l3Word
  refine Ci Tryz.func176 r r ?_
  rintro w S -
  exact Sr<|Qs 1 r<|Nx<|Sr<|Qs 3 r<|Nx<|Wr<|Re () []
noncomputable def spec_l3Left (x : Int) (n : Int) : Option Int :=
  (nn n).bind fun E1 =>
  (spec_l3Word (ior .i64 (ishl .i64 x n) (ishr .i64 x (IntKind.u64.wrap ((32 : Int) - n))))).bind fun R3 =>
  some R3
theorem spec_l3Left_c {x : Int} {n : Int} : Cn Tryz.prog 187 [iv x, .int .u64 n] [] [] (spec_l3Left x n) (fun r (_ : Unit) => iv r) fun _ _ => [] := by
  unfold spec_l3Left
  refine Ci Tryz.func187 r r ?_
  rintro w S -
  exact Sr<|Qs 1 r<|Nx<|Sr<|Qs 2 r<|Bi fun E1 H2=>Yo (Y.shl (nn_ge H2) r r)<|Qs 3 r<|Yo (Y.shr (wrap_u_nonneg r _) r r)<|Qs 1 r<|Bi fun R3 H4=>Fo (Cl [] spec_l3Word_c H4 r r1) fun _=>Qs 1 r<|Nx<|Wr<|Re () []
noncomputable def spec_l3Quarter (s : List Int) (a : Int) (b : Int) (c : Int) (d : Int) : Option (List Int) :=
  (idx s a).bind fun E1 =>
  (idx s b).bind fun E3 =>
  (spec_l3Word (IntKind.i64.wrap (E1 + E3))).bind fun R5 =>
  (idx (s.set a.toNat R5) d).bind fun E10 =>
  (idx (s.set a.toNat R5) a).bind fun E12 =>
  (spec_l3Left (ixor .i64 E10 E12) (16 : Int)).bind fun R14 =>
  (idx ((s.set a.toNat R5).set d.toNat R14) c).bind fun E19 =>
  (idx ((s.set a.toNat R5).set d.toNat R14) d).bind fun E21 =>
  (spec_l3Word (IntKind.i64.wrap (E19 + E21))).bind fun R23 =>
  (idx (((s.set a.toNat R5).set d.toNat R14).set c.toNat R23) b).bind fun E28 =>
  (idx (((s.set a.toNat R5).set d.toNat R14).set c.toNat R23) c).bind fun E30 =>
  (spec_l3Left (ixor .i64 E28 E30) (12 : Int)).bind fun R32 =>
  (idx ((((s.set a.toNat R5).set d.toNat R14).set c.toNat R23).set b.toNat R32) a).bind fun E37 =>
  (idx ((((s.set a.toNat R5).set d.toNat R14).set c.toNat R23).set b.toNat R32) b).bind fun E39 =>
  (spec_l3Word (IntKind.i64.wrap (E37 + E39))).bind fun R41 =>
  (idx (((((s.set a.toNat R5).set d.toNat R14).set c.toNat R23).set b.toNat R32).set a.toNat R41) d).bind fun E46 =>
  (idx (((((s.set a.toNat R5).set d.toNat R14).set c.toNat R23).set b.toNat R32).set a.toNat R41) a).bind fun E48 =>
  (spec_l3Left (ixor .i64 E46 E48) (8 : Int)).bind fun R50 =>
  (idx ((((((s.set a.toNat R5).set d.toNat R14).set c.toNat R23).set b.toNat R32).set a.toNat R41).set d.toNat R50) c).bind fun E55 =>
  (idx ((((((s.set a.toNat R5).set d.toNat R14).set c.toNat R23).set b.toNat R32).set a.toNat R41).set d.toNat R50) d).bind fun E57 =>
  (spec_l3Word (IntKind.i64.wrap (E55 + E57))).bind fun R59 =>
  (idx (((((((s.set a.toNat R5).set d.toNat R14).set c.toNat R23).set b.toNat R32).set a.toNat R41).set d.toNat R50).set c.toNat R59) b).bind fun E64 =>
  (idx (((((((s.set a.toNat R5).set d.toNat R14).set c.toNat R23).set b.toNat R32).set a.toNat R41).set d.toNat R50).set c.toNat R59) c).bind fun E66 =>
  (spec_l3Left (ixor .i64 E64 E66) (7 : Int)).bind fun R68 =>
  some ((((((((s.set a.toNat R5).set d.toNat R14).set c.toNat R23).set b.toNat R32).set a.toNat R41).set d.toNat R50).set c.toNat R59).set b.toNat R68)
theorem spec_l3Quarter_c {s : List Int} {a : Int} {b : Int} {c : Int} {d : Int} {U0 : Value} : Cn Tryz.prog 175 [U0, iv a, iv b, iv c, iv d] [.own U0 (lc s)] [] (spec_l3Quarter s a b c d) (fun _ (X : Value) => X) fun r X => [.own X (lc r)] := by
  unfold spec_l3Quarter
  refine Ci Tryz.func175 r r ?_
  rintro w S -
  refine Sr<|Qs 1 r<|Nx<|Sq<|Wi fun E1 H2=>Wi fun E3 H4=>Wi fun R5 H6=>Jw Unit [0,1,2,3,4] [] (fun _=>[]) (fun _=>[.own U0 (lc (s.set a.toNat R5))]) r1 r1 (?_) fun X9=>?_
  ·refine Dr [] r hMix<|Aq [0,1,2,3,6,7] [] r<|A2 4 8 (?_)<|?_
   ·refine Xy [] r (Ix ke61 (Oc 0 r) H2 r)<|A2 5 8 (Xy [] r (Le kk3 (Oc 0 r) H2 r)<|A1 8<|Xy [] r (Ix ke61 (Oc 0 r) H4 r)<|A1 9<|Xy [] r (Le kk3 (Oc 0 r) H4 r)<|Aq [10] [] r<|A1 11<|Xe [] r (Cl [] spec_l3Word_c H6 r r1) fun _=>A1 12<|Xy [] r (Ix ke61 (Oc 0 r) H2 r)<|A1 13<|Xu [] r (Se R5 0 kk3 H2 r (Cp r) r)<|Az<|Bg () [0])<|Xy [] r (Ix ke61 (Oc 0 r) H4 r)<|A2 5 9 (Xy [] r (Le kk3 (Oc 0 r) H2 r)<|A1 9<|Xy [] r (Le kk3 (Oc 0 r) H4 r)<|Aq [10] [] r<|A1 11<|Xe [] r (Cl [] spec_l3Word_c H6 r r1) fun _=>A1 12<|Xy [] r (Ix ke61 (Oc 0 r) H2 r)<|A1 13<|Xu [] r (Se R5 0 kk3 H2 r (Cp r) r)<|Az<|Bg () [0])<|Xy [] r (Le kk3 (Oc 0 r) H4 r)<|A1 5<|Xy [] r (Le kk3 (Oc 0 r) H2 r)<|Aq [10] [] r<|A1 11<|Xe [] r (Cl [] spec_l3Word_c H6 r r1) fun _=>?_
    exact A1 12<|Xy [] r (Ix ke61 (Oc 0 r) H2 r)<|A1 13<|Xu [] r (Se R5 0 kk3 H2 r (Cp r) r)<|Az<|Bg () [0]
   refine Xy [] r (Ix ke61 (Oc 0 r) H4 r)<|A2 4 9 (?_)<|?_
   ·exact Xy [] r (Ix ke61 (Oc 0 r) H2 r)<|A2 5 9 (Xy [] r (Le kk3 (Oc 0 r) H2 r)<|A1 9<|Xy [] r (Le kk3 (Oc 0 r) H4 r)<|Aq [10] [] r<|A1 11<|Xe [] r (Cl [] spec_l3Word_c H6 r r1) fun _=>A1 12<|Xy [] r (Ix ke61 (Oc 0 r) H2 r)<|A1 13<|Xu [] r (Se R5 0 kk3 H2 r (Cp r) r)<|Az<|Bg () [0])<|Xy [] r (Le kk3 (Oc 0 r) H4 r)<|A1 5<|Xy [] r (Le kk3 (Oc 0 r) H2 r)<|Aq [10] [] r<|A1 11<|Xe [] r (Cl [] spec_l3Word_c H6 r r1) fun _=>A1 12<|Xy [] r (Ix ke61 (Oc 0 r) H2 r)<|A1 13<|Xu [] r (Se R5 0 kk3 H2 r (Cp r) r)<|Az<|Bg () [0]
   exact Xy [] r (Le kk3 (Oc 0 r) H4 r)<|A1 4<|Xy [] r (Ix ke61 (Oc 0 r) H2 r)<|A1 5<|Xy [] r (Le kk3 (Oc 0 r) H2 r)<|Aq [10] [] r<|A1 11<|Xe [] r (Cl [] spec_l3Word_c H6 r r1) fun _=>A1 12<|Xy [] r (Ix ke61 (Oc 0 r) H2 r)<|A1 13<|Xu [] r (Se R5 0 kk3 H2 r (Cp r) r)<|Az<|Bg () [0]
  refine Ne<|Sq<|Wi fun E10 H11=>Wi fun E12 H13=>Wi fun R14 H15=>Jw Unit [0,1,2,3,4] [] (fun _=>[]) (fun _=>[.own U0 (lc ((s.set a.toNat R5).set d.toNat R14))]) r1 r1 (?_) fun X18=>?_
  ·refine Dr [] r hMix<|Aq [0,1,2,3,6,7] [] r<|A2 4 8 (?_)<|?_
   ·refine Xy [] r (Ix ke61 (Oc 0 r) H11 r)<|A2 5 8 (?_)<|?_
    ·exact Xy [] r (Le kk3 (Oc 0 r) H11 r)<|A1 8<|Xy [] r (Ix ke61 (Oc 0 r) H13 r)<|A1 9<|Xy [] r (Le kk3 (Oc 0 r) H13 r)<|Aq [10] [] r<|A1 11<|Xe [] r (Cl [] spec_l3Left_c H15 r r1) fun _=>A1 12<|Xy [] r (Ix ke61 (Oc 0 r) H11 r)<|A1 13<|Xu [] r (Se R14 0 kk3 H11 r (Cp r) r)<|Az<|Bg () [0]
    exact Xy [] r (Ix ke61 (Oc 0 r) H13 r)<|A2 5 9 (Xy [] r (Le kk3 (Oc 0 r) H11 r)<|A1 9<|Xy [] r (Le kk3 (Oc 0 r) H13 r)<|Aq [10] [] r<|A1 11<|Xe [] r (Cl [] spec_l3Left_c H15 r r1) fun _=>A1 12<|Xy [] r (Ix ke61 (Oc 0 r) H11 r)<|A1 13<|Xu [] r (Se R14 0 kk3 H11 r (Cp r) r)<|Az<|Bg () [0])<|Xy [] r (Le kk3 (Oc 0 r) H13 r)<|A1 5<|Xy [] r (Le kk3 (Oc 0 r) H11 r)<|Aq [10] [] r<|A1 11<|Xe [] r (Cl [] spec_l3Left_c H15 r r1) fun _=>A1 12<|Xy [] r (Ix ke61 (Oc 0 r) H11 r)<|A1 13<|Xu [] r (Se R14 0 kk3 H11 r (Cp r) r)<|Az<|Bg () [0]
   refine Xy [] r (Ix ke61 (Oc 0 r) H13 r)<|A2 4 9 (?_)<|?_
   ·exact Xy [] r (Ix ke61 (Oc 0 r) H11 r)<|A2 5 9 (Xy [] r (Le kk3 (Oc 0 r) H11 r)<|A1 9<|Xy [] r (Le kk3 (Oc 0 r) H13 r)<|Aq [10] [] r<|A1 11<|Xe [] r (Cl [] spec_l3Left_c H15 r r1) fun _=>A1 12<|Xy [] r (Ix ke61 (Oc 0 r) H11 r)<|A1 13<|Xu [] r (Se R14 0 kk3 H11 r (Cp r) r)<|Az<|Bg () [0])<|Xy [] r (Le kk3 (Oc 0 r) H13 r)<|A1 5<|Xy [] r (Le kk3 (Oc 0 r) H11 r)<|Aq [10] [] r<|A1 11<|Xe [] r (Cl [] spec_l3Left_c H15 r r1) fun _=>A1 12<|Xy [] r (Ix ke61 (Oc 0 r) H11 r)<|A1 13<|Xu [] r (Se R14 0 kk3 H11 r (Cp r) r)<|Az<|Bg () [0]
   exact Xy [] r (Le kk3 (Oc 0 r) H13 r)<|A1 4<|Xy [] r (Ix ke61 (Oc 0 r) H11 r)<|A1 5<|Xy [] r (Le kk3 (Oc 0 r) H11 r)<|Aq [10] [] r<|A1 11<|Xe [] r (Cl [] spec_l3Left_c H15 r r1) fun _=>A1 12<|Xy [] r (Ix ke61 (Oc 0 r) H11 r)<|A1 13<|Xu [] r (Se R14 0 kk3 H11 r (Cp r) r)<|Az<|Bg () [0]
  refine Ne<|Sq<|Wi fun E19 H20=>Wi fun E21 H22=>Wi fun R23 H24=>Jw Unit [0,1,2,3,4] [] (fun _=>[]) (fun _=>[.own U0 (lc (((s.set a.toNat R5).set d.toNat R14).set c.toNat R23))]) r1 r1 (?_) fun X27=>?_
  ·refine Dr [] r hMix<|Aq [0,1,2,3,6,7] [] r<|A2 4 8 (?_)<|?_
   ·refine Xy [] r (Ix ke61 (Oc 0 r) H20 r)<|A2 5 8 (?_)<|?_
    ·exact Xy [] r (Le kk3 (Oc 0 r) H20 r)<|A1 8<|Xy [] r (Ix ke61 (Oc 0 r) H22 r)<|A1 9<|Xy [] r (Le kk3 (Oc 0 r) H22 r)<|Aq [10] [] r<|A1 11<|Xe [] r (Cl [] spec_l3Word_c H24 r r1) fun _=>A1 12<|Xy [] r (Ix ke61 (Oc 0 r) H20 r)<|A1 13<|Xu [] r (Se R23 0 kk3 H20 r (Cp r) r)<|Az<|Bg () [0]
    exact Xy [] r (Ix ke61 (Oc 0 r) H22 r)<|A2 5 9 (Xy [] r (Le kk3 (Oc 0 r) H20 r)<|A1 9<|Xy [] r (Le kk3 (Oc 0 r) H22 r)<|Aq [10] [] r<|A1 11<|Xe [] r (Cl [] spec_l3Word_c H24 r r1) fun _=>A1 12<|Xy [] r (Ix ke61 (Oc 0 r) H20 r)<|A1 13<|Xu [] r (Se R23 0 kk3 H20 r (Cp r) r)<|Az<|Bg () [0])<|Xy [] r (Le kk3 (Oc 0 r) H22 r)<|A1 5<|Xy [] r (Le kk3 (Oc 0 r) H20 r)<|Aq [10] [] r<|A1 11<|Xe [] r (Cl [] spec_l3Word_c H24 r r1) fun _=>A1 12<|Xy [] r (Ix ke61 (Oc 0 r) H20 r)<|A1 13<|Xu [] r (Se R23 0 kk3 H20 r (Cp r) r)<|Az<|Bg () [0]
   refine Xy [] r (Ix ke61 (Oc 0 r) H22 r)<|A2 4 9 (?_)<|?_
   ·exact Xy [] r (Ix ke61 (Oc 0 r) H20 r)<|A2 5 9 (Xy [] r (Le kk3 (Oc 0 r) H20 r)<|A1 9<|Xy [] r (Le kk3 (Oc 0 r) H22 r)<|Aq [10] [] r<|A1 11<|Xe [] r (Cl [] spec_l3Word_c H24 r r1) fun _=>A1 12<|Xy [] r (Ix ke61 (Oc 0 r) H20 r)<|A1 13<|Xu [] r (Se R23 0 kk3 H20 r (Cp r) r)<|Az<|Bg () [0])<|Xy [] r (Le kk3 (Oc 0 r) H22 r)<|A1 5<|Xy [] r (Le kk3 (Oc 0 r) H20 r)<|Aq [10] [] r<|A1 11<|Xe [] r (Cl [] spec_l3Word_c H24 r r1) fun _=>A1 12<|Xy [] r (Ix ke61 (Oc 0 r) H20 r)<|A1 13<|Xu [] r (Se R23 0 kk3 H20 r (Cp r) r)<|Az<|Bg () [0]
   exact Xy [] r (Le kk3 (Oc 0 r) H22 r)<|A1 4<|Xy [] r (Ix ke61 (Oc 0 r) H20 r)<|A1 5<|Xy [] r (Le kk3 (Oc 0 r) H20 r)<|Aq [10] [] r<|A1 11<|Xe [] r (Cl [] spec_l3Word_c H24 r r1) fun _=>A1 12<|Xy [] r (Ix ke61 (Oc 0 r) H20 r)<|A1 13<|Xu [] r (Se R23 0 kk3 H20 r (Cp r) r)<|Az<|Bg () [0]
  refine Ne<|Sq<|Wi fun E28 H29=>Wi fun E30 H31=>Wi fun R32 H33=>Jw Unit [0,1,2,3,4] [] (fun _=>[]) (fun _=>[.own U0 (lc ((((s.set a.toNat R5).set d.toNat R14).set c.toNat R23).set b.toNat R32))]) r1 r1 (?_) fun X36=>?_
  ·refine Dr [] r hMix<|Aq [0,1,2,3,6,7] [] r<|A2 4 8 (?_)<|?_
   ·refine Xy [] r (Ix ke61 (Oc 0 r) H29 r)<|A2 5 8 (?_)<|?_
    ·exact Xy [] r (Le kk3 (Oc 0 r) H29 r)<|A1 8<|Xy [] r (Ix ke61 (Oc 0 r) H31 r)<|A1 9<|Xy [] r (Le kk3 (Oc 0 r) H31 r)<|Aq [10] [] r<|A1 11<|Xe [] r (Cl [] spec_l3Left_c H33 r r1) fun _=>A1 12<|Xy [] r (Ix ke61 (Oc 0 r) H29 r)<|A1 13<|Xu [] r (Se R32 0 kk3 H29 r (Cp r) r)<|Az<|Bg () [0]
    exact Xy [] r (Ix ke61 (Oc 0 r) H31 r)<|A2 5 9 (Xy [] r (Le kk3 (Oc 0 r) H29 r)<|A1 9<|Xy [] r (Le kk3 (Oc 0 r) H31 r)<|Aq [10] [] r<|A1 11<|Xe [] r (Cl [] spec_l3Left_c H33 r r1) fun _=>A1 12<|Xy [] r (Ix ke61 (Oc 0 r) H29 r)<|A1 13<|Xu [] r (Se R32 0 kk3 H29 r (Cp r) r)<|Az<|Bg () [0])<|Xy [] r (Le kk3 (Oc 0 r) H31 r)<|A1 5<|Xy [] r (Le kk3 (Oc 0 r) H29 r)<|Aq [10] [] r<|A1 11<|Xe [] r (Cl [] spec_l3Left_c H33 r r1) fun _=>A1 12<|Xy [] r (Ix ke61 (Oc 0 r) H29 r)<|A1 13<|Xu [] r (Se R32 0 kk3 H29 r (Cp r) r)<|Az<|Bg () [0]
   refine Xy [] r (Ix ke61 (Oc 0 r) H31 r)<|A2 4 9 (?_)<|?_
   ·exact Xy [] r (Ix ke61 (Oc 0 r) H29 r)<|A2 5 9 (Xy [] r (Le kk3 (Oc 0 r) H29 r)<|A1 9<|Xy [] r (Le kk3 (Oc 0 r) H31 r)<|Aq [10] [] r<|A1 11<|Xe [] r (Cl [] spec_l3Left_c H33 r r1) fun _=>A1 12<|Xy [] r (Ix ke61 (Oc 0 r) H29 r)<|A1 13<|Xu [] r (Se R32 0 kk3 H29 r (Cp r) r)<|Az<|Bg () [0])<|Xy [] r (Le kk3 (Oc 0 r) H31 r)<|A1 5<|Xy [] r (Le kk3 (Oc 0 r) H29 r)<|Aq [10] [] r<|A1 11<|Xe [] r (Cl [] spec_l3Left_c H33 r r1) fun _=>A1 12<|Xy [] r (Ix ke61 (Oc 0 r) H29 r)<|A1 13<|Xu [] r (Se R32 0 kk3 H29 r (Cp r) r)<|Az<|Bg () [0]
   exact Xy [] r (Le kk3 (Oc 0 r) H31 r)<|A1 4<|Xy [] r (Ix ke61 (Oc 0 r) H29 r)<|A1 5<|Xy [] r (Le kk3 (Oc 0 r) H29 r)<|Aq [10] [] r<|A1 11<|Xe [] r (Cl [] spec_l3Left_c H33 r r1) fun _=>A1 12<|Xy [] r (Ix ke61 (Oc 0 r) H29 r)<|A1 13<|Xu [] r (Se R32 0 kk3 H29 r (Cp r) r)<|Az<|Bg () [0]
  refine Ne<|Sq<|Wi fun E37 H38=>Wi fun E39 H40=>Wi fun R41 H42=>Jw Unit [0,1,2,3,4] [] (fun _=>[]) (fun _=>[.own U0 (lc (((((s.set a.toNat R5).set d.toNat R14).set c.toNat R23).set b.toNat R32).set a.toNat R41))]) r1 r1 (?_) fun X45=>?_
  ·refine Dr [] r hMix<|Aq [0,1,2,3,6,7] [] r<|A2 4 8 (?_)<|?_
   ·refine Xy [] r (Ix ke61 (Oc 0 r) H38 r)<|A2 5 8 (?_)<|?_
    ·exact Xy [] r (Le kk3 (Oc 0 r) H38 r)<|A1 8<|Xy [] r (Ix ke61 (Oc 0 r) H40 r)<|A1 9<|Xy [] r (Le kk3 (Oc 0 r) H40 r)<|Aq [10] [] r<|A1 11<|Xe [] r (Cl [] spec_l3Word_c H42 r r1) fun _=>A1 12<|Xy [] r (Ix ke61 (Oc 0 r) H38 r)<|A1 13<|Xu [] r (Se R41 0 kk3 H38 r (Cp r) r)<|Az<|Bg () [0]
    exact Xy [] r (Ix ke61 (Oc 0 r) H40 r)<|A2 5 9 (Xy [] r (Le kk3 (Oc 0 r) H38 r)<|A1 9<|Xy [] r (Le kk3 (Oc 0 r) H40 r)<|Aq [10] [] r<|A1 11<|Xe [] r (Cl [] spec_l3Word_c H42 r r1) fun _=>A1 12<|Xy [] r (Ix ke61 (Oc 0 r) H38 r)<|A1 13<|Xu [] r (Se R41 0 kk3 H38 r (Cp r) r)<|Az<|Bg () [0])<|Xy [] r (Le kk3 (Oc 0 r) H40 r)<|A1 5<|Xy [] r (Le kk3 (Oc 0 r) H38 r)<|Aq [10] [] r<|A1 11<|Xe [] r (Cl [] spec_l3Word_c H42 r r1) fun _=>A1 12<|Xy [] r (Ix ke61 (Oc 0 r) H38 r)<|A1 13<|Xu [] r (Se R41 0 kk3 H38 r (Cp r) r)<|Az<|Bg () [0]
   refine Xy [] r (Ix ke61 (Oc 0 r) H40 r)<|A2 4 9 (?_)<|?_
   ·exact Xy [] r (Ix ke61 (Oc 0 r) H38 r)<|A2 5 9 (Xy [] r (Le kk3 (Oc 0 r) H38 r)<|A1 9<|Xy [] r (Le kk3 (Oc 0 r) H40 r)<|Aq [10] [] r<|A1 11<|Xe [] r (Cl [] spec_l3Word_c H42 r r1) fun _=>A1 12<|Xy [] r (Ix ke61 (Oc 0 r) H38 r)<|A1 13<|Xu [] r (Se R41 0 kk3 H38 r (Cp r) r)<|Az<|Bg () [0])<|Xy [] r (Le kk3 (Oc 0 r) H40 r)<|A1 5<|Xy [] r (Le kk3 (Oc 0 r) H38 r)<|Aq [10] [] r<|A1 11<|Xe [] r (Cl [] spec_l3Word_c H42 r r1) fun _=>A1 12<|Xy [] r (Ix ke61 (Oc 0 r) H38 r)<|A1 13<|Xu [] r (Se R41 0 kk3 H38 r (Cp r) r)<|Az<|Bg () [0]
   exact Xy [] r (Le kk3 (Oc 0 r) H40 r)<|A1 4<|Xy [] r (Ix ke61 (Oc 0 r) H38 r)<|A1 5<|Xy [] r (Le kk3 (Oc 0 r) H38 r)<|Aq [10] [] r<|A1 11<|Xe [] r (Cl [] spec_l3Word_c H42 r r1) fun _=>A1 12<|Xy [] r (Ix ke61 (Oc 0 r) H38 r)<|A1 13<|Xu [] r (Se R41 0 kk3 H38 r (Cp r) r)<|Az<|Bg () [0]
  refine Ne<|Sq<|Wi fun E46 H47=>Wi fun E48 H49=>Wi fun R50 H51=>Jw Unit [0,2,3,4] [] (fun _=>[]) (fun _=>[.own U0 (lc ((((((s.set a.toNat R5).set d.toNat R14).set c.toNat R23).set b.toNat R32).set a.toNat R41).set d.toNat R50))]) r1 r1 (?_) fun X54=>?_
  ·refine Dr [] r hMix<|Aq [0,1,2,3,6,7] [] r<|A2 4 8 (?_)<|?_
   ·refine Xy [] r (Ix ke61 (Oc 0 r) H47 r)<|A2 5 8 (?_)<|?_
    ·exact Xy [] r (Le kk3 (Oc 0 r) H47 r)<|A1 8<|Xy [] r (Ix ke61 (Oc 0 r) H49 r)<|A1 9<|Xy [] r (Le kk3 (Oc 0 r) H49 r)<|Aq [10] [] r<|A1 11<|Xe [] r (Cl [] spec_l3Left_c H51 r r1) fun _=>A1 12<|Xy [] r (Ix ke61 (Oc 0 r) H47 r)<|A1 13<|Xu [] r (Se R50 0 kk3 H47 r (Cp r) r)<|Az<|Bg () [0]
    exact Xy [] r (Ix ke61 (Oc 0 r) H49 r)<|A2 5 9 (Xy [] r (Le kk3 (Oc 0 r) H47 r)<|A1 9<|Xy [] r (Le kk3 (Oc 0 r) H49 r)<|Aq [10] [] r<|A1 11<|Xe [] r (Cl [] spec_l3Left_c H51 r r1) fun _=>A1 12<|Xy [] r (Ix ke61 (Oc 0 r) H47 r)<|A1 13<|Xu [] r (Se R50 0 kk3 H47 r (Cp r) r)<|Az<|Bg () [0])<|Xy [] r (Le kk3 (Oc 0 r) H49 r)<|A1 5<|Xy [] r (Le kk3 (Oc 0 r) H47 r)<|Aq [10] [] r<|A1 11<|Xe [] r (Cl [] spec_l3Left_c H51 r r1) fun _=>A1 12<|Xy [] r (Ix ke61 (Oc 0 r) H47 r)<|A1 13<|Xu [] r (Se R50 0 kk3 H47 r (Cp r) r)<|Az<|Bg () [0]
   refine Xy [] r (Ix ke61 (Oc 0 r) H49 r)<|A2 4 9 (?_)<|?_
   ·exact Xy [] r (Ix ke61 (Oc 0 r) H47 r)<|A2 5 9 (Xy [] r (Le kk3 (Oc 0 r) H47 r)<|A1 9<|Xy [] r (Le kk3 (Oc 0 r) H49 r)<|Aq [10] [] r<|A1 11<|Xe [] r (Cl [] spec_l3Left_c H51 r r1) fun _=>A1 12<|Xy [] r (Ix ke61 (Oc 0 r) H47 r)<|A1 13<|Xu [] r (Se R50 0 kk3 H47 r (Cp r) r)<|Az<|Bg () [0])<|Xy [] r (Le kk3 (Oc 0 r) H49 r)<|A1 5<|Xy [] r (Le kk3 (Oc 0 r) H47 r)<|Aq [10] [] r<|A1 11<|Xe [] r (Cl [] spec_l3Left_c H51 r r1) fun _=>A1 12<|Xy [] r (Ix ke61 (Oc 0 r) H47 r)<|A1 13<|Xu [] r (Se R50 0 kk3 H47 r (Cp r) r)<|Az<|Bg () [0]
   exact Xy [] r (Le kk3 (Oc 0 r) H49 r)<|A1 4<|Xy [] r (Ix ke61 (Oc 0 r) H47 r)<|A1 5<|Xy [] r (Le kk3 (Oc 0 r) H47 r)<|Aq [10] [] r<|A1 11<|Xe [] r (Cl [] spec_l3Left_c H51 r r1) fun _=>A1 12<|Xy [] r (Ix ke61 (Oc 0 r) H47 r)<|A1 13<|Xu [] r (Se R50 0 kk3 H47 r (Cp r) r)<|Az<|Bg () [0]
  refine Ne<|Sq<|Wi fun E55 H56=>Wi fun E57 H58=>Wi fun R59 H60=>Jw Unit [0,2,3] [] (fun _=>[]) (fun _=>[.own U0 (lc (((((((s.set a.toNat R5).set d.toNat R14).set c.toNat R23).set b.toNat R32).set a.toNat R41).set d.toNat R50).set c.toNat R59))]) r1 r1 (?_) fun X63=>?_
  ·refine Dr [] r hMix<|Aq [0,1,2,3,6,7] [] r<|A2 4 8 (?_)<|?_
   ·refine Xy [] r (Ix ke61 (Oc 0 r) H56 r)<|A2 5 8 (?_)<|?_
    ·exact Xy [] r (Le kk3 (Oc 0 r) H56 r)<|A1 8<|Xy [] r (Ix ke61 (Oc 0 r) H58 r)<|A1 9<|Xy [] r (Le kk3 (Oc 0 r) H58 r)<|Aq [10] [] r<|A1 11<|Xe [] r (Cl [] spec_l3Word_c H60 r r1) fun _=>A1 12<|Xy [] r (Ix ke61 (Oc 0 r) H56 r)<|A1 13<|Xu [] r (Se R59 0 kk3 H56 r (Cp r) r)<|Az<|Bg () [0]
    exact Xy [] r (Ix ke61 (Oc 0 r) H58 r)<|A2 5 9 (Xy [] r (Le kk3 (Oc 0 r) H56 r)<|A1 9<|Xy [] r (Le kk3 (Oc 0 r) H58 r)<|Aq [10] [] r<|A1 11<|Xe [] r (Cl [] spec_l3Word_c H60 r r1) fun _=>A1 12<|Xy [] r (Ix ke61 (Oc 0 r) H56 r)<|A1 13<|Xu [] r (Se R59 0 kk3 H56 r (Cp r) r)<|Az<|Bg () [0])<|Xy [] r (Le kk3 (Oc 0 r) H58 r)<|A1 5<|Xy [] r (Le kk3 (Oc 0 r) H56 r)<|Aq [10] [] r<|A1 11<|Xe [] r (Cl [] spec_l3Word_c H60 r r1) fun _=>A1 12<|Xy [] r (Ix ke61 (Oc 0 r) H56 r)<|A1 13<|Xu [] r (Se R59 0 kk3 H56 r (Cp r) r)<|Az<|Bg () [0]
   refine Xy [] r (Ix ke61 (Oc 0 r) H58 r)<|A2 4 9 (?_)<|?_
   ·exact Xy [] r (Ix ke61 (Oc 0 r) H56 r)<|A2 5 9 (Xy [] r (Le kk3 (Oc 0 r) H56 r)<|A1 9<|Xy [] r (Le kk3 (Oc 0 r) H58 r)<|Aq [10] [] r<|A1 11<|Xe [] r (Cl [] spec_l3Word_c H60 r r1) fun _=>A1 12<|Xy [] r (Ix ke61 (Oc 0 r) H56 r)<|A1 13<|Xu [] r (Se R59 0 kk3 H56 r (Cp r) r)<|Az<|Bg () [0])<|Xy [] r (Le kk3 (Oc 0 r) H58 r)<|A1 5<|Xy [] r (Le kk3 (Oc 0 r) H56 r)<|Aq [10] [] r<|A1 11<|Xe [] r (Cl [] spec_l3Word_c H60 r r1) fun _=>A1 12<|Xy [] r (Ix ke61 (Oc 0 r) H56 r)<|A1 13<|Xu [] r (Se R59 0 kk3 H56 r (Cp r) r)<|Az<|Bg () [0]
   exact Xy [] r (Le kk3 (Oc 0 r) H58 r)<|A1 4<|Xy [] r (Ix ke61 (Oc 0 r) H56 r)<|A1 5<|Xy [] r (Le kk3 (Oc 0 r) H56 r)<|Aq [10] [] r<|A1 11<|Xe [] r (Cl [] spec_l3Word_c H60 r r1) fun _=>A1 12<|Xy [] r (Ix ke61 (Oc 0 r) H56 r)<|A1 13<|Xu [] r (Se R59 0 kk3 H56 r (Cp r) r)<|Az<|Bg () [0]
  refine Ne<|Sq<|Wi fun E64 H65=>Wi fun E66 H67=>Wi fun R68 H69=>Jw Unit [0] [] (fun _=>[]) (fun _=>[.own U0 (lc ((((((((s.set a.toNat R5).set d.toNat R14).set c.toNat R23).set b.toNat R32).set a.toNat R41).set d.toNat R50).set c.toNat R59).set b.toNat R68))]) r1 r1 (?_) fun X72=>?_
  ·refine Dr [] r hMix<|Aq [0,1,2,3,6,7] [] r<|A2 4 8 (?_)<|?_
   ·refine Xy [] r (Ix ke61 (Oc 0 r) H65 r)<|A2 5 8 (?_)<|?_
    ·exact Xy [] r (Le kk3 (Oc 0 r) H65 r)<|A1 8<|Xy [] r (Ix ke61 (Oc 0 r) H67 r)<|A1 9<|Xy [] r (Le kk3 (Oc 0 r) H67 r)<|Aq [10] [] r<|A1 11<|Xe [] r (Cl [] spec_l3Left_c H69 r r1) fun _=>A1 12<|Xy [] r (Ix ke61 (Oc 0 r) H65 r)<|A1 13<|Xu [] r (Se R68 0 kk3 H65 r (Cp r) r)<|Az<|Bg () [0]
    exact Xy [] r (Ix ke61 (Oc 0 r) H67 r)<|A2 5 9 (Xy [] r (Le kk3 (Oc 0 r) H65 r)<|A1 9<|Xy [] r (Le kk3 (Oc 0 r) H67 r)<|Aq [10] [] r<|A1 11<|Xe [] r (Cl [] spec_l3Left_c H69 r r1) fun _=>A1 12<|Xy [] r (Ix ke61 (Oc 0 r) H65 r)<|A1 13<|Xu [] r (Se R68 0 kk3 H65 r (Cp r) r)<|Az<|Bg () [0])<|Xy [] r (Le kk3 (Oc 0 r) H67 r)<|A1 5<|Xy [] r (Le kk3 (Oc 0 r) H65 r)<|Aq [10] [] r<|A1 11<|Xe [] r (Cl [] spec_l3Left_c H69 r r1) fun _=>A1 12<|Xy [] r (Ix ke61 (Oc 0 r) H65 r)<|A1 13<|Xu [] r (Se R68 0 kk3 H65 r (Cp r) r)<|Az<|Bg () [0]
   refine Xy [] r (Ix ke61 (Oc 0 r) H67 r)<|A2 4 9 (?_)<|?_
   ·exact Xy [] r (Ix ke61 (Oc 0 r) H65 r)<|A2 5 9 (Xy [] r (Le kk3 (Oc 0 r) H65 r)<|A1 9<|Xy [] r (Le kk3 (Oc 0 r) H67 r)<|Aq [10] [] r<|A1 11<|Xe [] r (Cl [] spec_l3Left_c H69 r r1) fun _=>A1 12<|Xy [] r (Ix ke61 (Oc 0 r) H65 r)<|A1 13<|Xu [] r (Se R68 0 kk3 H65 r (Cp r) r)<|Az<|Bg () [0])<|Xy [] r (Le kk3 (Oc 0 r) H67 r)<|A1 5<|Xy [] r (Le kk3 (Oc 0 r) H65 r)<|Aq [10] [] r<|A1 11<|Xe [] r (Cl [] spec_l3Left_c H69 r r1) fun _=>A1 12<|Xy [] r (Ix ke61 (Oc 0 r) H65 r)<|A1 13<|Xu [] r (Se R68 0 kk3 H65 r (Cp r) r)<|Az<|Bg () [0]
   exact Xy [] r (Le kk3 (Oc 0 r) H67 r)<|A1 4<|Xy [] r (Ix ke61 (Oc 0 r) H65 r)<|A1 5<|Xy [] r (Le kk3 (Oc 0 r) H65 r)<|Aq [10] [] r<|A1 11<|Xe [] r (Cl [] spec_l3Left_c H69 r r1) fun _=>A1 12<|Xy [] r (Ix ke61 (Oc 0 r) H65 r)<|A1 13<|Xu [] r (Se R68 0 kk3 H65 r (Cp r) r)<|Az<|Bg () [0]
  exact Ne<|Sr<|Qs 2 r<|Nx<|Wr<|Re U0 [0]
noncomputable def spec_l3Block (key : List UInt8) (counter : Int) (nonce : List UInt8) : Option (List UInt8) :=
  bindC (loopO (fun (S2 : Int × List Int) => if (decide (S2.1 < (8 : Int))) = true then ((spec_l3Little key (IntKind.i64.wrap ((4 : Int) * S2.1))).bind fun R7 =>
  (app 8 S2.2 ([R7])).bind fun E12 =>
  some (.go (IntKind.i64.wrap (S2.1 + (1 : Int)), E12)))
  else (some (.done (.go S2.2))))
  ((0 : Int), ([(1634760805 : Int), (857760878 : Int), (2036477234 : Int), (1797285236 : Int)])))
  (fun (T4 : List Int) => (spec_l3Little nonce (0 : Int)).bind fun R14 =>
  (spec_l3Little nonce (4 : Int)).bind fun R17 =>
  (spec_l3Little nonce (8 : Int)).bind fun R20 =>
  (app 8 T4 ([counter, R14, R17, R20])).bind fun E25 =>
  (app 8 ([] : List Int) E25).bind fun E29 =>
  bindC (loopO (fun (S31 : Int × List Int) => if (decide (S31.1 < (10 : Int))) = true then ((spec_l3Quarter S31.2 (0 : Int) (4 : Int) (8 : Int) (12 : Int)).bind fun R36 =>
  (spec_l3Quarter R36 (1 : Int) (5 : Int) (9 : Int) (13 : Int)).bind fun R39 =>
  (spec_l3Quarter R39 (2 : Int) (6 : Int) (10 : Int) (14 : Int)).bind fun R42 =>
  (spec_l3Quarter R42 (3 : Int) (7 : Int) (11 : Int) (15 : Int)).bind fun R45 =>
  (spec_l3Quarter R45 (0 : Int) (5 : Int) (10 : Int) (15 : Int)).bind fun R48 =>
  (spec_l3Quarter R48 (1 : Int) (6 : Int) (11 : Int) (12 : Int)).bind fun R51 =>
  (spec_l3Quarter R51 (2 : Int) (7 : Int) (8 : Int) (13 : Int)).bind fun R54 =>
  (spec_l3Quarter R54 (3 : Int) (4 : Int) (9 : Int) (14 : Int)).bind fun R57 =>
  some (.go (IntKind.i64.wrap (S31.1 + (1 : Int)), R57)))
  else (some (.done (.go S31.2))))
  ((0 : Int), E29))
  (fun (T33 : List Int) => bindC (loopO (fun (S61 : Int × List UInt8) => if (decide (S61.1 < (16 : Int))) = true then ((idx T33 S61.1).bind fun E66 =>
  (idx E25 S61.1).bind fun E68 =>
  (spec_l3Word (IntKind.i64.wrap (E66 + E68))).bind fun R70 =>
  (app 1 S61.2 ([toU8 (iand .i64 R70 (255 : Int)), toU8 (iand .i64 (ishr .i64 R70 (8 : Int)) (255 : Int)), toU8 (iand .i64 (ishr .i64 R70 (16 : Int)) (255 : Int)), toU8 (ishr .i64 R70 (24 : Int))])).bind fun E75 =>
  some (.go (IntKind.i64.wrap (S61.1 + (1 : Int)), E75)))
  else (some (.done (.go S61.2))))
  ((0 : Int), ([] : List UInt8)))
  (fun (T63 : List UInt8) => some T63)))
theorem spec_l3Block_c {key : List UInt8} {counter : Int} {nonce : List UInt8} : Cn Tryz.prog 145 [strV key, iv counter, strV nonce] [] [] (spec_l3Block key counter nonce) (fun r (_ : Unit) => strV r) fun _ _ => [] := by
  unfold spec_l3Block
  refine Ci Tryz.func145 r r ?_
  rintro w S -
  refine Sr<|Qs 1 r<|Nx<|Sr<|Fo (Bs [(1634760805 : Int), (857760878 : Int), (2036477234 : Int), (1797285236 : Int)] ke61 kz3) fun B1=>Qs 1 r<|Nx<|Sq<|Sr<|Qs 1 r<|Nx<|Jn Value [1,2] [] (fun _ X=>[(7, X)]) (fun T X=>[.own X (lc T)]) r2 r2 (?_) fun T4 X5=>?_
  ·exact Wb<|Lp Value [0,1,2] [] (fun T X=>[(7, X), (8, iv T.1)]) (fun T X=>[.own X (lc T.2)]) (.slice (some ⟨B1, 0, none⟩) 4 4) [0] r2 r2 fun S2 X3=>Sq<|Sr<|Qs 2 r<|Nx<|Wc r (fun H6=>Sn<|Sq<|Wb<|Rg<|Qs 4 r<|Bi fun R7 H8=>Fo (Cl [] spec_l3Little_c H8 r r1) fun _=>Fo (Bs [R7] ke61 kz3) fun B10=>Bi fun E12 H13=>Fo (Ap [1] H13 ke61 kz3 r (Oc 0 r)) fun V11=>Qs 1 r<|Nl<|Bn<|Ne<|Rg<|Qs 3 r<|Nl<|Lg V11 [0]) fun H6=>Wx<|Tx<|Ex<|Be<|Jg X3 [0]
  refine Ne<|Sr<|Qs 3 r<|Bi fun R14 H15=>Fo (Cl [] spec_l3Little_c H15 r r1) fun _=>Qs 1 r<|Bi fun R17 H18=>Fo (Cl [] spec_l3Little_c H18 r r1) fun _=>Qs 1 r<|Bi fun R20 H21=>Fo (Cl [] spec_l3Little_c H21 r r1) fun _=>Fo (Bs [counter, R14, R17, R20] ke61 kz3) fun B23=>Bi fun E25 H26=>Fo (Ap [1] H26 ke61 kz3 r (Oc 0 r)) fun V24=>Qs 1 r<|Nx<|Sr<|Fo (Bs ([] : List Int) ke61 kz3) fun B27=>Qs 1 r<|Bi fun E29 H30=>Fo (Ap [0] H30 ke61 kz3 r (Oc 1 r)) fun V28=>Qs 1 r<|Nx<|Sq<|Sr<|Qs 1 r<|Nx<|Jn Value [7] [1] (fun _ X=>[(9, X)]) (fun T X=>[.own X (lc T)]) r2 r2 (?_) fun T33 X34=>?_
  ·refine Wb<|Lp Value [7] [1] (fun T X=>[(9, X), (10, iv T.1)]) (fun T X=>[.own X (lc T.2)]) V28 [1,0] r2 r2 fun S31 X32=>Sq<|Sr<|Qs 2 r<|Nx<|Wc r (fun H35=>?_) fun H35=>?_
   ·refine Sn<|Sq<|Wb<|Sr<|Qs 1 r<|Bi fun R36 H37=>Fo (Cl [1] spec_l3Quarter_c H37 r r1) fun Y38=>Qs 1 r<|Nx<|Sr<|Qs 1 r<|Bi fun R39 H40=>Fo (Cl [0] spec_l3Quarter_c H40 r r1) fun Y41=>Qs 1 r<|Nx<|Sr<|Qs 1 r<|Bi fun R42 H43=>Fo (Cl [0] spec_l3Quarter_c H43 r r1) fun Y44=>Qs 1 r<|Nx<|Sr<|Qs 1 r<|Bi fun R45 H46=>Fo (Cl [0] spec_l3Quarter_c H46 r r1) fun Y47=>Qs 1 r<|Nx<|Sr<|Qs 1 r<|Bi fun R48 H49=>Fo (Cl [0] spec_l3Quarter_c H49 r r1) fun Y50=>Qs 1 r<|Nx<|Sr<|Qs 1 r<|Bi fun R51 H52=>Fo (Cl [0] spec_l3Quarter_c H52 r r1) fun Y53=>?_
    exact Qs 1 r<|Nx<|Sr<|Qs 1 r<|Bi fun R54 H55=>Fo (Cl [0] spec_l3Quarter_c H55 r r1) fun Y56=>Qs 1 r<|Nx<|Rg<|Qs 1 r<|Bi fun R57 H58=>Fo (Cl [0] spec_l3Quarter_c H58 r r1) fun Y59=>Qs 1 r<|Nl<|Bn<|Ne<|Rg<|Qs 3 r<|Nl<|Lg Y59 [1,0]
   exact Wx<|Tx<|Ex<|Be<|Jg X32 [0,0]
  refine Ne<|Sr<|Fo (Bs ([] : List UInt8) ke22 kz5) fun B60=>Qs 1 r<|Nx<|Sq<|Sr<|Qs 1 r<|Nx<|Jn Value [] [] (fun _ X=>[(11, X)]) (fun T X=>[.own X (lc T)]) r2 r2 (?_) fun T63 X64=>?_
  ·refine Wb<|Lp Value [7,9] [1,1] (fun T X=>[(11, X), (12, iv T.1)]) (fun T X=>[.own X (lc T.2)]) (.slice (some ⟨B60, 0, none⟩) 0 0) [1,1,0] r2 r2 fun S61 X62=>Sq<|Sr<|Qs 2 r<|Nx<|Wc r (fun H65=>?_) fun H65=>?_
   ·refine Sn<|Sq<|Wb<|Sq<|Dr [0,0,0] r hMix<|Aq [0,1] [0,0,0] r<|Ai fun E66 H67=>Ay 2 [0,0,0] r (Ix ke61 (Oc 1 r) H67 r)<|Ay 3 [0,0,0] r (Le kk3 (Oc 1 r) H67 r)<|Aq [4,5] [0,0,0] r<|Ai fun E68 H69=>Ay 6 [0,0,0] r (Ix ke61 (Oc 0 r) H69 r)<|Ay 7 [0,0,0] r (Le kk3 (Oc 0 r) H69 r)<|Aq [8] [0,0,0] r<|Ai fun R70 H71=>A1 9<|Xe [0,0,0] r (Cl [] spec_l3Word_c H71 r r1) fun _=>Aq [10] [0,0,0] r<|Az<|Ne<|Rg<|Qs 3 r<|Yo (Y.conv8 ki3 ki5 r)<|Qs 1 r<|Yo (Y.shr (by decide) r r)<|Qs 1 r<|Yo (Y.conv8 ki3 ki5 r)<|Qs 1 r<|Yo (Y.shr (by decide) r r)<|Qs 1 r<|Yo (Y.conv8 ki3 ki5 r)<|Qs 1 r<|Yo (Y.shr (by decide) r r)<|Yo (Y.conv8 ki3 ki5 r)<|Fo (Bs [toU8 (iand .i64 R70 (255 : Int)), toU8 (iand .i64 (ishr .i64 R70 (8 : Int)) (255 : Int)), toU8 (iand .i64 (ishr .i64 R70 (16 : Int)) (255 : Int)), toU8 (ishr .i64 R70 (24 : Int))] ke22 kz5) fun B73=>?_
    exact Bi fun E75 H76=>Fo (Ap [3] H76 ke22 kz5 r (Oc 0 r)) fun V74=>Qs 1 r<|Nl<|Bn<|Ne<|Rg<|Qs 3 r<|Nl<|Lg V74 [2,2,0]
   exact Wx<|Tx<|Ex<|Be<|Jg X62 [2]
  exact Ne<|Sr<|Qs 1 r<|Yo (Y.toStr ke22 ki5 ks9 (Oc 0 r) r)<|Qs 1 r<|Nx<|Wr<|Re () []
noncomputable def spec_ChaBlock (key : List UInt8) (counter : Int) (nonce : List UInt8) : Option (List UInt8) :=
  (if (!(decide (((key.length : Nat) : Int) = (32 : Int)))) = true then (some true)
  else (if (!(decide (((nonce.length : Nat) : Int) = (12 : Int)))) = true then (some true)
  else ((spec_l1In counter (0 : Int) (4294967295 : Int)).bind fun R5 =>
  some (!R5)))).bind (fun (T1 : Bool) =>
  if T1 = true then (some ([]))
  else ((spec_l3Block key counter nonce).bind fun R9 =>
  some R9))
theorem spec_ChaBlock_c {key : List UInt8} {counter : Int} {nonce : List UInt8} : Cn Tryz.prog 106 [strV key, iv counter, strV nonce] [] [] (spec_ChaBlock key counter nonce) (fun r (_ : Unit) => strV r) fun _ _ => [] := by
  unfold spec_ChaBlock
  refine Ci Tryz.func106 r r ?_
  rintro w S -
  refine Sr<|Qs 1 r<|Nx<|Sq<|Sq<|Jv [0,1,2] (fun T=>[(19, .bool T)]) r1 (?_) fun T1=>?_
  ·exact Rg<|Qs 1 r<|Yo (Y.slen ks9 r)<|Qs 2 r<|It (fun H3=>Of 3 (beq_tf H3) r r<|Yo (Pt H3 r)<|Qs 1 r<|Of 3 r r r<|Yo (Pt r r)<|Nl<|Bg () []) fun H3=>Qg 1 (beq_ff H3) r r<|Yg (gdA (beq_ff H3)) (Y.slen ks9 r)<|Qg 1 (beq_ff H3) r r<|Yo (Pf H3 r)<|Qs 1 r<|It (fun H4=>Of 3 (beq_tf H4) r r<|Yo (Pt H4 r)<|Nl<|Bg () []) fun H4=>Qg 1 (beq_ff H4) r r<|Bi fun R5 H6=>Fg (gdA (beq_ff H4)) (Cl [] spec_l1In_c H6 r r1) fun _=>Qg 1 (beq_ff H4) r r<|Yo (Pf H4 r)<|Nl<|Bg () []
  exact Ne<|Wc r (fun H8=>Sr<|Qs 1 r<|Nx<|Wr<|Tr<|Re () []) fun H8=>Sn<|Sr<|Qs 3 r<|Bi fun R9 H10=>Fo (Cl [] spec_l3Block_c H10 r r1) fun _=>Qs 1 r<|Nx<|Wr<|Re () []
noncomputable def spec_MintToken (secret : List UInt8) (tenant : Int) (epoch : Int) : Option (List UInt8) :=
  (if (!(decide (((secret.length : Nat) : Int) = (32 : Int)))) = true then (some true)
  else ((spec_l1In tenant (1 : Int) (99 : Int)).bind fun R4 =>
  if (!R4) = true then (some true)
  else ((spec_l1In epoch (0 : Int) (1000000 : Int)).bind fun R8 =>
  some (!R8)))).bind (fun (T1 : Bool) =>
  if T1 = true then (some ([]))
  else ((spec_Var tenant).bind fun R12 =>
  (spec_Var epoch).bind fun R15 =>
  (cat R12 R15).bind fun E18 =>
  (spec_NonceOf (2 : Int) tenant).bind fun R20 =>
  (spec_ChaBlock secret epoch R20).bind fun R23 =>
  (ssub R23 0 (8 : Int)).bind fun E26 =>
  (cat E18 E26).bind fun E28 =>
  some E28))
theorem spec_MintToken_c {secret : List UInt8} {tenant : Int} {epoch : Int} : Cn Tryz.prog 63 [strV secret, iv tenant, iv epoch] [] [] (spec_MintToken secret tenant epoch) (fun r (_ : Unit) => strV r) fun _ _ => [] := by
  unfold spec_MintToken
  refine Ci Tryz.func63 r r ?_
  rintro w S -
  refine Sr<|Qs 1 r<|Nx<|Sq<|Sq<|Jv [0,1,2] (fun T=>[(19, .bool T)]) r1 (?_) fun T1=>?_
  ·exact Rg<|Qs 1 r<|Yo (Y.slen ks9 r)<|Qs 2 r<|It (fun H3=>Of 3 (beq_tf H3) r r<|Yo (Pt H3 r)<|Qs 1 r<|Of 3 r r r<|Yo (Pt r r)<|Nl<|Bg () []) fun H3=>Qg 1 (beq_ff H3) r r<|Bi fun R4 H5=>Fg (gdA (beq_ff H3)) (Cl [] spec_l1In_c H5 r r1) fun _=>Qg 1 (beq_ff H3) r r<|Yo (Pf H3 r)<|Qs 1 r<|It (fun H7=>Of 3 (beq_tf H7) r r<|Yo (Pt H7 r)<|Nl<|Bg () []) fun H7=>Qg 1 (beq_ff H7) r r<|Bi fun R8 H9=>Fg (gdA (beq_ff H7)) (Cl [] spec_l1In_c H9 r r1) fun _=>Qg 1 (beq_ff H7) r r<|Yo (Pf H7 r)<|Nl<|Bg () []
  exact Ne<|Wc r (fun H11=>Sr<|Qs 1 r<|Nx<|Wr<|Tr<|Re () []) fun H11=>Sn<|Sr<|Qs 1 r<|Bi fun R12 H13=>Fo (Cl [] spec_Var_c H13 r r1) fun _=>Qs 1 r<|Bi fun R15 H16=>Fo (Cl [] spec_Var_c H16 r r1) fun _=>Bi fun E18 H19=>Yo (Y.cat H19 r r)<|Qs 3 r<|Bi fun R20 H21=>Fo (Cl [] spec_NonceOf_c H21 r r1) fun _=>Bi fun R23 H24=>Fo (Cl [] spec_ChaBlock_c H24 r r1) fun _=>Bi fun E26 H27=>Yo (Y.ssub_to H27 ks9 r r)<|Bi fun E28 H29=>Yo (Y.cat H29 r r)<|Qs 1 r<|Nx<|Wr<|Re () []
end Go.Proofs.YtmigafjpdoeicaaGreat
