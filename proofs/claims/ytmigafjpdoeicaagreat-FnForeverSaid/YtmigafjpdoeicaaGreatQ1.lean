/-
  The functions that a law reaches, each as a pure function, with the proof that the program computes it, and the step from a pure law to the given statement. Conditions: none.
-/
import Derived.Test.YtmigafjpdoeicaaGreatSw
import Derived.Test.YtmigafjpdoeicaaGreatSz
import Derived.Test.YtmigafjpdoeicaaGreatRows
import Derived.Test.YtmigafjpdoeicaaGreatSx
set_option linter.unusedVariables false
set_option maxRecDepth 100000
set_option maxHeartbeats 4000000
namespace Go.Proofs.YtmigafjpdoeicaaGreat
open Go Sl
structure L1Cur where
  b : List UInt8
  i : Int
  h : Int
  deriving DecidableEq
instance : Enc L1Cur := ⟨3, fun x => [lc x.b, .int .i64 x.i, .int .i64 x.h], fun _ => rfl, by decide⟩
instance : Dec L1Cur where
  sh := [.sl 1 (Dec.sh UInt8), .int .i64, .int .i64]
  ok x := okl x.b ∧ okI x.i ∧ okI x.h
  dec cs h := by
    obtain ⟨c0, r0, rfl, h0, h⟩ := h.cons_inv
    obtain ⟨c1, r1, rfl, h1, h⟩ := h.cons_inv
    obtain ⟨c2, r2, rfl, h2, h⟩ := h.cons_inv
    obtain rfl := h.nil_inv
    obtain ⟨y0, rfl, w0⟩ := h0.sl_inv (α := UInt8) rfl
    obtain ⟨y1, rfl, w1_⟩ := h1.int_inv
    have w1 := okI_of w1_
    obtain ⟨y2, rfl, w2_⟩ := h2.int_inv
    have w2 := okI_of w2_
    exact ⟨{ b := y0, i := y1, h := y2 : L1Cur }, rfl, w0, w1, w2⟩
structure Op where
  Key : List UInt8
  Del : Bool
  Val : List UInt8
  deriving DecidableEq
instance : Enc Op := ⟨3, fun x => [.str x.Key, .bool x.Del, .str x.Val], fun _ => rfl, by decide⟩
instance : Dec Op where
  sh := [.str, .bool, .str]
  ok x := x.Key.length ≤ 9223372036854775807 ∧ True ∧ x.Val.length ≤ 9223372036854775807
  dec cs h := by
    obtain ⟨c0, r0, rfl, h0, h⟩ := h.cons_inv
    obtain ⟨c1, r1, rfl, h1, h⟩ := h.cons_inv
    obtain ⟨c2, r2, rfl, h2, h⟩ := h.cons_inv
    obtain rfl := h.nil_inv
    obtain ⟨y0, rfl, w0⟩ := h0.str_inv
    obtain ⟨y1, rfl⟩ := h1.bool_inv
    have w1 := True.intro
    obtain ⟨y2, rfl, w2⟩ := h2.str_inv
    exact ⟨{ Key := y0, Del := y1, Val := y2 : Op }, rfl, w0, w1, w2⟩
instance : Flat Op := { vals := fun x => [strV x.Key, .bool x.Del, strV x.Val], flat := fun _ => rfl }
structure Call where
  Kind : Int
  Token : List UInt8
  Tenant : Int
  N : Int
  Key : List UInt8
  To : List UInt8
  Ops : List Op
  deriving DecidableEq
instance : Enc Call := ⟨7, fun x => [.int .i64 x.Kind, .str x.Token, .int .i64 x.Tenant, .int .i64 x.N, .str x.Key, .str x.To, lc x.Ops], fun _ => rfl, by decide⟩
instance : Dec Call where
  sh := [.int .i64, .str, .int .i64, .int .i64, .str, .str, .sl 3 (Dec.sh Op)]
  ok x := okI x.Kind ∧ x.Token.length ≤ 9223372036854775807 ∧ okI x.Tenant ∧ okI x.N ∧ x.Key.length ≤ 9223372036854775807 ∧ x.To.length ≤ 9223372036854775807 ∧ okl x.Ops
  dec cs h := by
    obtain ⟨c0, r0, rfl, h0, h⟩ := h.cons_inv
    obtain ⟨c1, r1, rfl, h1, h⟩ := h.cons_inv
    obtain ⟨c2, r2, rfl, h2, h⟩ := h.cons_inv
    obtain ⟨c3, r3, rfl, h3, h⟩ := h.cons_inv
    obtain ⟨c4, r4, rfl, h4, h⟩ := h.cons_inv
    obtain ⟨c5, r5, rfl, h5, h⟩ := h.cons_inv
    obtain ⟨c6, r6, rfl, h6, h⟩ := h.cons_inv
    obtain rfl := h.nil_inv
    obtain ⟨y0, rfl, w0_⟩ := h0.int_inv
    have w0 := okI_of w0_
    obtain ⟨y1, rfl, w1⟩ := h1.str_inv
    obtain ⟨y2, rfl, w2_⟩ := h2.int_inv
    have w2 := okI_of w2_
    obtain ⟨y3, rfl, w3_⟩ := h3.int_inv
    have w3 := okI_of w3_
    obtain ⟨y4, rfl, w4⟩ := h4.str_inv
    obtain ⟨y5, rfl, w5⟩ := h5.str_inv
    obtain ⟨y6, rfl, w6⟩ := h6.sl_inv (α := Op) rfl
    exact ⟨{ Kind := y0, Token := y1, Tenant := y2, N := y3, Key := y4, To := y5, Ops := y6 : Call }, rfl, w0, w1, w2, w3, w4, w5, w6⟩
structure Share where
  Tenant : Int
  Quota : Int
  deriving DecidableEq
instance : Enc Share := ⟨2, fun x => [.int .i64 x.Tenant, .int .i64 x.Quota], fun _ => rfl, by decide⟩
instance : Dec Share where
  sh := [.int .i64, .int .i64]
  ok x := okI x.Tenant ∧ okI x.Quota
  dec cs h := by
    obtain ⟨c0, r0, rfl, h0, h⟩ := h.cons_inv
    obtain ⟨c1, r1, rfl, h1, h⟩ := h.cons_inv
    obtain rfl := h.nil_inv
    obtain ⟨y0, rfl, w0_⟩ := h0.int_inv
    have w0 := okI_of w0_
    obtain ⟨y1, rfl, w1_⟩ := h1.int_inv
    have w1 := okI_of w1_
    exact ⟨{ Tenant := y0, Quota := y1 : Share }, rfl, w0, w1⟩
instance : Flat Share := { vals := fun x => [.int .i64 x.Tenant, .int .i64 x.Quota], flat := fun _ => rfl }
structure Shares where
  Size : Int
  List : _root_.List Share
  deriving DecidableEq
instance : Enc Shares := ⟨2, fun x => [.int .i64 x.Size, lc x.List], fun _ => rfl, by decide⟩
instance : Dec Shares where
  sh := [.int .i64, .sl 2 (Dec.sh Share)]
  ok x := okI x.Size ∧ okl x.List
  dec cs h := by
    obtain ⟨c0, r0, rfl, h0, h⟩ := h.cons_inv
    obtain ⟨c1, r1, rfl, h1, h⟩ := h.cons_inv
    obtain rfl := h.nil_inv
    obtain ⟨y0, rfl, w0_⟩ := h0.int_inv
    have w0 := okI_of w0_
    obtain ⟨y1, rfl, w1⟩ := h1.sl_inv (α := Share) rfl
    exact ⟨{ Size := y0, List := y1 : Shares }, rfl, w0, w1⟩
structure KV where
  Key : List UInt8
  Val : List UInt8
  deriving DecidableEq
instance : Enc KV := ⟨2, fun x => [.str x.Key, .str x.Val], fun _ => rfl, by decide⟩
instance : Dec KV where
  sh := [.str, .str]
  ok x := x.Key.length ≤ 9223372036854775807 ∧ x.Val.length ≤ 9223372036854775807
  dec cs h := by
    obtain ⟨c0, r0, rfl, h0, h⟩ := h.cons_inv
    obtain ⟨c1, r1, rfl, h1, h⟩ := h.cons_inv
    obtain rfl := h.nil_inv
    obtain ⟨y0, rfl, w0⟩ := h0.str_inv
    obtain ⟨y1, rfl, w1⟩ := h1.str_inv
    exact ⟨{ Key := y0, Val := y1 : KV }, rfl, w0, w1⟩
instance : Flat KV := { vals := fun x => [strV x.Key, strV x.Val], flat := fun _ => rfl }
structure MSnap where
  Seq : Int
  Map : List KV
  deriving DecidableEq
instance : Enc MSnap := ⟨2, fun x => [.int .i64 x.Seq, lc x.Map], fun _ => rfl, by decide⟩
instance : Dec MSnap where
  sh := [.int .i64, .sl 2 (Dec.sh KV)]
  ok x := okI x.Seq ∧ okl x.Map
  dec cs h := by
    obtain ⟨c0, r0, rfl, h0, h⟩ := h.cons_inv
    obtain ⟨c1, r1, rfl, h1, h⟩ := h.cons_inv
    obtain rfl := h.nil_inv
    obtain ⟨y0, rfl, w0_⟩ := h0.int_inv
    have w0 := okI_of w0_
    obtain ⟨y1, rfl, w1⟩ := h1.sl_inv (α := KV) rfl
    exact ⟨{ Seq := y0, Map := y1 : MSnap }, rfl, w0, w1⟩
structure MTen where
  Id : Int
  Epoch : Int
  Seq : Int
  Map : List KV
  Snaps : List MSnap
  deriving DecidableEq
instance : Enc MTen := ⟨5, fun x => [.int .i64 x.Id, .int .i64 x.Epoch, .int .i64 x.Seq, lc x.Map, lc x.Snaps], fun _ => rfl, by decide⟩
instance : Dec MTen where
  sh := [.int .i64, .int .i64, .int .i64, .sl 2 (Dec.sh KV), .sl 2 (Dec.sh MSnap)]
  ok x := okI x.Id ∧ okI x.Epoch ∧ okI x.Seq ∧ okl x.Map ∧ okl x.Snaps
  dec cs h := by
    obtain ⟨c0, r0, rfl, h0, h⟩ := h.cons_inv
    obtain ⟨c1, r1, rfl, h1, h⟩ := h.cons_inv
    obtain ⟨c2, r2, rfl, h2, h⟩ := h.cons_inv
    obtain ⟨c3, r3, rfl, h3, h⟩ := h.cons_inv
    obtain ⟨c4, r4, rfl, h4, h⟩ := h.cons_inv
    obtain rfl := h.nil_inv
    obtain ⟨y0, rfl, w0_⟩ := h0.int_inv
    have w0 := okI_of w0_
    obtain ⟨y1, rfl, w1_⟩ := h1.int_inv
    have w1 := okI_of w1_
    obtain ⟨y2, rfl, w2_⟩ := h2.int_inv
    have w2 := okI_of w2_
    obtain ⟨y3, rfl, w3⟩ := h3.sl_inv (α := KV) rfl
    obtain ⟨y4, rfl, w4⟩ := h4.sl_inv (α := MSnap) rfl
    exact ⟨{ Id := y0, Epoch := y1, Seq := y2, Map := y3, Snaps := y4 : MTen }, rfl, w0, w1, w2, w3, w4⟩
structure MRow where
  Tenant : Int
  Ops : List Op
  Synced : Bool
  deriving DecidableEq
instance : Enc MRow := ⟨3, fun x => [.int .i64 x.Tenant, lc x.Ops, .bool x.Synced], fun _ => rfl, by decide⟩
instance : Dec MRow where
  sh := [.int .i64, .sl 3 (Dec.sh Op), .bool]
  ok x := okI x.Tenant ∧ okl x.Ops ∧ True
  dec cs h := by
    obtain ⟨c0, r0, rfl, h0, h⟩ := h.cons_inv
    obtain ⟨c1, r1, rfl, h1, h⟩ := h.cons_inv
    obtain ⟨c2, r2, rfl, h2, h⟩ := h.cons_inv
    obtain rfl := h.nil_inv
    obtain ⟨y0, rfl, w0_⟩ := h0.int_inv
    have w0 := okI_of w0_
    obtain ⟨y1, rfl, w1⟩ := h1.sl_inv (α := Op) rfl
    obtain ⟨y2, rfl⟩ := h2.bool_inv
    have w2 := True.intro
    exact ⟨{ Tenant := y0, Ops := y1, Synced := y2 : MRow }, rfl, w0, w1, w2⟩
structure Model where
  Secret : List UInt8
  Shares : Shares
  Tens : List MTen
  Base : List MTen
  Rows : List MRow
  deriving DecidableEq
instance : Enc Model := ⟨6, fun x => [.str x.Secret, .int .i64 x.Shares.Size, lc x.Shares.List, lc x.Tens, lc x.Base, lc x.Rows], fun _ => rfl, by decide⟩
instance : Dec Model where
  sh := [.str, .int .i64, .sl 2 (Dec.sh Share), .sl 5 (Dec.sh MTen), .sl 5 (Dec.sh MTen), .sl 3 (Dec.sh MRow)]
  ok x := x.Secret.length ≤ 9223372036854775807 ∧ okI x.Shares.Size ∧ okl x.Shares.List ∧ okl x.Tens ∧ okl x.Base ∧ okl x.Rows
  dec cs h := by
    obtain ⟨c0, r0, rfl, h0, h⟩ := h.cons_inv
    obtain ⟨c1, r1, rfl, h1, h⟩ := h.cons_inv
    obtain ⟨c2, r2, rfl, h2, h⟩ := h.cons_inv
    obtain ⟨c3, r3, rfl, h3, h⟩ := h.cons_inv
    obtain ⟨c4, r4, rfl, h4, h⟩ := h.cons_inv
    obtain ⟨c5, r5, rfl, h5, h⟩ := h.cons_inv
    obtain rfl := h.nil_inv
    obtain ⟨y0, rfl, w0⟩ := h0.str_inv
    obtain ⟨y1, rfl, w1_⟩ := h1.int_inv
    have w1 := okI_of w1_
    obtain ⟨y2, rfl, w2⟩ := h2.sl_inv (α := Share) rfl
    obtain ⟨y3, rfl, w3⟩ := h3.sl_inv (α := MTen) rfl
    obtain ⟨y4, rfl, w4⟩ := h4.sl_inv (α := MTen) rfl
    obtain ⟨y5, rfl, w5⟩ := h5.sl_inv (α := MRow) rfl
    exact ⟨{ Secret := y0, Shares := { Size := y1, List := y2 : Shares }, Tens := y3, Base := y4, Rows := y5 : Model }, rfl, w0, w1, w2, w3, w4, w5⟩
structure Reply where
  Code : Int
  N : Int
  Text : _root_.List UInt8
  List : _root_.List KV
  deriving DecidableEq
instance : Enc Reply := ⟨4, fun x => [.int .i64 x.Code, .int .i64 x.N, .str x.Text, lc x.List], fun _ => rfl, by decide⟩
instance : Dec Reply where
  sh := [.int .i64, .int .i64, .str, .sl 2 (Dec.sh KV)]
  ok x := okI x.Code ∧ okI x.N ∧ x.Text.length ≤ 9223372036854775807 ∧ okl x.List
  dec cs h := by
    obtain ⟨c0, r0, rfl, h0, h⟩ := h.cons_inv
    obtain ⟨c1, r1, rfl, h1, h⟩ := h.cons_inv
    obtain ⟨c2, r2, rfl, h2, h⟩ := h.cons_inv
    obtain ⟨c3, r3, rfl, h3, h⟩ := h.cons_inv
    obtain rfl := h.nil_inv
    obtain ⟨y0, rfl, w0_⟩ := h0.int_inv
    have w0 := okI_of w0_
    obtain ⟨y1, rfl, w1_⟩ := h1.int_inv
    have w1 := okI_of w1_
    obtain ⟨y2, rfl, w2⟩ := h2.str_inv
    obtain ⟨y3, rfl, w3⟩ := h3.sl_inv (α := KV) rfl
    exact ⟨{ Code := y0, N := y1, Text := y2, List := y3 : Reply }, rfl, w0, w1, w2, w3⟩
structure Reader where
  text : List UInt8
  at_ : Int
  bad : Bool
  deriving DecidableEq
instance : Enc Reader := ⟨3, fun x => [.str x.text, .int .i64 x.at_, .bool x.bad], fun _ => rfl, by decide⟩
instance : Dec Reader where
  sh := [.str, .int .i64, .bool]
  ok x := x.text.length ≤ 9223372036854775807 ∧ okI x.at_ ∧ True
  dec cs h := by
    obtain ⟨c0, r0, rfl, h0, h⟩ := h.cons_inv
    obtain ⟨c1, r1, rfl, h1, h⟩ := h.cons_inv
    obtain ⟨c2, r2, rfl, h2, h⟩ := h.cons_inv
    obtain rfl := h.nil_inv
    obtain ⟨y0, rfl, w0⟩ := h0.str_inv
    obtain ⟨y1, rfl, w1_⟩ := h1.int_inv
    have w1 := okI_of w1_
    obtain ⟨y2, rfl⟩ := h2.bool_inv
    have w2 := True.intro
    exact ⟨{ text := y0, at_ := y1, bad := y2 : Reader }, rfl, w0, w1, w2⟩
instance : Flat Reader := { vals := fun x => [strV x.text, .int .i64 x.at_, .bool x.bad], flat := fun _ => rfl }
theorem hMix : Tryz.prog.follows .mixedOrders = true := by kernel_rfl
theorem ke22 : elemB Tryz.prog 22 = some (5, 1, 1) := by kernel_rfl
theorem kk5 : kindB Tryz.prog 5 = some (false, 1) := by kernel_rfl
theorem ki5 : intB Tryz.prog 5 = some .u8 := by kernel_rfl
theorem ki3 : intB Tryz.prog 3 = some .i64 := by kernel_rfl
theorem kz78 : zeroB Tryz.prog 78 = some (.agg #[.slice none 0 0, .int .i64 (0 : Int), .int .i64 (0 : Int)]) := by kernel_rfl
theorem kp78 : placesB Tryz.prog 78 = some [(0, 1), (1, 1), (2, 1)] := by kernel_rfl
theorem kz5 : zeroB Tryz.prog 5 = some (.int .u8 (0 : Int)) := by kernel_rfl
theorem ks9 : isStrB Tryz.prog 9 = true := by kernel_rfl
theorem kf78_2 : fieldB Tryz.prog 78 2 = some 2 := by kernel_rfl
theorem kk3 : kindB Tryz.prog 3 = some (false, 1) := by kernel_rfl
theorem kf78_1 : fieldB Tryz.prog 78 1 = some 1 := by kernel_rfl
theorem kf78_0 : fieldB Tryz.prog 78 0 = some 0 := by kernel_rfl
theorem kk22 : kindB Tryz.prog 22 = some (false, 1) := by kernel_rfl
theorem ke61 : elemB Tryz.prog 61 = some (3, 1, 8) := by kernel_rfl
theorem kz3 : zeroB Tryz.prog 3 = some (.int .i64 (0 : Int)) := by kernel_rfl
theorem ke107 : elemB Tryz.prog 107 = some (9, 1, 16) := by kernel_rfl
theorem kk9 : kindB Tryz.prog 9 = some (false, 1) := by kernel_rfl
theorem kz9 : zeroB Tryz.prog 9 = some (strV ([])) := by kernel_rfl
theorem kz98 : zeroB Tryz.prog 98 = some (.agg #[strV ([]), .bool false, strV ([])]) := by kernel_rfl
theorem ke44 : elemB Tryz.prog 44 = some (98, 3, 40) := by kernel_rfl
theorem kp98 : placesB Tryz.prog 98 = some [(0, 1), (1, 1), (2, 1)] := by kernel_rfl
theorem kk98 : kindB Tryz.prog 98 = some (true, 3) := by kernel_rfl
theorem kf98_1 : fieldB Tryz.prog 98 1 = some 1 := by kernel_rfl
theorem kk4 : kindB Tryz.prog 4 = some (false, 1) := by kernel_rfl
theorem kf98_2 : fieldB Tryz.prog 98 2 = some 2 := by kernel_rfl
theorem kf98_0 : fieldB Tryz.prog 98 0 = some 0 := by kernel_rfl
theorem kz46 : zeroB Tryz.prog 46 = some (.agg #[.int .i64 (0 : Int), strV ([]), .int .i64 (0 : Int), .int .i64 (0 : Int), strV ([]), strV ([]), .slice none 0 0]) := by kernel_rfl
theorem kp46 : placesB Tryz.prog 46 = some [(0, 1), (1, 1), (2, 1), (3, 1), (4, 1), (5, 1), (6, 1)] := by kernel_rfl
theorem kk46 : kindB Tryz.prog 46 = some (true, 7) := by kernel_rfl
theorem kf46_0 : fieldB Tryz.prog 46 0 = some 0 := by kernel_rfl
theorem kf46_3 : fieldB Tryz.prog 46 3 = some 3 := by kernel_rfl
theorem kf46_4 : fieldB Tryz.prog 46 4 = some 4 := by kernel_rfl
theorem kf46_5 : fieldB Tryz.prog 46 5 = some 5 := by kernel_rfl
theorem kf46_6 : fieldB Tryz.prog 46 6 = some 6 := by kernel_rfl
theorem kk44 : kindB Tryz.prog 44 = some (false, 1) := by kernel_rfl
theorem kf46_1 : fieldB Tryz.prog 46 1 = some 1 := by kernel_rfl
theorem ke24 : elemB Tryz.prog 24 = some (46, 7, 96) := by kernel_rfl
theorem kz36 : zeroB Tryz.prog 36 = some (.agg #[strV ([]), .int .i64 (0 : Int), .slice none 0 0, .slice none 0 0, .slice none 0 0, .slice none 0 0]) := by kernel_rfl
theorem kp36 : placesB Tryz.prog 36 = some [(0, 1), (1, 2), (3, 1), (4, 1), (5, 1)] := by kernel_rfl
theorem kk36 : kindB Tryz.prog 36 = some (true, 6) := by kernel_rfl
theorem kz32 : zeroB Tryz.prog 32 = some (.agg #[.int .i64 (0 : Int), .slice none 0 0]) := by kernel_rfl
theorem kp32 : placesB Tryz.prog 32 = some [(0, 1), (1, 1)] := by kernel_rfl
theorem ke33 : elemB Tryz.prog 33 = some (90, 5, 72) := by kernel_rfl
theorem kk90 : kindB Tryz.prog 90 = some (true, 5) := by kernel_rfl
theorem kf90_0 : fieldB Tryz.prog 90 0 = some 0 := by kernel_rfl
theorem kz41 : zeroB Tryz.prog 41 = some (.agg #[.int .i64 (0 : Int), .int .i64 (0 : Int), strV ([]), .slice none 0 0]) := by kernel_rfl
theorem kp41 : placesB Tryz.prog 41 = some [(0, 1), (1, 1), (2, 1), (3, 1)] := by kernel_rfl
theorem kk41 : kindB Tryz.prog 41 = some (true, 4) := by kernel_rfl
theorem kf32_1 : fieldB Tryz.prog 32 1 = some 1 := by kernel_rfl
theorem kk30 : kindB Tryz.prog 30 = some (false, 1) := by kernel_rfl
theorem ke30 : elemB Tryz.prog 30 = some (134, 2, 16) := by kernel_rfl
theorem kk134 : kindB Tryz.prog 134 = some (true, 2) := by kernel_rfl
theorem kz134 : zeroB Tryz.prog 134 = some (.agg #[.int .i64 (0 : Int), .int .i64 (0 : Int)]) := by kernel_rfl
theorem kf134_1 : fieldB Tryz.prog 134 1 = some 1 := by kernel_rfl
theorem kf32_0 : fieldB Tryz.prog 32 0 = some 0 := by kernel_rfl
theorem kf134_0 : fieldB Tryz.prog 134 0 = some 0 := by kernel_rfl
theorem kk32 : kindB Tryz.prog 32 = some (true, 2) := by kernel_rfl
theorem kp134 : placesB Tryz.prog 134 = some [(0, 1), (1, 1)] := by kernel_rfl
theorem kz90 : zeroB Tryz.prog 90 = some (.agg #[.int .i64 (0 : Int), .int .i64 (0 : Int), .int .i64 (0 : Int), .slice none 0 0, .slice none 0 0]) := by kernel_rfl
theorem ki104 : intB Tryz.prog 104 = some .u64 := by kernel_rfl
theorem ki175 : intB Tryz.prog 175 = some .u32 := by kernel_rfl
theorem kz176 : zeroB Tryz.prog 176 = some (arrV (List.replicate 16 (Wrd.mk 0))) := by kernel_rfl
theorem ka176 : arrB Tryz.prog 176 = some (16, 175, 1) := by kernel_rfl
theorem kk176 : kindB Tryz.prog 176 = some (true, 16) := by kernel_rfl
theorem kk175 : kindB Tryz.prog 175 = some (false, 1) := by kernel_rfl
theorem kf46_2 : fieldB Tryz.prog 46 2 = some 2 := by kernel_rfl
theorem kf36_2 : fieldB Tryz.prog 36 2 = some 3 := by kernel_rfl
theorem kk33 : kindB Tryz.prog 33 = some (false, 1) := by kernel_rfl
theorem kf36_1 : fieldB Tryz.prog 36 1 = some 1 := by kernel_rfl
theorem kp90 : placesB Tryz.prog 90 = some [(0, 1), (1, 1), (2, 1), (3, 1), (4, 1)] := by kernel_rfl
theorem kf36_3 : fieldB Tryz.prog 36 3 = some 4 := by kernel_rfl
theorem kf36_0 : fieldB Tryz.prog 36 0 = some 0 := by kernel_rfl
theorem kf36_4 : fieldB Tryz.prog 36 4 = some 5 := by kernel_rfl
theorem kk34 : kindB Tryz.prog 34 = some (false, 1) := by kernel_rfl
theorem ke34 : elemB Tryz.prog 34 = some (95, 3, 40) := by kernel_rfl
theorem kk95 : kindB Tryz.prog 95 = some (true, 3) := by kernel_rfl
theorem kf95_0 : fieldB Tryz.prog 95 0 = some 0 := by kernel_rfl
theorem kz95 : zeroB Tryz.prog 95 = some (.agg #[.int .i64 (0 : Int), .slice none 0 0, .bool false]) := by kernel_rfl
theorem kf90_1 : fieldB Tryz.prog 90 1 = some 1 := by kernel_rfl
theorem ke39 : elemB Tryz.prog 39 = some (100, 2, 32) := by kernel_rfl
theorem kz100 : zeroB Tryz.prog 100 = some (.agg #[strV ([]), strV ([])]) := by kernel_rfl
theorem kf90_2 : fieldB Tryz.prog 90 2 = some 2 := by kernel_rfl
theorem kf90_3 : fieldB Tryz.prog 90 3 = some 3 := by kernel_rfl
theorem kk39 : kindB Tryz.prog 39 = some (false, 1) := by kernel_rfl
theorem kf90_4 : fieldB Tryz.prog 90 4 = some 4 := by kernel_rfl
theorem kk88 : kindB Tryz.prog 88 = some (false, 1) := by kernel_rfl
theorem ke88 : elemB Tryz.prog 88 = some (121, 2, 32) := by kernel_rfl
theorem kk121 : kindB Tryz.prog 121 = some (true, 2) := by kernel_rfl
theorem kz121 : zeroB Tryz.prog 121 = some (.agg #[.int .i64 (0 : Int), .slice none 0 0]) := by kernel_rfl
theorem kf121_0 : fieldB Tryz.prog 121 0 = some 0 := by kernel_rfl
theorem kf121_1 : fieldB Tryz.prog 121 1 = some 1 := by kernel_rfl
theorem kp121 : placesB Tryz.prog 121 = some [(0, 1), (1, 1)] := by kernel_rfl
theorem kf153_2 : fieldB Tryz.prog 153 2 = some 2 := by kernel_rfl
theorem kf153_0 : fieldB Tryz.prog 153 0 = some 0 := by kernel_rfl
theorem kf153_1 : fieldB Tryz.prog 153 1 = some 1 := by kernel_rfl
theorem kz153 : zeroB Tryz.prog 153 = some (.agg #[strV ([]), .int .i64 (0 : Int), .bool false]) := by kernel_rfl
theorem kp153 : placesB Tryz.prog 153 = some [(0, 1), (1, 1), (2, 1)] := by kernel_rfl
theorem kk153 : kindB Tryz.prog 153 = some (true, 3) := by kernel_rfl
theorem kk100 : kindB Tryz.prog 100 = some (true, 2) := by kernel_rfl
theorem kf100_0 : fieldB Tryz.prog 100 0 = some 0 := by kernel_rfl
theorem kf100_1 : fieldB Tryz.prog 100 1 = some 1 := by kernel_rfl
theorem kp100 : placesB Tryz.prog 100 = some [(0, 1), (1, 1)] := by kernel_rfl
theorem kp95 : placesB Tryz.prog 95 = some [(0, 1), (1, 1), (2, 1)] := by kernel_rfl
theorem kf95_2 : fieldB Tryz.prog 95 2 = some 2 := by kernel_rfl
theorem kf95_1 : fieldB Tryz.prog 95 1 = some 1 := by kernel_rfl
theorem ke28 : elemB Tryz.prog 28 = some (41, 4, 56) := by kernel_rfl
theorem keq100 : eqTB Tryz.prog 100 = some [2, 2] := by kernel_rfl
theorem kf41_0 : fieldB Tryz.prog 41 0 = some 0 := by kernel_rfl
theorem kf41_1 : fieldB Tryz.prog 41 1 = some 1 := by kernel_rfl
theorem kf41_2 : fieldB Tryz.prog 41 2 = some 2 := by kernel_rfl
theorem kf41_3 : fieldB Tryz.prog 41 3 = some 3 := by kernel_rfl
theorem kb4 : Tryz.prog.underlying 4 = some .bool := by kernel_rfl
theorem hu22 : Tryz.prog.underlying 22 = some (.slice 5) := by kernel_rfl
theorem hs22 : shB Tryz.prog 20 22 = some ([.sl 1 (Dec.sh UInt8)]) := by kernel_rfl
noncomputable def laws_big (code : List UInt8) : Option Bool :=
  some (decide (((code.length : Nat) : Int) > (1048576 : Int)))
theorem laws_big_c {code : List UInt8} {U0 : Value} : Cn Tryz.prog 5 [U0] [] [(U0, lc code)] (laws_big code) (fun r (_ : Unit) => .bool r) fun _ _ => [] := by
  unfold laws_big
  refine Ci Tryz.func5 r r ?_
  rintro w S ⟨Z0,-⟩
  exact Sr<|Qs 1 r<|Nx<|Sr<|Qs 1 r<|Yo (Ln ke22 (Bc Z0) r)<|Qs 2 r<|Nx<|Wr<|Re () []
noncomputable def spec_l1New (code : List UInt8) : Option L1Cur :=
  bindC (loopO (fun (S1 : Int × Int) => (if (decide (S1.2 < ((code.length : Nat) : Int))) = true then (some (decide (S1.2 < (4000 : Int))))
  else (some false)).bind (fun (T5 : Bool) =>
  if T5 = true then ((idx code S1.2).bind fun E9 =>
  some (.go (iand .i64 (IntKind.i64.wrap (IntKind.i64.wrap (IntKind.i64.wrap (S1.1 * (131 : Int)) + (IntKind.i64.wrap ((E9.toNat : Nat) : Int))) + (7 : Int))) (1073741823 : Int), IntKind.i64.wrap (S1.2 + (1 : Int)))))
  else (some (.done (.go S1.1)))))
  (IntKind.i64.wrap ((10101 : Int) + ((code.length : Nat) : Int)), (0 : Int)))
  (fun (T3 : Int) => some ({ b := code, i := (0 : Int), h := T3 : L1Cur }))
theorem spec_l1New_c {code : List UInt8} {U0 : Value} : Cn Tryz.prog 20 [U0] [] [(U0, lc code)] (spec_l1New code) (fun _ (X : Nat) => pt X) fun r X => [.box X 78 [U0, iv r.i, iv r.h]] := by
  unfold spec_l1New
  refine Ci Tryz.func20 r r ?_
  rintro w S ⟨Z0,-⟩
  refine Sr<|Qs 1 r<|Nx<|Sr<|Qs 1 r<|Yo (Ln ke22 (Bc Z0) r)<|Qs 2 r<|Nx<|Sq<|Sr<|Qs 1 r<|Nx<|Ju [0] (fun T=>[(3, iv T)]) r1 (?_) fun T3=>?_
  ·exact Wb<|Lu [0] (fun T=>[(3, iv T.1), (4, iv T.2)]) r1 fun S1=>Sq<|Sq<|Jv [0,3,4] (fun T=>[(15, .bool T)]) r1 (Rg<|Qs 2 r<|Yo (Ln ke22 (Bc Z0) r)<|Qs 2 r<|It (fun H7=>Qg 2 (beq_tt H7) r r<|Yo (Pt H7 r)<|Nl<|Bg () []) fun H7=>Of 2 (beq_ft H7) r r<|Yo (Pf H7 r)<|Nl<|Bg () []) fun T5=>Ne<|Wc r (fun H8=>Sn<|Sq<|Wb<|Rg<|Qs 4 r<|Bi fun E9 H10=>Yo (Ix ke22 (Bc Z0) H10 r)<|Yo (Le kk5 (Bc Z0) H10 r)<|Yo (Y.conv ki5 ki3 r)<|Qs 4 r<|Nl<|Bn<|Ne<|Rg<|Qs 3 r<|Nl<|Lg () []) fun H8=>Wx<|Tx<|Ex<|Be<|Jg () []
  exact Ne<|Sr<|Qs 2 r<|Yo (Bd kp78 kz78 (Pc r (Cb Z0)<|Pc r (Cp r)<|Pz) r)<|Fo (Bx r (Ca ⟨Ob Z0,Op',Op',⟨⟩⟩)) fun B11=>Qs 1 r<|Nx<|Wr<|Re B11 [0]
noncomputable def spec_l21Fill (b : UInt8) : Option (List UInt8) :=
  bindC (loopO (fun (S2 : Int × List UInt8) => if (decide (S2.1 < (32 : Int))) = true then ((app 1 S2.2 ([b])).bind fun E9 =>
  some (.go (IntKind.i64.wrap (S2.1 + (1 : Int)), E9)))
  else (some (.done (.go S2.2))))
  ((0 : Int), ([] : List UInt8)))
  (fun (T4 : List UInt8) => some T4)
theorem spec_l21Fill_c {b : UInt8} : Cn Tryz.prog 21 [.int .u8 ((b.toNat : Nat) : Int)] [] [] (spec_l21Fill b) (fun r (_ : Unit) => strV r) fun _ _ => [] := by
  unfold spec_l21Fill
  refine Ci Tryz.func21 r r ?_
  rintro w S -
  refine Sr<|Qs 1 r<|Nx<|Sr<|Fo (Bs ([] : List UInt8) ke22 kz5) fun B1=>Qs 1 r<|Nx<|Sq<|Sr<|Qs 1 r<|Nx<|Jn Value [] [] (fun _ X=>[(3, X)]) (fun T X=>[.own X (lc T)]) r2 r2 (?_) fun T4 X5=>?_
  ·exact Wb<|Lp Value [0] [] (fun T X=>[(3, X), (4, iv T.1)]) (fun T X=>[.own X (lc T.2)]) (.slice (some ⟨B1, 0, none⟩) 0 0) [0] r2 r2 fun S2 X3=>Sq<|Sr<|Qs 2 r<|Nx<|Wc r (fun H6=>Sn<|Sq<|Wb<|Rg<|Qs 2 r<|Fo (Bs [b] ke22 kz5) fun B7=>Bi fun E9 H10=>Fo (Ap [1] H10 ke22 kz5 r (Oc 0 r)) fun V8=>Qs 1 r<|Nl<|Bn<|Ne<|Rg<|Qs 3 r<|Nl<|Lg V8 [0]) fun H6=>Wx<|Tx<|Ex<|Be<|Jg X3 [0]
  exact Ne<|Sr<|Qs 1 r<|Yo (Y.toStr ke22 ki5 ks9 (Oc 0 r) r)<|Qs 1 r<|Nx<|Wr<|Re () []
noncomputable def spec_l1Byte (c : L1Cur) : Option (Int × L1Cur) :=
  bindC (if (decide (c.i < ((c.b.length : Nat) : Int))) = true then ((idx c.b c.i).bind fun E4 =>
  some (.go (iand .i64 (IntKind.i64.wrap (iand .i64 (ixor .i64 (ishr .i64 (IntKind.i64.wrap (IntKind.i64.wrap (c.h * (6364136223846793005 : Int)) + (1442695040888963407 : Int))) (33 : Int)) (ishr .i64 (IntKind.i64.wrap (IntKind.i64.wrap (c.h * (6364136223846793005 : Int)) + (1442695040888963407 : Int))) (45 : Int))) (255 : Int) + (IntKind.i64.wrap ((E4.toNat : Nat) : Int)))) (255 : Int), IntKind.i64.wrap (c.i + (1 : Int)))))
  else (some (.go (iand .i64 (ixor .i64 (ishr .i64 (IntKind.i64.wrap (IntKind.i64.wrap (c.h * (6364136223846793005 : Int)) + (1442695040888963407 : Int))) (33 : Int)) (ishr .i64 (IntKind.i64.wrap (IntKind.i64.wrap (c.h * (6364136223846793005 : Int)) + (1442695040888963407 : Int))) (45 : Int))) (255 : Int), c.i))))
  (fun (T1 : Int × Int) => some (T1.1, { b := c.b, i := T1.2, h := IntKind.i64.wrap (IntKind.i64.wrap (c.h * (6364136223846793005 : Int)) + (1442695040888963407 : Int)) : L1Cur }))
theorem spec_l1Byte_c {c : L1Cur} {U0 : Value} {U1 : Nat} : Cn Tryz.prog 42 [pt U1] [.box U1 78 [U0, iv c.i, iv c.h]] [(U0, lc c.b)] (spec_l1Byte c) (fun r (_ : Unit) => iv r.1) fun r _ => [.box U1 78 [U0, iv r.2.i, iv r.2.h]] := by
  unfold spec_l1Byte
  refine Ci Tryz.func42 r r ?_
  rintro w S ⟨Z0,-⟩
  refine Sr<|Qs 1 r<|Nx<|Sr<|Qs 3 r<|Yo (Fb kf78_2 r)<|Yo (Lb 0 kk3 r)<|Qs 3 r<|Yo (Fb kf78_2 r)<|Fu (Sb 0 kk3 r (Cp r) r)<|Nx<|Sq<|Dr [0] r hMix<|Aq [0,1] [0] r<|Ay 2 [0] r (Fb kf78_2 r)<|Ay 3 [0] r (Lb 0 kk3 r)<|Ay 4 [0] r (Y.shr (by decide) r r)<|Aq [5,6] [0] r<|Ay 7 [0] r (Fb kf78_2 r)<|Ay 8 [0] r (Lb 0 kk3 r)<|Ay 9 [0] r (Y.shr (by decide) r r)<|Aq [10,11,12] [0] r<|Az<|Ne<|Sq<|Sq<|Dr [0] r hMix<|Aq [0,1] [0] r<|Ay 2 [0] r (Fb kf78_1 r)<|Ay 3 [0] r (Lb 0 kk3 r)<|Aq [4,5] [0] r<|Ay 6 [0] r (Fb kf78_0 r)<|Ay 7 [0] r (Lb 0 kk22 r)<|Ay 8 [0] r (Ln ke22 (Bc Z0) r)<|Aq [9] [0] r<|Az<|Ne<|Jn Unit [] [] (fun T _=>[(3, iv T.1)]) (fun T _=>[.box U1 78 [U0, iv T.2, iv (IntKind.i64.wrap (IntKind.i64.wrap (c.h * (6364136223846793005 : Int)) + (1442695040888963407 : Int)))]]) r2 r2 (?_) fun T1 X2=>?_
  ·refine Wc r (fun H3=>?_) fun H3=>?_
   ·exact Sq<|Dr [0] r hMix<|Aq [0,1,2] [0] r<|Ay 3 [0] r (Fb kf78_0 r)<|Ay 4 [0] r (Lb 0 kk22 r)<|Aq [5,6] [0] r<|Ay 7 [0] r (Fb kf78_1 r)<|Ay 8 [0] r (Lb 0 kk3 r)<|Ai fun E4 H5=>Ay 9 [0] r (Ix ke22 (Bc Z0) H5 r)<|Ay 10 [0] r (Le kk5 (Bc Z0) H5 r)<|Ay 11 [0] r (Y.conv ki5 ki3 r)<|Aq [12,13,14] [0] r<|Az<|Ne<|Rg<|Qs 3 r<|Yo (Fb kf78_1 r)<|Yo (Lb 0 kk3 r)<|Qs 2 r<|Yo (Fb kf78_1 r)<|Fu (Sb 0 kk3 r (Cp r) r)<|Nl<|Jg () [0]
   exact Sk<|Jg () [0]
  exact Ne<|Sr<|Qs 2 r<|Nx<|Wr<|Re () [0]
noncomputable def spec_l1Below (c : L1Cur) (n : Int) : Option (Int × L1Cur) :=
  if (decide (n ≤ (0 : Int))) = true then (some ((0 : Int), c))
  else (if (decide (n ≤ (256 : Int))) = true then ((spec_l1Byte c).bind fun R3 =>
  (nz n).bind fun E6 =>
  some (Int.tmod R3.1 n, { b := c.b, i := R3.2.i, h := R3.2.h : L1Cur }))
  else ((spec_l1Byte c).bind fun R8 =>
  (spec_l1Byte ({ b := c.b, i := R8.2.i, h := R8.2.h : L1Cur })).bind fun R11 =>
  (spec_l1Byte ({ b := c.b, i := R11.2.i, h := R11.2.h : L1Cur })).bind fun R14 =>
  (spec_l1Byte ({ b := c.b, i := R14.2.i, h := R14.2.h : L1Cur })).bind fun R17 =>
  (nz n).bind fun E20 =>
  some (Int.tmod (IntKind.i64.wrap (IntKind.i64.wrap (IntKind.i64.wrap (IntKind.i64.wrap (R8.1 * (16777216 : Int)) + (IntKind.i64.wrap (R11.1 * (65536 : Int)))) + (IntKind.i64.wrap (R14.1 * (256 : Int)))) + R17.1)) n, { b := c.b, i := R17.2.i, h := R17.2.h : L1Cur })))
theorem spec_l1Below_c {c : L1Cur} {n : Int} {U0 : Value} {U1 : Nat} : Cn Tryz.prog 41 [pt U1, iv n] [.box U1 78 [U0, iv c.i, iv c.h]] [(U0, lc c.b)] (spec_l1Below c n) (fun r (_ : Unit) => iv r.1) fun r _ => [.box U1 78 [U0, iv r.2.i, iv r.2.h]] := by
  unfold spec_l1Below
  refine Ci Tryz.func41 r r ?_
  rintro w S ⟨Z0,-⟩
  refine Sr<|Qs 1 r<|Nx<|Sq<|Sr<|Qs 2 r<|Nx<|Wc r (fun H1=>Sr<|Qs 1 r<|Nx<|Wr<|Tr<|Re () [0]) fun H1=>Sn<|Sq<|Sr<|Qs 2 r<|Nx<|Wc r (fun H2=>Sr<|Qs 1 r<|Bi fun R3 H4=>Fo (Cl [0] spec_l1Byte_c H4 r r1 ⟨(Bc Z0),⟨⟩⟩) fun _=>Qs 1 r<|Bi fun E6 H7=>Yo (Y.rem (nz_ne H7) r r)<|Qs 1 r<|Nx<|Wr<|Tr<|Re () [0]) fun H2=>Sn<|Sr<|Qs 1 r<|Bi fun R8 H9=>Fo (Cl [0] spec_l1Byte_c H9 r r1 ⟨(Bc Z0),⟨⟩⟩) fun _=>Qs 1 r<|Nx<|Sr<|Qs 1 r<|Bi fun R11 H12=>Fo (Cl [0] spec_l1Byte_c H12 r r1 ⟨(Bc Z0),⟨⟩⟩) fun _=>Qs 1 r<|Nx<|Sr<|Qs 1 r<|Bi fun R14 H15=>?_
  exact Fo (Cl [0] spec_l1Byte_c H15 r r1 ⟨(Bc Z0),⟨⟩⟩) fun _=>Qs 1 r<|Nx<|Sr<|Qs 1 r<|Bi fun R17 H18=>Fo (Cl [0] spec_l1Byte_c H18 r r1 ⟨(Bc Z0),⟨⟩⟩) fun _=>Qs 1 r<|Nx<|Sr<|Qs 11 r<|Bi fun E20 H21=>Yo (Y.rem (nz_ne H21) r r)<|Qs 1 r<|Nx<|Wr<|Re () [0]
noncomputable def spec_l1Once (c : L1Cur) (n : Int) : Option (Bool × L1Cur) :=
  (spec_l1Below c n).bind fun R1 =>
  some (decide (R1.1 = (0 : Int)), { b := c.b, i := R1.2.i, h := R1.2.h : L1Cur })
theorem spec_l1Once_c {c : L1Cur} {n : Int} {U0 : Value} {U1 : Nat} : Cn Tryz.prog 22 [pt U1, iv n] [.box U1 78 [U0, iv c.i, iv c.h]] [(U0, lc c.b)] (spec_l1Once c n) (fun r (_ : Unit) => .bool r.1) fun r _ => [.box U1 78 [U0, iv r.2.i, iv r.2.h]] := by
  unfold spec_l1Once
  refine Ci Tryz.func22 r r ?_
  rintro w S ⟨Z0,-⟩
  exact Sr<|Qs 1 r<|Nx<|Sr<|Qs 2 r<|Bi fun R1 H2=>Fo (Cl [0] spec_l1Below_c H2 r r1 ⟨(Bc Z0),⟨⟩⟩) fun _=>Qs 2 r<|Nx<|Wr<|Re () [0]
noncomputable def spec_l3Key (c : L1Cur) : Option (List UInt8 × L1Cur) :=
  (spec_l1Byte c).bind fun R2 =>
  bindC (loopO (fun (S5 : Int × List UInt8) => if (decide (S5.1 < (32 : Int))) = true then ((app 1 S5.2 ([toU8 (IntKind.i64.wrap (IntKind.i64.wrap (R2.1 * S5.1) + (Int.tmod S5.1 (3 : Int))))])).bind fun E12 =>
  some (.go (IntKind.i64.wrap (S5.1 + (1 : Int)), E12)))
  else (some (.done (.go S5.2))))
  ((0 : Int), ([] : List UInt8)))
  (fun (T7 : List UInt8) => (spec_l1Once ({ b := c.b, i := R2.2.i, h := R2.2.h : L1Cur }) (15 : Int)).bind fun R14 =>
  if R14.1 = true then ((spec_l1Below ({ b := c.b, i := R14.2.i, h := R14.2.h : L1Cur }) (32 : Int)).bind fun R18 =>
  (piece T7 (0 : Int) R18.1).bind fun E21 =>
  some (E21, { b := c.b, i := R18.2.i, h := R18.2.h : L1Cur }))
  else (some (T7, { b := c.b, i := R14.2.i, h := R14.2.h : L1Cur })))
theorem spec_l3Key_c {c : L1Cur} {U0 : Value} {U1 : Nat} : Cn Tryz.prog 23 [pt U1] [.box U1 78 [U0, iv c.i, iv c.h]] [(U0, lc c.b)] (spec_l3Key c) (fun r (_ : Unit) => strV r.1) fun r _ => [.box U1 78 [U0, iv r.2.i, iv r.2.h]] := by
  unfold spec_l3Key
  refine Ci Tryz.func23 r r ?_
  rintro w S ⟨Z0,-⟩
  refine Sr<|Qs 1 r<|Nx<|Sr<|Fo (Bs ([] : List UInt8) ke22 kz5) fun B1=>Qs 1 r<|Nx<|Sr<|Qs 1 r<|Bi fun R2 H3=>Fo (Cl [1] spec_l1Byte_c H3 r r1 ⟨(Bc Z0),⟨⟩⟩) fun _=>Qs 1 r<|Nx<|Sq<|Sr<|Qs 1 r<|Nx<|Jn Value [0] [0] (fun _ X=>[(3, X)]) (fun T X=>[.own X (lc T)]) r2 r2 (?_) fun T7 X8=>?_
  ·refine Wb<|Lp Value [0,4] [0] (fun T X=>[(3, X), (5, iv T.1)]) (fun T X=>[.own X (lc T.2)]) (.slice (some ⟨B1, 0, none⟩) 0 0) [0,0] r2 r2 fun S5 X6=>Sq<|Sr<|Qs 2 r<|Nx<|Wc r (fun H9=>?_) fun H9=>?_
   ·exact Sn<|Sq<|Wb<|Rg<|Qs 5 r<|Yo (Y.rem (by decide) r r)<|Qs 1 r<|Yo (Y.conv8 ki3 ki5 r)<|Fo (Bs [toU8 (IntKind.i64.wrap (IntKind.i64.wrap (R2.1 * S5.1) + (Int.tmod S5.1 (3 : Int))))] ke22 kz5) fun B10=>Bi fun E12 H13=>Fo (Ap [2] H13 ke22 kz5 r (Oc 0 r)) fun V11=>Qs 1 r<|Nl<|Bn<|Ne<|Rg<|Qs 3 r<|Nl<|Lg V11 [2,0]
   exact Wx<|Tx<|Ex<|Be<|Jg X6 [0,0]
  exact Ne<|Sq<|Sr<|Qs 1 r<|Bi fun R14 H15=>Fo (Cl [0] spec_l1Once_c H15 r r1 ⟨(Bc Z0),⟨⟩⟩) fun _=>Nx<|Wc r (fun H17=>Sr<|Qs 2 r<|Bi fun R18 H19=>Fo (Cl [0] spec_l1Below_c H19 r r1 ⟨(Bc Z0),⟨⟩⟩) fun _=>Bi fun E21 H22=>Yo (Y.subs H22 ke22 (Oc 1 r) r r ⟨_, r⟩)<|Yo (Y.toStr ke22 ki5 ks9 (Can.sub H22 r (Oc 1 r)) r)<|Qs 1 r<|Nx<|Wr<|Tr<|Re () [0]) fun H17=>Sn<|Sr<|Qs 1 r<|Yo (Y.toStr ke22 ki5 ks9 (Oc 1 r) r)<|Qs 1 r<|Nx<|Wr<|Re () [0]
noncomputable def spec_l1PickInt (c : L1Cur) (list : List Int) : Option (Int × L1Cur) :=
  (spec_l1Below c ((list.length : Nat) : Int)).bind fun R1 =>
  (idx list R1.1).bind fun E4 =>
  some (E4, { b := c.b, i := R1.2.i, h := R1.2.h : L1Cur })
theorem spec_l1PickInt_c {c : L1Cur} {list : List Int} {U0 U2 : Value} {U1 : Nat} : Cn Tryz.prog 24 [pt U1, U2] [.box U1 78 [U0, iv c.i, iv c.h]] [(U0, lc c.b), (U2, lc list)] (spec_l1PickInt c list) (fun r (_ : Unit) => iv r.1) fun r _ => [.box U1 78 [U0, iv r.2.i, iv r.2.h]] := by
  unfold spec_l1PickInt
  refine Ci Tryz.func24 r r ?_
  rintro w S ⟨Z0,Z1,-⟩
  exact Sr<|Qs 1 r<|Nx<|Sr<|Qs 3 r<|Yo (Ln ke61 (Bc Z1) r)<|Bi fun R1 H2=>Fo (Cl [0] spec_l1Below_c H2 r r1 ⟨(Bc Z0),⟨⟩⟩) fun _=>Bi fun E4 H5=>Yo (Ix ke61 (Bc Z1) H5 r)<|Yo (Le kk3 (Bc Z1) H5 r)<|Qs 1 r<|Nx<|Wr<|Re () [0]
noncomputable def spec_l1Size (code : List UInt8) (most : Int) : Option Int :=
  if (decide (IntKind.i64.wrap ((2 : Int) + (IntKind.i64.wrap (Int.tdiv ((code.length : Nat) : Int) (20 : Int)))) > most)) = true then (some most)
  else (some (IntKind.i64.wrap ((2 : Int) + (IntKind.i64.wrap (Int.tdiv ((code.length : Nat) : Int) (20 : Int))))))
theorem spec_l1Size_c {code : List UInt8} {most : Int} {U0 : Value} : Cn Tryz.prog 26 [U0, iv most] [] [(U0, lc code)] (spec_l1Size code most) (fun r (_ : Unit) => iv r) fun _ _ => [] := by
  unfold spec_l1Size
  refine Ci Tryz.func26 r r ?_
  rintro w S ⟨Z0,-⟩
  exact Sr<|Qs 1 r<|Nx<|Sr<|Qs 1 r<|Yo (Ln ke22 (Bc Z0) r)<|Yo (Y.quo (by decide) r r)<|Qs 2 r<|Nx<|Sq<|Sr<|Qs 3 r<|Nx<|Wc r (fun H1=>Sr<|Qs 2 r<|Nx<|Wr<|Tr<|Re () []) fun H1=>Sn<|Sr<|Qs 2 r<|Nx<|Wr<|Re () []
noncomputable def spec_l1In (x : Int) (low : Int) (high : Int) : Option Bool :=
  (if (decide (x ≥ low)) = true then (some (decide (x ≤ high)))
  else (some false)).bind (fun (T1 : Bool) =>
  some T1)
theorem spec_l1In_c {x : Int} {low : Int} {high : Int} : Cn Tryz.prog 50 [iv x, iv low, iv high] [] [] (spec_l1In x low high) (fun r (_ : Unit) => .bool r) fun _ _ => [] := by
  unfold spec_l1In
  refine Ci Tryz.func50 r r ?_
  rintro w S -
  exact Sr<|Qs 1 r<|Nx<|Sq<|Jv [] (fun T=>[(6, .bool T)]) r1 (Rg<|Qs 4 r<|It (fun H3=>Qg 3 (beq_tt H3) r r<|Yo (Pt H3 r)<|Qs 1 r<|Nl<|Bg () []) fun H3=>Of 3 (beq_ft H3) r r<|Yo (Pf H3 r)<|Qs 1 r<|Nl<|Bg () []) fun T1=>Ne<|Wr<|Re () []
noncomputable def spec_Var (n : Int) : Option (List UInt8) :=
  (spec_l1In n (0 : Int) (562949953421311 : Int)).bind fun R1 =>
  if (!R1) = true then (some ([]))
  else (bindC (loopO (fun (S6 : Int × List UInt8) => if (decide (S6.1 ≥ (128 : Int))) = true then ((app 1 S6.2 ([toU8 (IntKind.i64.wrap ((128 : Int) + (Int.tmod S6.1 (128 : Int))))])).bind fun E13 =>
  some (.go (IntKind.i64.wrap (Int.tdiv S6.1 (128 : Int)), E13)))
  else (some (.done (.go (S6.1, S6.2)))))
  (n, ([] : List UInt8)))
  (fun (T8 : Int × List UInt8) => (app 1 T8.2 ([toU8 T8.1])).bind fun E17 =>
  some E17))
theorem spec_Var_c {n : Int} : Cn Tryz.prog 105 [iv n] [] [] (spec_Var n) (fun r (_ : Unit) => strV r) fun _ _ => [] := by
  unfold spec_Var
  refine Ci Tryz.func105 r r ?_
  rintro w S -
  refine Sr<|Qs 1 r<|Nx<|Sq<|Sr<|Qs 1 r<|Bi fun R1 H2=>Fo (Cl [] spec_l1In_c H2 r r1) fun _=>Qs 1 r<|Nx<|Wc r (fun H4=>Sr<|Qs 1 r<|Nx<|Wr<|Tr<|Re () []) fun H4=>Sn<|Sr<|Fo (Bs ([] : List UInt8) ke22 kz5) fun B5=>Qs 1 r<|Nx<|Sq<|Jn Value [] [] (fun T X=>[(0, iv T.1), (3, X)]) (fun T X=>[.own X (lc T.2)]) r2 r2 (?_) fun T8 X9=>?_
  ·refine Wb<|Lp Value [] [] (fun T X=>[(0, iv T.1), (3, X)]) (fun T X=>[.own X (lc T.2)]) (.slice (some ⟨B5, 0, none⟩) 0 0) [0] r2 r2 fun S6 X7=>Sq<|Sr<|Qs 2 r<|Nx<|Wc r (fun H10=>?_) fun H10=>?_
   ·exact Sn<|Wb<|Sr<|Qs 2 r<|Yo (Y.rem (by decide) r r)<|Qs 1 r<|Yo (Y.conv8 ki3 ki5 r)<|Fo (Bs [toU8 (IntKind.i64.wrap ((128 : Int) + (Int.tmod S6.1 (128 : Int))))] ke22 kz5) fun B11=>Bi fun E13 H14=>Fo (Ap [1] H14 ke22 kz5 r (Oc 0 r)) fun V12=>Qs 1 r<|Nx<|Rg<|Qs 1 r<|Yo (Y.quo (by decide) r r)<|Qs 1 r<|Nl<|Bn<|Lg V12 [0]
   exact Wx<|Tx<|Ex<|Be<|Jg X7 [0]
  exact Ne<|Sr<|Qs 2 r<|Yo (Y.conv8 ki3 ki5 r)<|Fo (Bs [toU8 T8.1] ke22 kz5) fun B15=>Bi fun E17 H18=>Fo (Ap [1] H18 ke22 kz5 r (Oc 0 r)) fun V16=>Yo (Y.toStr ke22 ki5 ks9 (Oc 0 r) r)<|Qs 1 r<|Nx<|Wr<|Re () []
noncomputable def spec_Fixed (n : Int) (width : Int) : Option (List UInt8) :=
  ((spec_l1In width (1 : Int) (7 : Int)).bind fun R3 =>
  if (!R3) = true then (some true)
  else (some (decide (n < (0 : Int))))).bind (fun (T1 : Bool) =>
  if T1 = true then (some ([]))
  else (bindC (loopO (fun (S8 : Int × List UInt8 × Int) => if (decide (S8.2.2 < width)) = true then ((cat ([toU8 (Int.tmod S8.1 (256 : Int))]) S8.2.1).bind fun E14 =>
  some (.go (IntKind.i64.wrap (Int.tdiv S8.1 (256 : Int)), E14, IntKind.i64.wrap (S8.2.2 + (1 : Int)))))
  else (some (.done (.go (S8.1, S8.2.1)))))
  (n, [], (0 : Int)))
  (fun (T10 : Int × List UInt8) => if (decide (T10.1 > (0 : Int))) = true then (some ([]))
  else (some T10.2))))
theorem spec_Fixed_c {n : Int} {width : Int} : Cn Tryz.prog 146 [iv n, iv width] [] [] (spec_Fixed n width) (fun r (_ : Unit) => strV r) fun _ _ => [] := by
  unfold spec_Fixed
  refine Ci Tryz.func146 r r ?_
  rintro w S -
  refine Sr<|Qs 1 r<|Nx<|Sq<|Sq<|Jv [0,1] (fun T=>[(13, .bool T)]) r1 (Rg<|Qs 1 r<|Bi fun R3 H4=>Fo (Cl [] spec_l1In_c H4 r r1) fun _=>Qs 2 r<|It (fun H6=>Of 2 (beq_tf H6) r r<|Yo (Pt H6 r)<|Nl<|Bg () []) fun H6=>Qg 2 (beq_ff H6) r r<|Yo (Pf H6 r)<|Nl<|Bg () []) fun T1=>Ne<|Wc r (fun H7=>Sr<|Qs 1 r<|Nx<|Wr<|Tr<|Re () []) fun H7=>Sn<|Sr<|Qs 1 r<|Nx<|Sq<|Sr<|Qs 1 r<|Nx<|Ju [] (fun T=>[(0, iv T.1), (5, strV T.2)]) r1 (?_) fun T10=>?_
  ·refine Wb<|Lu [1] (fun T=>[(0, iv T.1), (5, strV T.2.1), (6, iv T.2.2)]) r1 fun S8=>Sq<|Sr<|Qs 3 r<|Nx<|Wc r (fun H12=>?_) fun H12=>?_
   ·exact Sn<|Sq<|Wb<|Sr<|Qs 1 r<|Yo (Y.rem (by decide) r r)<|Yo (Y.conv8 ki3 ki5 r)<|Fo (Bs [toU8 (Int.tmod S8.1 (256 : Int))] ke22 kz5) fun B13=>Yo (Y.toStr ke22 ki5 ks9 (Oc 0 r) r)<|Qs 1 r<|Bi fun E14 H15=>Yo (Y.cat H15 r r)<|Qs 1 r<|Nx<|Rg<|Qs 1 r<|Yo (Y.quo (by decide) r r)<|Qs 1 r<|Nl<|Bn<|Ne<|Rg<|Qs 3 r<|Nl<|Lg () []
   exact Wx<|Tx<|Ex<|Be<|Jg () []
  exact Ne<|Sq<|Sr<|Qs 2 r<|Nx<|Wc r (fun H16=>Sr<|Qs 1 r<|Nx<|Wr<|Tr<|Re () []) fun H16=>Sn<|Sr<|Qs 2 r<|Nx<|Wr<|Re () []
noncomputable def spec_NonceOf (kind : Int) (n : Int) : Option (List UInt8) :=
  ((spec_l1In kind (0 : Int) (255 : Int)).bind fun R3 =>
  if (!R3) = true then (some true)
  else ((spec_l1In n (0 : Int) (562949953421311 : Int)).bind fun R7 =>
  some (!R7))).bind (fun (T1 : Bool) =>
  if T1 = true then (some ([]))
  else ((spec_Fixed n (7 : Int)).bind fun R12 =>
  (cat ([toU8 kind, (0 : UInt8), (0 : UInt8), (0 : UInt8), (0 : UInt8)]) R12).bind fun E17 =>
  some E17))
theorem spec_NonceOf_c {kind : Int} {n : Int} : Cn Tryz.prog 107 [iv kind, iv n] [] [] (spec_NonceOf kind n) (fun r (_ : Unit) => strV r) fun _ _ => [] := by
  unfold spec_NonceOf
  refine Ci Tryz.func107 r r ?_
  rintro w S -
  refine Sr<|Qs 1 r<|Nx<|Sq<|Sq<|Jv [0,1] (fun T=>[(12, .bool T)]) r1 (?_) fun T1=>?_
  ·exact Rg<|Qs 1 r<|Bi fun R3 H4=>Fo (Cl [] spec_l1In_c H4 r r1) fun _=>Qs 2 r<|It (fun H6=>Of 3 (beq_tf H6) r r<|Yo (Pt H6 r)<|Nl<|Bg () []) fun H6=>Qg 1 (beq_ff H6) r r<|Bi fun R7 H8=>Fg (gdA (beq_ff H6)) (Cl [] spec_l1In_c H8 r r1) fun _=>Qg 1 (beq_ff H6) r r<|Yo (Pf H6 r)<|Nl<|Bg () []
  refine Ne<|Wc r (fun H10=>Sr<|Qs 1 r<|Nx<|Wr<|Tr<|Re () []) fun H10=>Sn<|Sq<|Wi fun R12 H13=>Wi fun E17 H18=>Jw Unit [] [] (fun _=>[(4, strV E17)]) (fun _=>[]) r1 r1 (?_) fun X20=>?_
  ·refine Dr [] r hMix<|Aq [0] [] r<|Ay 1 [] r (Y.conv8 ki3 ki5 r)<|Aq [4] [] r<|A2 2 5 (?_)<|?_
   ·exact Xe [] r (Bs [toU8 kind, (0 : UInt8), (0 : UInt8), (0 : UInt8), (0 : UInt8)] ke22 kz5) fun B21=>A2 3 5 (Xy [] r (Y.toStr ke22 ki5 ks9 (Oc 0 r) r)<|A1 5<|Xe [] r (Cl [] spec_Fixed_c H13 r r1) fun _=>Ay 6 [] r (Y.cat H18 r r)<|Aq [7] [] r<|Az<|Bg () [])<|Xe [] r (Cl [] spec_Fixed_c H13 r r1) fun _=>A1 3<|Xy [] r (Y.toStr ke22 ki5 ks9 (Oc 0 r) r)<|Ay 6 [] r (Y.cat H18 r r)<|Aq [7] [] r<|Az<|Bg () []
   exact Xe [] r (Cl [] spec_Fixed_c H13 r r1) fun _=>A1 2<|Xe [] r (Bs [toU8 kind, (0 : UInt8), (0 : UInt8), (0 : UInt8), (0 : UInt8)] ke22 kz5) fun B23=>A1 3<|Xy [] r (Y.toStr ke22 ki5 ks9 (Oc 0 r) r)<|Ay 6 [] r (Y.cat H18 r r)<|Aq [7] [] r<|Az<|Bg () []
  exact Ne<|Wr<|Re () []
noncomputable def spec_l3Little (s : List UInt8) (at_ : Int) : Option Int :=
  (sidx s at_).bind fun E1 =>
  (sidx s (IntKind.i64.wrap (at_ + (1 : Int)))).bind fun E3 =>
  (sidx s (IntKind.i64.wrap (at_ + (2 : Int)))).bind fun E5 =>
  (sidx s (IntKind.i64.wrap (at_ + (3 : Int)))).bind fun E7 =>
  some (ior .i64 (ior .i64 (ior .i64 (IntKind.i64.wrap ((E1.toNat : Nat) : Int)) (ishl .i64 (IntKind.i64.wrap ((E3.toNat : Nat) : Int)) (8 : Int))) (ishl .i64 (IntKind.i64.wrap ((E5.toNat : Nat) : Int)) (16 : Int))) (ishl .i64 (IntKind.i64.wrap ((E7.toNat : Nat) : Int)) (24 : Int)))
theorem spec_l3Little_c {s : List UInt8} {at_ : Int} : Cn Tryz.prog 174 [strV s, iv at_] [] [] (spec_l3Little s at_) (fun r (_ : Unit) => iv r) fun _ _ => [] := by
  unfold spec_l3Little
  refine Ci Tryz.func174 r r ?_
  rintro w S -
  exact Sr<|Qs 1 r<|Nx<|Sq<|Dr [] r hMix<|Aq [0,1] [] r<|Ai fun E1 H2=>Ay 2 [] r (Y.sidx H2 ks9 r r)<|Ay 3 [] r (Y.conv ki5 ki3 r)<|Aq [4,5,6] [] r<|Ai fun E3 H4=>Ay 7 [] r (Y.sidx H4 ks9 r r)<|Ay 8 [] r (Y.conv ki5 ki3 r)<|Ay 9 [] r (Y.shl (by decide) r r)<|Aq [10,11,12,13] [] r<|Ai fun E5 H6=>Ay 14 [] r (Y.sidx H6 ks9 r r)<|Ay 15 [] r (Y.conv ki5 ki3 r)<|Ay 16 [] r (Y.shl (by decide) r r)<|Aq [17,18,19,20] [] r<|Ai fun E7 H8=>Ay 21 [] r (Y.sidx H8 ks9 r r)<|Ay 22 [] r (Y.conv ki5 ki3 r)<|Ay 23 [] r (Y.shl (by decide) r r)<|Aq [24,25] [] r<|Az<|Ne<|Wr<|Re () []
noncomputable def spec_l3Word (x : Int) : Option Int :=
  some (iand .i64 x (4294967295 : Int))
theorem spec_l3Word_c {x : Int} : Cn Tryz.prog 176 [iv x] [] [] (spec_l3Word x) (fun r (_ : Unit) => iv r) fun _ _ => [] := by
  unfold spec_l3Word
  refine Ci Tryz.func176 r r ?_
  rintro w S -
  exact Sr<|Qs 1 r<|Nx<|Sr<|Qs 3 r<|Nx<|Wr<|Re () []
noncomputable def spec_l3Left (x : Int) (n : Int) : Option Int :=
  (nn n).bind fun E1 =>
  (spec_l3Word (ior .i64 (ishl .i64 x n) (ishr .i64 x (IntKind.u64.wrap ((32 : Int) - n))))).bind fun R3 =>
  some R3
theorem spec_l3Left_c {x : Int} {n : Int} : Cn Tryz.prog 187 [iv x, .int .u64 n] [] [] (spec_l3Left x n) (fun r (_ : Unit) => iv r) fun _ _ => [] := by
  unfold spec_l3Left
  refine Ci Tryz.func187 r r ?_
  rintro w S -
  exact Sr<|Qs 1 r<|Nx<|Sr<|Qs 2 r<|Bi fun E1 H2=>Yo (Y.shl (nn_ge H2) r r)<|Qs 3 r<|Yo (Y.shr (wrap_u_nonneg r _) r r)<|Qs 1 r<|Bi fun R3 H4=>Fo (Cl [] spec_l3Word_c H4 r r1) fun _=>Qs 1 r<|Nx<|Wr<|Re () []
noncomputable def spec_l3Quarter (s : List Int) (a : Int) (b : Int) (c : Int) (d : Int) : Option (List Int) :=
  (idx s a).bind fun E1 =>
  (idx s b).bind fun E3 =>
  (spec_l3Word (IntKind.i64.wrap (E1 + E3))).bind fun R5 =>
  (idx (s.set a.toNat R5) d).bind fun E10 =>
  (idx (s.set a.toNat R5) a).bind fun E12 =>
  (spec_l3Left (ixor .i64 E10 E12) (16 : Int)).bind fun R14 =>
  (idx ((s.set a.toNat R5).set d.toNat R14) c).bind fun E19 =>
  (idx ((s.set a.toNat R5).set d.toNat R14) d).bind fun E21 =>
  (spec_l3Word (IntKind.i64.wrap (E19 + E21))).bind fun R23 =>
  (idx (((s.set a.toNat R5).set d.toNat R14).set c.toNat R23) b).bind fun E28 =>
  (idx (((s.set a.toNat R5).set d.toNat R14).set c.toNat R23) c).bind fun E30 =>
  (spec_l3Left (ixor .i64 E28 E30) (12 : Int)).bind fun R32 =>
  (idx ((((s.set a.toNat R5).set d.toNat R14).set c.toNat R23).set b.toNat R32) a).bind fun E37 =>
  (idx ((((s.set a.toNat R5).set d.toNat R14).set c.toNat R23).set b.toNat R32) b).bind fun E39 =>
  (spec_l3Word (IntKind.i64.wrap (E37 + E39))).bind fun R41 =>
  (idx (((((s.set a.toNat R5).set d.toNat R14).set c.toNat R23).set b.toNat R32).set a.toNat R41) d).bind fun E46 =>
  (idx (((((s.set a.toNat R5).set d.toNat R14).set c.toNat R23).set b.toNat R32).set a.toNat R41) a).bind fun E48 =>
  (spec_l3Left (ixor .i64 E46 E48) (8 : Int)).bind fun R50 =>
  (idx ((((((s.set a.toNat R5).set d.toNat R14).set c.toNat R23).set b.toNat R32).set a.toNat R41).set d.toNat R50) c).bind fun E55 =>
  (idx ((((((s.set a.toNat R5).set d.toNat R14).set c.toNat R23).set b.toNat R32).set a.toNat R41).set d.toNat R50) d).bind fun E57 =>
  (spec_l3Word (IntKind.i64.wrap (E55 + E57))).bind fun R59 =>
  (idx (((((((s.set a.toNat R5).set d.toNat R14).set c.toNat R23).set b.toNat R32).set a.toNat R41).set d.toNat R50).set c.toNat R59) b).bind fun E64 =>
  (idx (((((((s.set a.toNat R5).set d.toNat R14).set c.toNat R23).set b.toNat R32).set a.toNat R41).set d.toNat R50).set c.toNat R59) c).bind fun E66 =>
  (spec_l3Left (ixor .i64 E64 E66) (7 : Int)).bind fun R68 =>
  some ((((((((s.set a.toNat R5).set d.toNat R14).set c.toNat R23).set b.toNat R32).set a.toNat R41).set d.toNat R50).set c.toNat R59).set b.toNat R68)
theorem spec_l3Quarter_c {s : List Int} {a : Int} {b : Int} {c : Int} {d : Int} {U0 : Value} : Cn Tryz.prog 175 [U0, iv a, iv b, iv c, iv d] [.own U0 (lc s)] [] (spec_l3Quarter s a b c d) (fun _ (X : Value) => X) fun r X => [.own X (lc r)] := by
  unfold spec_l3Quarter
  refine Ci Tryz.func175 r r ?_
  rintro w S -
  refine Sr<|Qs 1 r<|Nx<|Sq<|Wi fun E1 H2=>Wi fun E3 H4=>Wi fun R5 H6=>Jw Unit [0,1,2,3,4] [] (fun _=>[]) (fun _=>[.own U0 (lc (s.set a.toNat R5))]) r1 r1 (?_) fun X9=>?_
  ·refine Dr [] r hMix<|Aq [0,1,2,3,6,7] [] r<|A2 4 8 (?_)<|?_
   ·refine Xy [] r (Ix ke61 (Oc 0 r) H2 r)<|A2 5 8 (Xy [] r (Le kk3 (Oc 0 r) H2 r)<|A1 8<|Xy [] r (Ix ke61 (Oc 0 r) H4 r)<|A1 9<|Xy [] r (Le kk3 (Oc 0 r) H4 r)<|Aq [10] [] r<|A1 11<|Xe [] r (Cl [] spec_l3Word_c H6 r r1) fun _=>A1 12<|Xy [] r (Ix ke61 (Oc 0 r) H2 r)<|A1 13<|Xu [] r (Se R5 0 kk3 H2 r (Cp r) r)<|Az<|Bg () [0])<|Xy [] r (Ix ke61 (Oc 0 r) H4 r)<|A2 5 9 (Xy [] r (Le kk3 (Oc 0 r) H2 r)<|A1 9<|Xy [] r (Le kk3 (Oc 0 r) H4 r)<|Aq [10] [] r<|A1 11<|Xe [] r (Cl [] spec_l3Word_c H6 r r1) fun _=>A1 12<|Xy [] r (Ix ke61 (Oc 0 r) H2 r)<|A1 13<|Xu [] r (Se R5 0 kk3 H2 r (Cp r) r)<|Az<|Bg () [0])<|Xy [] r (Le kk3 (Oc 0 r) H4 r)<|A1 5<|Xy [] r (Le kk3 (Oc 0 r) H2 r)<|Aq [10] [] r<|A1 11<|Xe [] r (Cl [] spec_l3Word_c H6 r r1) fun _=>?_
    exact A1 12<|Xy [] r (Ix ke61 (Oc 0 r) H2 r)<|A1 13<|Xu [] r (Se R5 0 kk3 H2 r (Cp r) r)<|Az<|Bg () [0]
   refine Xy [] r (Ix ke61 (Oc 0 r) H4 r)<|A2 4 9 (?_)<|?_
   ·exact Xy [] r (Ix ke61 (Oc 0 r) H2 r)<|A2 5 9 (Xy [] r (Le kk3 (Oc 0 r) H2 r)<|A1 9<|Xy [] r (Le kk3 (Oc 0 r) H4 r)<|Aq [10] [] r<|A1 11<|Xe [] r (Cl [] spec_l3Word_c H6 r r1) fun _=>A1 12<|Xy [] r (Ix ke61 (Oc 0 r) H2 r)<|A1 13<|Xu [] r (Se R5 0 kk3 H2 r (Cp r) r)<|Az<|Bg () [0])<|Xy [] r (Le kk3 (Oc 0 r) H4 r)<|A1 5<|Xy [] r (Le kk3 (Oc 0 r) H2 r)<|Aq [10] [] r<|A1 11<|Xe [] r (Cl [] spec_l3Word_c H6 r r1) fun _=>A1 12<|Xy [] r (Ix ke61 (Oc 0 r) H2 r)<|A1 13<|Xu [] r (Se R5 0 kk3 H2 r (Cp r) r)<|Az<|Bg () [0]
   exact Xy [] r (Le kk3 (Oc 0 r) H4 r)<|A1 4<|Xy [] r (Ix ke61 (Oc 0 r) H2 r)<|A1 5<|Xy [] r (Le kk3 (Oc 0 r) H2 r)<|Aq [10] [] r<|A1 11<|Xe [] r (Cl [] spec_l3Word_c H6 r r1) fun _=>A1 12<|Xy [] r (Ix ke61 (Oc 0 r) H2 r)<|A1 13<|Xu [] r (Se R5 0 kk3 H2 r (Cp r) r)<|Az<|Bg () [0]
  refine Ne<|Sq<|Wi fun E10 H11=>Wi fun E12 H13=>Wi fun R14 H15=>Jw Unit [0,1,2,3,4] [] (fun _=>[]) (fun _=>[.own U0 (lc ((s.set a.toNat R5).set d.toNat R14))]) r1 r1 (?_) fun X18=>?_
  ·refine Dr [] r hMix<|Aq [0,1,2,3,6,7] [] r<|A2 4 8 (?_)<|?_
   ·refine Xy [] r (Ix ke61 (Oc 0 r) H11 r)<|A2 5 8 (?_)<|?_
    ·exact Xy [] r (Le kk3 (Oc 0 r) H11 r)<|A1 8<|Xy [] r (Ix ke61 (Oc 0 r) H13 r)<|A1 9<|Xy [] r (Le kk3 (Oc 0 r) H13 r)<|Aq [10] [] r<|A1 11<|Xe [] r (Cl [] spec_l3Left_c H15 r r1) fun _=>A1 12<|Xy [] r (Ix ke61 (Oc 0 r) H11 r)<|A1 13<|Xu [] r (Se R14 0 kk3 H11 r (Cp r) r)<|Az<|Bg () [0]
    exact Xy [] r (Ix ke61 (Oc 0 r) H13 r)<|A2 5 9 (Xy [] r (Le kk3 (Oc 0 r) H11 r)<|A1 9<|Xy [] r (Le kk3 (Oc 0 r) H13 r)<|Aq [10] [] r<|A1 11<|Xe [] r (Cl [] spec_l3Left_c H15 r r1) fun _=>A1 12<|Xy [] r (Ix ke61 (Oc 0 r) H11 r)<|A1 13<|Xu [] r (Se R14 0 kk3 H11 r (Cp r) r)<|Az<|Bg () [0])<|Xy [] r (Le kk3 (Oc 0 r) H13 r)<|A1 5<|Xy [] r (Le kk3 (Oc 0 r) H11 r)<|Aq [10] [] r<|A1 11<|Xe [] r (Cl [] spec_l3Left_c H15 r r1) fun _=>A1 12<|Xy [] r (Ix ke61 (Oc 0 r) H11 r)<|A1 13<|Xu [] r (Se R14 0 kk3 H11 r (Cp r) r)<|Az<|Bg () [0]
   refine Xy [] r (Ix ke61 (Oc 0 r) H13 r)<|A2 4 9 (?_)<|?_
   ·exact Xy [] r (Ix ke61 (Oc 0 r) H11 r)<|A2 5 9 (Xy [] r (Le kk3 (Oc 0 r) H11 r)<|A1 9<|Xy [] r (Le kk3 (Oc 0 r) H13 r)<|Aq [10] [] r<|A1 11<|Xe [] r (Cl [] spec_l3Left_c H15 r r1) fun _=>A1 12<|Xy [] r (Ix ke61 (Oc 0 r) H11 r)<|A1 13<|Xu [] r (Se R14 0 kk3 H11 r (Cp r) r)<|Az<|Bg () [0])<|Xy [] r (Le kk3 (Oc 0 r) H13 r)<|A1 5<|Xy [] r (Le kk3 (Oc 0 r) H11 r)<|Aq [10] [] r<|A1 11<|Xe [] r (Cl [] spec_l3Left_c H15 r r1) fun _=>A1 12<|Xy [] r (Ix ke61 (Oc 0 r) H11 r)<|A1 13<|Xu [] r (Se R14 0 kk3 H11 r (Cp r) r)<|Az<|Bg () [0]
   exact Xy [] r (Le kk3 (Oc 0 r) H13 r)<|A1 4<|Xy [] r (Ix ke61 (Oc 0 r) H11 r)<|A1 5<|Xy [] r (Le kk3 (Oc 0 r) H11 r)<|Aq [10] [] r<|A1 11<|Xe [] r (Cl [] spec_l3Left_c H15 r r1) fun _=>A1 12<|Xy [] r (Ix ke61 (Oc 0 r) H11 r)<|A1 13<|Xu [] r (Se R14 0 kk3 H11 r (Cp r) r)<|Az<|Bg () [0]
  refine Ne<|Sq<|Wi fun E19 H20=>Wi fun E21 H22=>Wi fun R23 H24=>Jw Unit [0,1,2,3,4] [] (fun _=>[]) (fun _=>[.own U0 (lc (((s.set a.toNat R5).set d.toNat R14).set c.toNat R23))]) r1 r1 (?_) fun X27=>?_
  ·refine Dr [] r hMix<|Aq [0,1,2,3,6,7] [] r<|A2 4 8 (?_)<|?_
   ·refine Xy [] r (Ix ke61 (Oc 0 r) H20 r)<|A2 5 8 (?_)<|?_
    ·exact Xy [] r (Le kk3 (Oc 0 r) H20 r)<|A1 8<|Xy [] r (Ix ke61 (Oc 0 r) H22 r)<|A1 9<|Xy [] r (Le kk3 (Oc 0 r) H22 r)<|Aq [10] [] r<|A1 11<|Xe [] r (Cl [] spec_l3Word_c H24 r r1) fun _=>A1 12<|Xy [] r (Ix ke61 (Oc 0 r) H20 r)<|A1 13<|Xu [] r (Se R23 0 kk3 H20 r (Cp r) r)<|Az<|Bg () [0]
    exact Xy [] r (Ix ke61 (Oc 0 r) H22 r)<|A2 5 9 (Xy [] r (Le kk3 (Oc 0 r) H20 r)<|A1 9<|Xy [] r (Le kk3 (Oc 0 r) H22 r)<|Aq [10] [] r<|A1 11<|Xe [] r (Cl [] spec_l3Word_c H24 r r1) fun _=>A1 12<|Xy [] r (Ix ke61 (Oc 0 r) H20 r)<|A1 13<|Xu [] r (Se R23 0 kk3 H20 r (Cp r) r)<|Az<|Bg () [0])<|Xy [] r (Le kk3 (Oc 0 r) H22 r)<|A1 5<|Xy [] r (Le kk3 (Oc 0 r) H20 r)<|Aq [10] [] r<|A1 11<|Xe [] r (Cl [] spec_l3Word_c H24 r r1) fun _=>A1 12<|Xy [] r (Ix ke61 (Oc 0 r) H20 r)<|A1 13<|Xu [] r (Se R23 0 kk3 H20 r (Cp r) r)<|Az<|Bg () [0]
   refine Xy [] r (Ix ke61 (Oc 0 r) H22 r)<|A2 4 9 (?_)<|?_
   ·exact Xy [] r (Ix ke61 (Oc 0 r) H20 r)<|A2 5 9 (Xy [] r (Le kk3 (Oc 0 r) H20 r)<|A1 9<|Xy [] r (Le kk3 (Oc 0 r) H22 r)<|Aq [10] [] r<|A1 11<|Xe [] r (Cl [] spec_l3Word_c H24 r r1) fun _=>A1 12<|Xy [] r (Ix ke61 (Oc 0 r) H20 r)<|A1 13<|Xu [] r (Se R23 0 kk3 H20 r (Cp r) r)<|Az<|Bg () [0])<|Xy [] r (Le kk3 (Oc 0 r) H22 r)<|A1 5<|Xy [] r (Le kk3 (Oc 0 r) H20 r)<|Aq [10] [] r<|A1 11<|Xe [] r (Cl [] spec_l3Word_c H24 r r1) fun _=>A1 12<|Xy [] r (Ix ke61 (Oc 0 r) H20 r)<|A1 13<|Xu [] r (Se R23 0 kk3 H20 r (Cp r) r)<|Az<|Bg () [0]
   exact Xy [] r (Le kk3 (Oc 0 r) H22 r)<|A1 4<|Xy [] r (Ix ke61 (Oc 0 r) H20 r)<|A1 5<|Xy [] r (Le kk3 (Oc 0 r) H20 r)<|Aq [10] [] r<|A1 11<|Xe [] r (Cl [] spec_l3Word_c H24 r r1) fun _=>A1 12<|Xy [] r (Ix ke61 (Oc 0 r) H20 r)<|A1 13<|Xu [] r (Se R23 0 kk3 H20 r (Cp r) r)<|Az<|Bg () [0]
  refine Ne<|Sq<|Wi fun E28 H29=>Wi fun E30 H31=>Wi fun R32 H33=>Jw Unit [0,1,2,3,4] [] (fun _=>[]) (fun _=>[.own U0 (lc ((((s.set a.toNat R5).set d.toNat R14).set c.toNat R23).set b.toNat R32))]) r1 r1 (?_) fun X36=>?_
  ·refine Dr [] r hMix<|Aq [0,1,2,3,6,7] [] r<|A2 4 8 (?_)<|?_
   ·refine Xy [] r (Ix ke61 (Oc 0 r) H29 r)<|A2 5 8 (?_)<|?_
    ·exact Xy [] r (Le kk3 (Oc 0 r) H29 r)<|A1 8<|Xy [] r (Ix ke61 (Oc 0 r) H31 r)<|A1 9<|Xy [] r (Le kk3 (Oc 0 r) H31 r)<|Aq [10] [] r<|A1 11<|Xe [] r (Cl [] spec_l3Left_c H33 r r1) fun _=>A1 12<|Xy [] r (Ix ke61 (Oc 0 r) H29 r)<|A1 13<|Xu [] r (Se R32 0 kk3 H29 r (Cp r) r)<|Az<|Bg () [0]
    exact Xy [] r (Ix ke61 (Oc 0 r) H31 r)<|A2 5 9 (Xy [] r (Le kk3 (Oc 0 r) H29 r)<|A1 9<|Xy [] r (Le kk3 (Oc 0 r) H31 r)<|Aq [10] [] r<|A1 11<|Xe [] r (Cl [] spec_l3Left_c H33 r r1) fun _=>A1 12<|Xy [] r (Ix ke61 (Oc 0 r) H29 r)<|A1 13<|Xu [] r (Se R32 0 kk3 H29 r (Cp r) r)<|Az<|Bg () [0])<|Xy [] r (Le kk3 (Oc 0 r) H31 r)<|A1 5<|Xy [] r (Le kk3 (Oc 0 r) H29 r)<|Aq [10] [] r<|A1 11<|Xe [] r (Cl [] spec_l3Left_c H33 r r1) fun _=>A1 12<|Xy [] r (Ix ke61 (Oc 0 r) H29 r)<|A1 13<|Xu [] r (Se R32 0 kk3 H29 r (Cp r) r)<|Az<|Bg () [0]
   refine Xy [] r (Ix ke61 (Oc 0 r) H31 r)<|A2 4 9 (?_)<|?_
   ·exact Xy [] r (Ix ke61 (Oc 0 r) H29 r)<|A2 5 9 (Xy [] r (Le kk3 (Oc 0 r) H29 r)<|A1 9<|Xy [] r (Le kk3 (Oc 0 r) H31 r)<|Aq [10] [] r<|A1 11<|Xe [] r (Cl [] spec_l3Left_c H33 r r1) fun _=>A1 12<|Xy [] r (Ix ke61 (Oc 0 r) H29 r)<|A1 13<|Xu [] r (Se R32 0 kk3 H29 r (Cp r) r)<|Az<|Bg () [0])<|Xy [] r (Le kk3 (Oc 0 r) H31 r)<|A1 5<|Xy [] r (Le kk3 (Oc 0 r) H29 r)<|Aq [10] [] r<|A1 11<|Xe [] r (Cl [] spec_l3Left_c H33 r r1) fun _=>A1 12<|Xy [] r (Ix ke61 (Oc 0 r) H29 r)<|A1 13<|Xu [] r (Se R32 0 kk3 H29 r (Cp r) r)<|Az<|Bg () [0]
   exact Xy [] r (Le kk3 (Oc 0 r) H31 r)<|A1 4<|Xy [] r (Ix ke61 (Oc 0 r) H29 r)<|A1 5<|Xy [] r (Le kk3 (Oc 0 r) H29 r)<|Aq [10] [] r<|A1 11<|Xe [] r (Cl [] spec_l3Left_c H33 r r1) fun _=>A1 12<|Xy [] r (Ix ke61 (Oc 0 r) H29 r)<|A1 13<|Xu [] r (Se R32 0 kk3 H29 r (Cp r) r)<|Az<|Bg () [0]
  refine Ne<|Sq<|Wi fun E37 H38=>Wi fun E39 H40=>Wi fun R41 H42=>Jw Unit [0,1,2,3,4] [] (fun _=>[]) (fun _=>[.own U0 (lc (((((s.set a.toNat R5).set d.toNat R14).set c.toNat R23).set b.toNat R32).set a.toNat R41))]) r1 r1 (?_) fun X45=>?_
  ·refine Dr [] r hMix<|Aq [0,1,2,3,6,7] [] r<|A2 4 8 (?_)<|?_
   ·refine Xy [] r (Ix ke61 (Oc 0 r) H38 r)<|A2 5 8 (?_)<|?_
    ·exact Xy [] r (Le kk3 (Oc 0 r) H38 r)<|A1 8<|Xy [] r (Ix ke61 (Oc 0 r) H40 r)<|A1 9<|Xy [] r (Le kk3 (Oc 0 r) H40 r)<|Aq [10] [] r<|A1 11<|Xe [] r (Cl [] spec_l3Word_c H42 r r1) fun _=>A1 12<|Xy [] r (Ix ke61 (Oc 0 r) H38 r)<|A1 13<|Xu [] r (Se R41 0 kk3 H38 r (Cp r) r)<|Az<|Bg () [0]
    exact Xy [] r (Ix ke61 (Oc 0 r) H40 r)<|A2 5 9 (Xy [] r (Le kk3 (Oc 0 r) H38 r)<|A1 9<|Xy [] r (Le kk3 (Oc 0 r) H40 r)<|Aq [10] [] r<|A1 11<|Xe [] r (Cl [] spec_l3Word_c H42 r r1) fun _=>A1 12<|Xy [] r (Ix ke61 (Oc 0 r) H38 r)<|A1 13<|Xu [] r (Se R41 0 kk3 H38 r (Cp r) r)<|Az<|Bg () [0])<|Xy [] r (Le kk3 (Oc 0 r) H40 r)<|A1 5<|Xy [] r (Le kk3 (Oc 0 r) H38 r)<|Aq [10] [] r<|A1 11<|Xe [] r (Cl [] spec_l3Word_c H42 r r1) fun _=>A1 12<|Xy [] r (Ix ke61 (Oc 0 r) H38 r)<|A1 13<|Xu [] r (Se R41 0 kk3 H38 r (Cp r) r)<|Az<|Bg () [0]
   refine Xy [] r (Ix ke61 (Oc 0 r) H40 r)<|A2 4 9 (?_)<|?_
   ·exact Xy [] r (Ix ke61 (Oc 0 r) H38 r)<|A2 5 9 (Xy [] r (Le kk3 (Oc 0 r) H38 r)<|A1 9<|Xy [] r (Le kk3 (Oc 0 r) H40 r)<|Aq [10] [] r<|A1 11<|Xe [] r (Cl [] spec_l3Word_c H42 r r1) fun _=>A1 12<|Xy [] r (Ix ke61 (Oc 0 r) H38 r)<|A1 13<|Xu [] r (Se R41 0 kk3 H38 r (Cp r) r)<|Az<|Bg () [0])<|Xy [] r (Le kk3 (Oc 0 r) H40 r)<|A1 5<|Xy [] r (Le kk3 (Oc 0 r) H38 r)<|Aq [10] [] r<|A1 11<|Xe [] r (Cl [] spec_l3Word_c H42 r r1) fun _=>A1 12<|Xy [] r (Ix ke61 (Oc 0 r) H38 r)<|A1 13<|Xu [] r (Se R41 0 kk3 H38 r (Cp r) r)<|Az<|Bg () [0]
   exact Xy [] r (Le kk3 (Oc 0 r) H40 r)<|A1 4<|Xy [] r (Ix ke61 (Oc 0 r) H38 r)<|A1 5<|Xy [] r (Le kk3 (Oc 0 r) H38 r)<|Aq [10] [] r<|A1 11<|Xe [] r (Cl [] spec_l3Word_c H42 r r1) fun _=>A1 12<|Xy [] r (Ix ke61 (Oc 0 r) H38 r)<|A1 13<|Xu [] r (Se R41 0 kk3 H38 r (Cp r) r)<|Az<|Bg () [0]
  refine Ne<|Sq<|Wi fun E46 H47=>Wi fun E48 H49=>Wi fun R50 H51=>Jw Unit [0,2,3,4] [] (fun _=>[]) (fun _=>[.own U0 (lc ((((((s.set a.toNat R5).set d.toNat R14).set c.toNat R23).set b.toNat R32).set a.toNat R41).set d.toNat R50))]) r1 r1 (?_) fun X54=>?_
  ·refine Dr [] r hMix<|Aq [0,1,2,3,6,7] [] r<|A2 4 8 (?_)<|?_
   ·refine Xy [] r (Ix ke61 (Oc 0 r) H47 r)<|A2 5 8 (?_)<|?_
    ·exact Xy [] r (Le kk3 (Oc 0 r) H47 r)<|A1 8<|Xy [] r (Ix ke61 (Oc 0 r) H49 r)<|A1 9<|Xy [] r (Le kk3 (Oc 0 r) H49 r)<|Aq [10] [] r<|A1 11<|Xe [] r (Cl [] spec_l3Left_c H51 r r1) fun _=>A1 12<|Xy [] r (Ix ke61 (Oc 0 r) H47 r)<|A1 13<|Xu [] r (Se R50 0 kk3 H47 r (Cp r) r)<|Az<|Bg () [0]
    exact Xy [] r (Ix ke61 (Oc 0 r) H49 r)<|A2 5 9 (Xy [] r (Le kk3 (Oc 0 r) H47 r)<|A1 9<|Xy [] r (Le kk3 (Oc 0 r) H49 r)<|Aq [10] [] r<|A1 11<|Xe [] r (Cl [] spec_l3Left_c H51 r r1) fun _=>A1 12<|Xy [] r (Ix ke61 (Oc 0 r) H47 r)<|A1 13<|Xu [] r (Se R50 0 kk3 H47 r (Cp r) r)<|Az<|Bg () [0])<|Xy [] r (Le kk3 (Oc 0 r) H49 r)<|A1 5<|Xy [] r (Le kk3 (Oc 0 r) H47 r)<|Aq [10] [] r<|A1 11<|Xe [] r (Cl [] spec_l3Left_c H51 r r1) fun _=>A1 12<|Xy [] r (Ix ke61 (Oc 0 r) H47 r)<|A1 13<|Xu [] r (Se R50 0 kk3 H47 r (Cp r) r)<|Az<|Bg () [0]
   refine Xy [] r (Ix ke61 (Oc 0 r) H49 r)<|A2 4 9 (?_)<|?_
   ·exact Xy [] r (Ix ke61 (Oc 0 r) H47 r)<|A2 5 9 (Xy [] r (Le kk3 (Oc 0 r) H47 r)<|A1 9<|Xy [] r (Le kk3 (Oc 0 r) H49 r)<|Aq [10] [] r<|A1 11<|Xe [] r (Cl [] spec_l3Left_c H51 r r1) fun _=>A1 12<|Xy [] r (Ix ke61 (Oc 0 r) H47 r)<|A1 13<|Xu [] r (Se R50 0 kk3 H47 r (Cp r) r)<|Az<|Bg () [0])<|Xy [] r (Le kk3 (Oc 0 r) H49 r)<|A1 5<|Xy [] r (Le kk3 (Oc 0 r) H47 r)<|Aq [10] [] r<|A1 11<|Xe [] r (Cl [] spec_l3Left_c H51 r r1) fun _=>A1 12<|Xy [] r (Ix ke61 (Oc 0 r) H47 r)<|A1 13<|Xu [] r (Se R50 0 kk3 H47 r (Cp r) r)<|Az<|Bg () [0]
   exact Xy [] r (Le kk3 (Oc 0 r) H49 r)<|A1 4<|Xy [] r (Ix ke61 (Oc 0 r) H47 r)<|A1 5<|Xy [] r (Le kk3 (Oc 0 r) H47 r)<|Aq [10] [] r<|A1 11<|Xe [] r (Cl [] spec_l3Left_c H51 r r1) fun _=>A1 12<|Xy [] r (Ix ke61 (Oc 0 r) H47 r)<|A1 13<|Xu [] r (Se R50 0 kk3 H47 r (Cp r) r)<|Az<|Bg () [0]
  refine Ne<|Sq<|Wi fun E55 H56=>Wi fun E57 H58=>Wi fun R59 H60=>Jw Unit [0,2,3] [] (fun _=>[]) (fun _=>[.own U0 (lc (((((((s.set a.toNat R5).set d.toNat R14).set c.toNat R23).set b.toNat R32).set a.toNat R41).set d.toNat R50).set c.toNat R59))]) r1 r1 (?_) fun X63=>?_
  ·refine Dr [] r hMix<|Aq [0,1,2,3,6,7] [] r<|A2 4 8 (?_)<|?_
   ·refine Xy [] r (Ix ke61 (Oc 0 r) H56 r)<|A2 5 8 (?_)<|?_
    ·exact Xy [] r (Le kk3 (Oc 0 r) H56 r)<|A1 8<|Xy [] r (Ix ke61 (Oc 0 r) H58 r)<|A1 9<|Xy [] r (Le kk3 (Oc 0 r) H58 r)<|Aq [10] [] r<|A1 11<|Xe [] r (Cl [] spec_l3Word_c H60 r r1) fun _=>A1 12<|Xy [] r (Ix ke61 (Oc 0 r) H56 r)<|A1 13<|Xu [] r (Se R59 0 kk3 H56 r (Cp r) r)<|Az<|Bg () [0]
    exact Xy [] r (Ix ke61 (Oc 0 r) H58 r)<|A2 5 9 (Xy [] r (Le kk3 (Oc 0 r) H56 r)<|A1 9<|Xy [] r (Le kk3 (Oc 0 r) H58 r)<|Aq [10] [] r<|A1 11<|Xe [] r (Cl [] spec_l3Word_c H60 r r1) fun _=>A1 12<|Xy [] r (Ix ke61 (Oc 0 r) H56 r)<|A1 13<|Xu [] r (Se R59 0 kk3 H56 r (Cp r) r)<|Az<|Bg () [0])<|Xy [] r (Le kk3 (Oc 0 r) H58 r)<|A1 5<|Xy [] r (Le kk3 (Oc 0 r) H56 r)<|Aq [10] [] r<|A1 11<|Xe [] r (Cl [] spec_l3Word_c H60 r r1) fun _=>A1 12<|Xy [] r (Ix ke61 (Oc 0 r) H56 r)<|A1 13<|Xu [] r (Se R59 0 kk3 H56 r (Cp r) r)<|Az<|Bg () [0]
   refine Xy [] r (Ix ke61 (Oc 0 r) H58 r)<|A2 4 9 (?_)<|?_
   ·exact Xy [] r (Ix ke61 (Oc 0 r) H56 r)<|A2 5 9 (Xy [] r (Le kk3 (Oc 0 r) H56 r)<|A1 9<|Xy [] r (Le kk3 (Oc 0 r) H58 r)<|Aq [10] [] r<|A1 11<|Xe [] r (Cl [] spec_l3Word_c H60 r r1) fun _=>A1 12<|Xy [] r (Ix ke61 (Oc 0 r) H56 r)<|A1 13<|Xu [] r (Se R59 0 kk3 H56 r (Cp r) r)<|Az<|Bg () [0])<|Xy [] r (Le kk3 (Oc 0 r) H58 r)<|A1 5<|Xy [] r (Le kk3 (Oc 0 r) H56 r)<|Aq [10] [] r<|A1 11<|Xe [] r (Cl [] spec_l3Word_c H60 r r1) fun _=>A1 12<|Xy [] r (Ix ke61 (Oc 0 r) H56 r)<|A1 13<|Xu [] r (Se R59 0 kk3 H56 r (Cp r) r)<|Az<|Bg () [0]
   exact Xy [] r (Le kk3 (Oc 0 r) H58 r)<|A1 4<|Xy [] r (Ix ke61 (Oc 0 r) H56 r)<|A1 5<|Xy [] r (Le kk3 (Oc 0 r) H56 r)<|Aq [10] [] r<|A1 11<|Xe [] r (Cl [] spec_l3Word_c H60 r r1) fun _=>A1 12<|Xy [] r (Ix ke61 (Oc 0 r) H56 r)<|A1 13<|Xu [] r (Se R59 0 kk3 H56 r (Cp r) r)<|Az<|Bg () [0]
  refine Ne<|Sq<|Wi fun E64 H65=>Wi fun E66 H67=>Wi fun R68 H69=>Jw Unit [0] [] (fun _=>[]) (fun _=>[.own U0 (lc ((((((((s.set a.toNat R5).set d.toNat R14).set c.toNat R23).set b.toNat R32).set a.toNat R41).set d.toNat R50).set c.toNat R59).set b.toNat R68))]) r1 r1 (?_) fun X72=>?_
  ·refine Dr [] r hMix<|Aq [0,1,2,3,6,7] [] r<|A2 4 8 (?_)<|?_
   ·refine Xy [] r (Ix ke61 (Oc 0 r) H65 r)<|A2 5 8 (?_)<|?_
    ·exact Xy [] r (Le kk3 (Oc 0 r) H65 r)<|A1 8<|Xy [] r (Ix ke61 (Oc 0 r) H67 r)<|A1 9<|Xy [] r (Le kk3 (Oc 0 r) H67 r)<|Aq [10] [] r<|A1 11<|Xe [] r (Cl [] spec_l3Left_c H69 r r1) fun _=>A1 12<|Xy [] r (Ix ke61 (Oc 0 r) H65 r)<|A1 13<|Xu [] r (Se R68 0 kk3 H65 r (Cp r) r)<|Az<|Bg () [0]
    exact Xy [] r (Ix ke61 (Oc 0 r) H67 r)<|A2 5 9 (Xy [] r (Le kk3 (Oc 0 r) H65 r)<|A1 9<|Xy [] r (Le kk3 (Oc 0 r) H67 r)<|Aq [10] [] r<|A1 11<|Xe [] r (Cl [] spec_l3Left_c H69 r r1) fun _=>A1 12<|Xy [] r (Ix ke61 (Oc 0 r) H65 r)<|A1 13<|Xu [] r (Se R68 0 kk3 H65 r (Cp r) r)<|Az<|Bg () [0])<|Xy [] r (Le kk3 (Oc 0 r) H67 r)<|A1 5<|Xy [] r (Le kk3 (Oc 0 r) H65 r)<|Aq [10] [] r<|A1 11<|Xe [] r (Cl [] spec_l3Left_c H69 r r1) fun _=>A1 12<|Xy [] r (Ix ke61 (Oc 0 r) H65 r)<|A1 13<|Xu [] r (Se R68 0 kk3 H65 r (Cp r) r)<|Az<|Bg () [0]
   refine Xy [] r (Ix ke61 (Oc 0 r) H67 r)<|A2 4 9 (?_)<|?_
   ·exact Xy [] r (Ix ke61 (Oc 0 r) H65 r)<|A2 5 9 (Xy [] r (Le kk3 (Oc 0 r) H65 r)<|A1 9<|Xy [] r (Le kk3 (Oc 0 r) H67 r)<|Aq [10] [] r<|A1 11<|Xe [] r (Cl [] spec_l3Left_c H69 r r1) fun _=>A1 12<|Xy [] r (Ix ke61 (Oc 0 r) H65 r)<|A1 13<|Xu [] r (Se R68 0 kk3 H65 r (Cp r) r)<|Az<|Bg () [0])<|Xy [] r (Le kk3 (Oc 0 r) H67 r)<|A1 5<|Xy [] r (Le kk3 (Oc 0 r) H65 r)<|Aq [10] [] r<|A1 11<|Xe [] r (Cl [] spec_l3Left_c H69 r r1) fun _=>A1 12<|Xy [] r (Ix ke61 (Oc 0 r) H65 r)<|A1 13<|Xu [] r (Se R68 0 kk3 H65 r (Cp r) r)<|Az<|Bg () [0]
   exact Xy [] r (Le kk3 (Oc 0 r) H67 r)<|A1 4<|Xy [] r (Ix ke61 (Oc 0 r) H65 r)<|A1 5<|Xy [] r (Le kk3 (Oc 0 r) H65 r)<|Aq [10] [] r<|A1 11<|Xe [] r (Cl [] spec_l3Left_c H69 r r1) fun _=>A1 12<|Xy [] r (Ix ke61 (Oc 0 r) H65 r)<|A1 13<|Xu [] r (Se R68 0 kk3 H65 r (Cp r) r)<|Az<|Bg () [0]
  exact Ne<|Sr<|Qs 2 r<|Nx<|Wr<|Re U0 [0]
noncomputable def spec_l3Block (key : List UInt8) (counter : Int) (nonce : List UInt8) : Option (List UInt8) :=
  bindC (loopO (fun (S2 : Int × List Int) => if (decide (S2.1 < (8 : Int))) = true then ((spec_l3Little key (IntKind.i64.wrap ((4 : Int) * S2.1))).bind fun R7 =>
  (app 8 S2.2 ([R7])).bind fun E12 =>
  some (.go (IntKind.i64.wrap (S2.1 + (1 : Int)), E12)))
  else (some (.done (.go S2.2))))
  ((0 : Int), ([(1634760805 : Int), (857760878 : Int), (2036477234 : Int), (1797285236 : Int)])))
  (fun (T4 : List Int) => (spec_l3Little nonce (0 : Int)).bind fun R14 =>
  (spec_l3Little nonce (4 : Int)).bind fun R17 =>
  (spec_l3Little nonce (8 : Int)).bind fun R20 =>
  (app 8 T4 ([counter, R14, R17, R20])).bind fun E25 =>
  (app 8 ([] : List Int) E25).bind fun E29 =>
  bindC (loopO (fun (S31 : Int × List Int) => if (decide (S31.1 < (10 : Int))) = true then ((spec_l3Quarter S31.2 (0 : Int) (4 : Int) (8 : Int) (12 : Int)).bind fun R36 =>
  (spec_l3Quarter R36 (1 : Int) (5 : Int) (9 : Int) (13 : Int)).bind fun R39 =>
  (spec_l3Quarter R39 (2 : Int) (6 : Int) (10 : Int) (14 : Int)).bind fun R42 =>
  (spec_l3Quarter R42 (3 : Int) (7 : Int) (11 : Int) (15 : Int)).bind fun R45 =>
  (spec_l3Quarter R45 (0 : Int) (5 : Int) (10 : Int) (15 : Int)).bind fun R48 =>
  (spec_l3Quarter R48 (1 : Int) (6 : Int) (11 : Int) (12 : Int)).bind fun R51 =>
  (spec_l3Quarter R51 (2 : Int) (7 : Int) (8 : Int) (13 : Int)).bind fun R54 =>
  (spec_l3Quarter R54 (3 : Int) (4 : Int) (9 : Int) (14 : Int)).bind fun R57 =>
  some (.go (IntKind.i64.wrap (S31.1 + (1 : Int)), R57)))
  else (some (.done (.go S31.2))))
  ((0 : Int), E29))
  (fun (T33 : List Int) => bindC (loopO (fun (S61 : Int × List UInt8) => if (decide (S61.1 < (16 : Int))) = true then ((idx T33 S61.1).bind fun E66 =>
  (idx E25 S61.1).bind fun E68 =>
  (spec_l3Word (IntKind.i64.wrap (E66 + E68))).bind fun R70 =>
  (app 1 S61.2 ([toU8 (iand .i64 R70 (255 : Int)), toU8 (iand .i64 (ishr .i64 R70 (8 : Int)) (255 : Int)), toU8 (iand .i64 (ishr .i64 R70 (16 : Int)) (255 : Int)), toU8 (ishr .i64 R70 (24 : Int))])).bind fun E75 =>
  some (.go (IntKind.i64.wrap (S61.1 + (1 : Int)), E75)))
  else (some (.done (.go S61.2))))
  ((0 : Int), ([] : List UInt8)))
  (fun (T63 : List UInt8) => some T63)))
theorem spec_l3Block_c {key : List UInt8} {counter : Int} {nonce : List UInt8} : Cn Tryz.prog 145 [strV key, iv counter, strV nonce] [] [] (spec_l3Block key counter nonce) (fun r (_ : Unit) => strV r) fun _ _ => [] := by
  unfold spec_l3Block
  refine Ci Tryz.func145 r r ?_
  rintro w S -
  refine Sr<|Qs 1 r<|Nx<|Sr<|Fo (Bs [(1634760805 : Int), (857760878 : Int), (2036477234 : Int), (1797285236 : Int)] ke61 kz3) fun B1=>Qs 1 r<|Nx<|Sq<|Sr<|Qs 1 r<|Nx<|Jn Value [1,2] [] (fun _ X=>[(7, X)]) (fun T X=>[.own X (lc T)]) r2 r2 (?_) fun T4 X5=>?_
  ·exact Wb<|Lp Value [0,1,2] [] (fun T X=>[(7, X), (8, iv T.1)]) (fun T X=>[.own X (lc T.2)]) (.slice (some ⟨B1, 0, none⟩) 4 4) [0] r2 r2 fun S2 X3=>Sq<|Sr<|Qs 2 r<|Nx<|Wc r (fun H6=>Sn<|Sq<|Wb<|Rg<|Qs 4 r<|Bi fun R7 H8=>Fo (Cl [] spec_l3Little_c H8 r r1) fun _=>Fo (Bs [R7] ke61 kz3) fun B10=>Bi fun E12 H13=>Fo (Ap [1] H13 ke61 kz3 r (Oc 0 r)) fun V11=>Qs 1 r<|Nl<|Bn<|Ne<|Rg<|Qs 3 r<|Nl<|Lg V11 [0]) fun H6=>Wx<|Tx<|Ex<|Be<|Jg X3 [0]
  refine Ne<|Sr<|Qs 3 r<|Bi fun R14 H15=>Fo (Cl [] spec_l3Little_c H15 r r1) fun _=>Qs 1 r<|Bi fun R17 H18=>Fo (Cl [] spec_l3Little_c H18 r r1) fun _=>Qs 1 r<|Bi fun R20 H21=>Fo (Cl [] spec_l3Little_c H21 r r1) fun _=>Fo (Bs [counter, R14, R17, R20] ke61 kz3) fun B23=>Bi fun E25 H26=>Fo (Ap [1] H26 ke61 kz3 r (Oc 0 r)) fun V24=>Qs 1 r<|Nx<|Sr<|Fo (Bs ([] : List Int) ke61 kz3) fun B27=>Qs 1 r<|Bi fun E29 H30=>Fo (Ap [0] H30 ke61 kz3 r (Oc 1 r)) fun V28=>Qs 1 r<|Nx<|Sq<|Sr<|Qs 1 r<|Nx<|Jn Value [7] [1] (fun _ X=>[(9, X)]) (fun T X=>[.own X (lc T)]) r2 r2 (?_) fun T33 X34=>?_
  ·refine Wb<|Lp Value [7] [1] (fun T X=>[(9, X), (10, iv T.1)]) (fun T X=>[.own X (lc T.2)]) V28 [1,0] r2 r2 fun S31 X32=>Sq<|Sr<|Qs 2 r<|Nx<|Wc r (fun H35=>?_) fun H35=>?_
   ·refine Sn<|Sq<|Wb<|Sr<|Qs 1 r<|Bi fun R36 H37=>Fo (Cl [1] spec_l3Quarter_c H37 r r1) fun Y38=>Qs 1 r<|Nx<|Sr<|Qs 1 r<|Bi fun R39 H40=>Fo (Cl [0] spec_l3Quarter_c H40 r r1) fun Y41=>Qs 1 r<|Nx<|Sr<|Qs 1 r<|Bi fun R42 H43=>Fo (Cl [0] spec_l3Quarter_c H43 r r1) fun Y44=>Qs 1 r<|Nx<|Sr<|Qs 1 r<|Bi fun R45 H46=>Fo (Cl [0] spec_l3Quarter_c H46 r r1) fun Y47=>Qs 1 r<|Nx<|Sr<|Qs 1 r<|Bi fun R48 H49=>Fo (Cl [0] spec_l3Quarter_c H49 r r1) fun Y50=>Qs 1 r<|Nx<|Sr<|Qs 1 r<|Bi fun R51 H52=>Fo (Cl [0] spec_l3Quarter_c H52 r r1) fun Y53=>?_
    exact Qs 1 r<|Nx<|Sr<|Qs 1 r<|Bi fun R54 H55=>Fo (Cl [0] spec_l3Quarter_c H55 r r1) fun Y56=>Qs 1 r<|Nx<|Rg<|Qs 1 r<|Bi fun R57 H58=>Fo (Cl [0] spec_l3Quarter_c H58 r r1) fun Y59=>Qs 1 r<|Nl<|Bn<|Ne<|Rg<|Qs 3 r<|Nl<|Lg Y59 [1,0]
   exact Wx<|Tx<|Ex<|Be<|Jg X32 [0,0]
  refine Ne<|Sr<|Fo (Bs ([] : List UInt8) ke22 kz5) fun B60=>Qs 1 r<|Nx<|Sq<|Sr<|Qs 1 r<|Nx<|Jn Value [] [] (fun _ X=>[(11, X)]) (fun T X=>[.own X (lc T)]) r2 r2 (?_) fun T63 X64=>?_
  ·refine Wb<|Lp Value [7,9] [1,1] (fun T X=>[(11, X), (12, iv T.1)]) (fun T X=>[.own X (lc T.2)]) (.slice (some ⟨B60, 0, none⟩) 0 0) [1,1,0] r2 r2 fun S61 X62=>Sq<|Sr<|Qs 2 r<|Nx<|Wc r (fun H65=>?_) fun H65=>?_
   ·refine Sn<|Sq<|Wb<|Sq<|Dr [0,0,0] r hMix<|Aq [0,1] [0,0,0] r<|Ai fun E66 H67=>Ay 2 [0,0,0] r (Ix ke61 (Oc 1 r) H67 r)<|Ay 3 [0,0,0] r (Le kk3 (Oc 1 r) H67 r)<|Aq [4,5] [0,0,0] r<|Ai fun E68 H69=>Ay 6 [0,0,0] r (Ix ke61 (Oc 0 r) H69 r)<|Ay 7 [0,0,0] r (Le kk3 (Oc 0 r) H69 r)<|Aq [8] [0,0,0] r<|Ai fun R70 H71=>A1 9<|Xe [0,0,0] r (Cl [] spec_l3Word_c H71 r r1) fun _=>Aq [10] [0,0,0] r<|Az<|Ne<|Rg<|Qs 3 r<|Yo (Y.conv8 ki3 ki5 r)<|Qs 1 r<|Yo (Y.shr (by decide) r r)<|Qs 1 r<|Yo (Y.conv8 ki3 ki5 r)<|Qs 1 r<|Yo (Y.shr (by decide) r r)<|Qs 1 r<|Yo (Y.conv8 ki3 ki5 r)<|Qs 1 r<|Yo (Y.shr (by decide) r r)<|Yo (Y.conv8 ki3 ki5 r)<|Fo (Bs [toU8 (iand .i64 R70 (255 : Int)), toU8 (iand .i64 (ishr .i64 R70 (8 : Int)) (255 : Int)), toU8 (iand .i64 (ishr .i64 R70 (16 : Int)) (255 : Int)), toU8 (ishr .i64 R70 (24 : Int))] ke22 kz5) fun B73=>?_
    exact Bi fun E75 H76=>Fo (Ap [3] H76 ke22 kz5 r (Oc 0 r)) fun V74=>Qs 1 r<|Nl<|Bn<|Ne<|Rg<|Qs 3 r<|Nl<|Lg V74 [2,2,0]
   exact Wx<|Tx<|Ex<|Be<|Jg X62 [2]
  exact Ne<|Sr<|Qs 1 r<|Yo (Y.toStr ke22 ki5 ks9 (Oc 0 r) r)<|Qs 1 r<|Nx<|Wr<|Re () []
noncomputable def spec_ChaBlock (key : List UInt8) (counter : Int) (nonce : List UInt8) : Option (List UInt8) :=
  (if (!(decide (((key.length : Nat) : Int) = (32 : Int)))) = true then (some true)
  else (if (!(decide (((nonce.length : Nat) : Int) = (12 : Int)))) = true then (some true)
  else ((spec_l1In counter (0 : Int) (4294967295 : Int)).bind fun R5 =>
  some (!R5)))).bind (fun (T1 : Bool) =>
  if T1 = true then (some ([]))
  else ((spec_l3Block key counter nonce).bind fun R9 =>
  some R9))
theorem spec_ChaBlock_c {key : List UInt8} {counter : Int} {nonce : List UInt8} : Cn Tryz.prog 106 [strV key, iv counter, strV nonce] [] [] (spec_ChaBlock key counter nonce) (fun r (_ : Unit) => strV r) fun _ _ => [] := by
  unfold spec_ChaBlock
  refine Ci Tryz.func106 r r ?_
  rintro w S -
  refine Sr<|Qs 1 r<|Nx<|Sq<|Sq<|Jv [0,1,2] (fun T=>[(19, .bool T)]) r1 (?_) fun T1=>?_
  ·exact Rg<|Qs 1 r<|Yo (Y.slen ks9 r)<|Qs 2 r<|It (fun H3=>Of 3 (beq_tf H3) r r<|Yo (Pt H3 r)<|Qs 1 r<|Of 3 r r r<|Yo (Pt r r)<|Nl<|Bg () []) fun H3=>Qg 1 (beq_ff H3) r r<|Yg (gdA (beq_ff H3)) (Y.slen ks9 r)<|Qg 1 (beq_ff H3) r r<|Yo (Pf H3 r)<|Qs 1 r<|It (fun H4=>Of 3 (beq_tf H4) r r<|Yo (Pt H4 r)<|Nl<|Bg () []) fun H4=>Qg 1 (beq_ff H4) r r<|Bi fun R5 H6=>Fg (gdA (beq_ff H4)) (Cl [] spec_l1In_c H6 r r1) fun _=>Qg 1 (beq_ff H4) r r<|Yo (Pf H4 r)<|Nl<|Bg () []
  exact Ne<|Wc r (fun H8=>Sr<|Qs 1 r<|Nx<|Wr<|Tr<|Re () []) fun H8=>Sn<|Sr<|Qs 3 r<|Bi fun R9 H10=>Fo (Cl [] spec_l3Block_c H10 r r1) fun _=>Qs 1 r<|Nx<|Wr<|Re () []
noncomputable def spec_MintToken (secret : List UInt8) (tenant : Int) (epoch : Int) : Option (List UInt8) :=
  (if (!(decide (((secret.length : Nat) : Int) = (32 : Int)))) = true then (some true)
  else ((spec_l1In tenant (1 : Int) (99 : Int)).bind fun R4 =>
  if (!R4) = true then (some true)
  else ((spec_l1In epoch (0 : Int) (1000000 : Int)).bind fun R8 =>
  some (!R8)))).bind (fun (T1 : Bool) =>
  if T1 = true then (some ([]))
  else ((spec_Var tenant).bind fun R12 =>
  (spec_Var epoch).bind fun R15 =>
  (cat R12 R15).bind fun E18 =>
  (spec_NonceOf (2 : Int) tenant).bind fun R20 =>
  (spec_ChaBlock secret epoch R20).bind fun R23 =>
  (ssub R23 0 (8 : Int)).bind fun E26 =>
  (cat E18 E26).bind fun E28 =>
  some E28))
theorem spec_MintToken_c {secret : List UInt8} {tenant : Int} {epoch : Int} : Cn Tryz.prog 63 [strV secret, iv tenant, iv epoch] [] [] (spec_MintToken secret tenant epoch) (fun r (_ : Unit) => strV r) fun _ _ => [] := by
  unfold spec_MintToken
  refine Ci Tryz.func63 r r ?_
  rintro w S -
  refine Sr<|Qs 1 r<|Nx<|Sq<|Sq<|Jv [0,1,2] (fun T=>[(19, .bool T)]) r1 (?_) fun T1=>?_
  ·exact Rg<|Qs 1 r<|Yo (Y.slen ks9 r)<|Qs 2 r<|It (fun H3=>Of 3 (beq_tf H3) r r<|Yo (Pt H3 r)<|Qs 1 r<|Of 3 r r r<|Yo (Pt r r)<|Nl<|Bg () []) fun H3=>Qg 1 (beq_ff H3) r r<|Bi fun R4 H5=>Fg (gdA (beq_ff H3)) (Cl [] spec_l1In_c H5 r r1) fun _=>Qg 1 (beq_ff H3) r r<|Yo (Pf H3 r)<|Qs 1 r<|It (fun H7=>Of 3 (beq_tf H7) r r<|Yo (Pt H7 r)<|Nl<|Bg () []) fun H7=>Qg 1 (beq_ff H7) r r<|Bi fun R8 H9=>Fg (gdA (beq_ff H7)) (Cl [] spec_l1In_c H9 r r1) fun _=>Qg 1 (beq_ff H7) r r<|Yo (Pf H7 r)<|Nl<|Bg () []
  exact Ne<|Wc r (fun H11=>Sr<|Qs 1 r<|Nx<|Wr<|Tr<|Re () []) fun H11=>Sn<|Sr<|Qs 1 r<|Bi fun R12 H13=>Fo (Cl [] spec_Var_c H13 r r1) fun _=>Qs 1 r<|Bi fun R15 H16=>Fo (Cl [] spec_Var_c H16 r r1) fun _=>Bi fun E18 H19=>Yo (Y.cat H19 r r)<|Qs 3 r<|Bi fun R20 H21=>Fo (Cl [] spec_NonceOf_c H21 r r1) fun _=>Bi fun R23 H24=>Fo (Cl [] spec_ChaBlock_c H24 r r1) fun _=>Bi fun E26 H27=>Yo (Y.ssub_to H27 ks9 r r)<|Bi fun E28 H29=>Yo (Y.cat H29 r r)<|Qs 1 r<|Nx<|Wr<|Re () []
noncomputable def spec_l1Pick (c : L1Cur) (list : List (List UInt8)) : Option (List UInt8 × L1Cur) :=
  (spec_l1Below c ((list.length : Nat) : Int)).bind fun R1 =>
  (idx list R1.1).bind fun E4 =>
  some (E4, { b := c.b, i := R1.2.i, h := R1.2.h : L1Cur })
theorem spec_l1Pick_c {c : L1Cur} {list : List (List UInt8)} {U0 U2 : Value} {U1 : Nat} : Cn Tryz.prog 64 [pt U1, U2] [.box U1 78 [U0, iv c.i, iv c.h]] [(U0, lc c.b), (U2, lc list)] (spec_l1Pick c list) (fun r (_ : Unit) => strV r.1) fun r _ => [.box U1 78 [U0, iv r.2.i, iv r.2.h]] := by
  unfold spec_l1Pick
  refine Ci Tryz.func64 r r ?_
  rintro w S ⟨Z0,Z1,-⟩
  exact Sr<|Qs 1 r<|Nx<|Sr<|Qs 3 r<|Yo (Ln ke107 (Bc Z1) r)<|Bi fun R1 H2=>Fo (Cl [0] spec_l1Below_c H2 r r1 ⟨(Bc Z0),⟨⟩⟩) fun _=>Bi fun E4 H5=>Yo (Ix ke107 (Bc Z1) H5 r)<|Yo (Le kk9 (Bc Z1) H5 r)<|Qs 1 r<|Nx<|Wr<|Re () [0]
noncomputable def spec_l7Key (c : L1Cur) : Option (List UInt8 × L1Cur) :=
  (spec_l1Pick c ([[97], [98], [97, 98], [97, 98, 99], [98, 48], [99], [0], [122, 122]])).bind fun R2 =>
  some (R2.1, { b := c.b, i := R2.2.i, h := R2.2.h : L1Cur })
theorem spec_l7Key_c {c : L1Cur} {U0 : Value} {U1 : Nat} : Cn Tryz.prog 147 [pt U1] [.box U1 78 [U0, iv c.i, iv c.h]] [(U0, lc c.b)] (spec_l7Key c) (fun r (_ : Unit) => strV r.1) fun r _ => [.box U1 78 [U0, iv r.2.i, iv r.2.h]] := by
  unfold spec_l7Key
  refine Ci Tryz.func147 r r ?_
  rintro w S ⟨Z0,-⟩
  exact Sr<|Qs 1 r<|Nx<|Sr<|Qs 1 r<|Fo (Bs [[97], [98], [97, 98], [97, 98, 99], [98, 48], [99], [0], [122, 122]] ke107 kz9) fun B1=>Bi fun R2 H3=>Fo (Cl [1] spec_l1Pick_c H3 r r1 ⟨(Bc Z0),(Oc 0 r),⟨⟩⟩) fun _=>Qs 1 r<|Nx<|Wr<|Re () [0]
noncomputable def spec_l1Text (c : L1Cur) (most : Int) : Option (List UInt8 × L1Cur) :=
  (spec_l1Below c (4 : Int)).bind fun R2 =>
  (spec_l1Below ({ b := c.b, i := R2.2.i, h := R2.2.h : L1Cur }) (IntKind.i64.wrap (most + (1 : Int)))).bind fun R5 =>
  bindC (loopO (fun (S8 : Int × Int × Int × List UInt8) => if (decide (S8.2.2.1 > (0 : Int))) = true then ((spec_l1Byte ({ b := c.b, i := S8.1, h := S8.2.1 : L1Cur })).bind fun R13 =>
  bindC (if (decide (R2.1 = (1 : Int))) = true then (some (.go (Int.tmod R13.1 (2 : Int))))
  else (some (.go R13.1)))
  (fun (T16 : Int) => bindC (if (decide (R2.1 = (2 : Int))) = true then (some (.go (IntKind.i64.wrap ((97 : Int) + (Int.tmod T16 (4 : Int))))))
  else (some (.go T16)))
  (fun (T19 : Int) => (app 1 S8.2.2.2 ([toU8 T19])).bind fun E24 =>
  some (.go (R13.2.i, R13.2.h, IntKind.i64.wrap (S8.2.2.1 - (1 : Int)), E24)))))
  else (some (.done (.go (S8.1, S8.2.1, S8.2.2.2)))))
  (R5.2.i, R5.2.h, R5.1, ([] : List UInt8)))
  (fun (T10 : Int × Int × List UInt8) => some (T10.2.2, { b := c.b, i := T10.1, h := T10.2.1 : L1Cur }))
theorem spec_l1Text_c {c : L1Cur} {most : Int} {U0 : Value} {U1 : Nat} : Cn Tryz.prog 109 [pt U1, iv most] [.box U1 78 [U0, iv c.i, iv c.h]] [(U0, lc c.b)] (spec_l1Text c most) (fun r (_ : Unit) => strV r.1) fun r _ => [.box U1 78 [U0, iv r.2.i, iv r.2.h]] := by
  unfold spec_l1Text
  refine Ci Tryz.func109 r r ?_
  rintro w S ⟨Z0,-⟩
  refine Sr<|Qs 1 r<|Nx<|Sr<|Fo (Bs ([] : List UInt8) ke22 kz5) fun B1=>Qs 1 r<|Nx<|Sr<|Qs 1 r<|Bi fun R2 H3=>Fo (Cl [1] spec_l1Below_c H3 r r1 ⟨(Bc Z0),⟨⟩⟩) fun _=>Qs 1 r<|Nx<|Sq<|Sr<|Qs 3 r<|Bi fun R5 H6=>Fo (Cl [0] spec_l1Below_c H6 r r1 ⟨(Bc Z0),⟨⟩⟩) fun _=>Qs 1 r<|Nx<|Jn Value [] [] (fun _ X=>[(5, X)]) (fun T X=>[.box U1 78 [U0, iv T.1, iv T.2.1], .own X (lc T.2.2)]) r2 r2 (?_) fun T10 X11=>?_
  ·refine Wb<|Lp Value [0,6] [] (fun T X=>[(5, X), (7, iv T.2.2.1)]) (fun T X=>[.box U1 78 [U0, iv T.1, iv T.2.1], .own X (lc T.2.2.2)]) (.slice (some ⟨B1, 0, none⟩) 0 0) [0,0] r2 r2 fun S8 X9=>Sq<|Sr<|Qs 2 r<|Nx<|Wc r (fun H12=>?_) fun H12=>?_
   ·refine Sn<|Sq<|Wb<|Sr<|Qs 1 r<|Bi fun R13 H14=>Fo (Cl [0] spec_l1Byte_c H14 r r1 ⟨(Bc Z0),⟨⟩⟩) fun _=>Qs 1 r<|Nx<|Sq<|Sr<|Qs 2 r<|Nx<|Ju [0,5,6,7] (fun T=>[(8, iv T)]) r1 (Wc r (fun H18=>Rg<|Qs 1 r<|Yo (Y.rem (by decide) r r)<|Qs 1 r<|Nl<|Jg () [0,0]) fun H18=>Sk<|Jg () [0,0]) fun T16=>Ne<|Sq<|Sr<|Qs 2 r<|Nx<|Ju [0,5,6,7] (fun T=>[(8, iv T)]) r1 (Wc r (fun H21=>Rg<|Qs 1 r<|Yo (Y.rem (by decide) r r)<|Qs 2 r<|Nl<|Jg () [0,0]) fun H21=>Sk<|Jg () [0,0]) fun T19=>Ne<|Rg<|Qs 2 r<|Yo (Y.conv8 ki3 ki5 r)<|Fo (Bs [toU8 T19] ke22 kz5) fun B22=>?_
    exact Bi fun E24 H25=>Fo (Ap [2] H25 ke22 kz5 r (Oc 0 r)) fun V23=>Qs 1 r<|Nl<|Bn<|Ne<|Rg<|Qs 3 r<|Nl<|Lg V23 [2,0]
   exact Wx<|Tx<|Ex<|Be<|Jg X9 [0,0]
  exact Ne<|Sr<|Qs 1 r<|Yo (Y.toStr ke22 ki5 ks9 (Oc 1 r) r)<|Qs 1 r<|Nx<|Wr<|Re () [0]
noncomputable def spec_l7Batch (c : L1Cur) : Option (List Op × L1Cur) :=
  (spec_l1Below c (4 : Int)).bind fun R2 =>
  bindC (loopO (fun (S5 : Int × Int × Int × List Op) => if (decide (S5.2.2.1 > (0 : Int))) = true then ((spec_l7Key ({ b := c.b, i := S5.1, h := S5.2.1 : L1Cur })).bind fun R10 =>
  (spec_l1Once ({ b := c.b, i := R10.2.i, h := R10.2.h : L1Cur }) (3 : Int)).bind fun R14 =>
  bindC (if R14.1 = true then (some (.go (R14.2.i, R14.2.h, true, [])))
  else ((spec_l1Text ({ b := c.b, i := R14.2.i, h := R14.2.h : L1Cur }) (5 : Int)).bind fun R20 =>
  some (.go (R20.2.i, R20.2.h, false, R20.1))))
  (fun (T17 : Int × Int × Bool × List UInt8) => (app 40 S5.2.2.2 ([{ Key := R10.1, Del := T17.2.2.1, Val := T17.2.2.2 : Op }])).bind fun E25 =>
  some (.go (T17.1, T17.2.1, IntKind.i64.wrap (S5.2.2.1 - (1 : Int)), E25))))
  else (some (.done (.go (S5.1, S5.2.1, S5.2.2.2)))))
  (R2.2.i, R2.2.h, IntKind.i64.wrap ((1 : Int) + R2.1), ([] : List Op)))
  (fun (T7 : Int × Int × List Op) => (spec_l1Once ({ b := c.b, i := T7.1, h := T7.2.1 : L1Cur }) (10 : Int)).bind fun R27 =>
  bindC (if R27.1 = true then ((spec_l1Below ({ b := c.b, i := R27.2.i, h := R27.2.h : L1Cur }) ((T7.2.2.length : Nat) : Int)).bind fun R33 =>
  (spec_l1Below ({ b := c.b, i := R33.2.i, h := R33.2.h : L1Cur }) (4 : Int)).bind fun R36 =>
  bindC (if (decide (R36.1 = (0 : Int))) = true then ((spec_l1Pick ({ b := c.b, i := R36.2.i, h := R36.2.h : L1Cur }) ([[], [97, 97, 97, 97, 97, 97, 97, 97, 97, 97], [97, 97, 97, 97, 97, 97, 97, 97, 97, 97, 97]])).bind fun R43 =>
  (idx T7.2.2 R33.1).bind fun E46 =>
  some (.go (R43.2.i, R43.2.h, (T7.2.2.set R33.1.toNat ({ Key := R43.1, Del := E46.Del, Val := E46.Val : Op })))))
  else (bindC (if (decide (R36.1 = (1 : Int))) = true then ((spec_l1Text ({ b := c.b, i := R36.2.i, h := R36.2.h : L1Cur }) (1 : Int)).bind fun R51 =>
  (cat ([97, 97, 97, 97, 97, 97, 97, 97, 97, 97, 97, 97, 97, 97, 97, 97]) R51.1).bind fun E54 =>
  (idx T7.2.2 R33.1).bind fun E56 =>
  some (.go (R51.2.i, R51.2.h, (T7.2.2.set R33.1.toNat ({ Key := E56.Key, Del := E56.Del, Val := E54 : Op })))))
  else (bindC (if (decide (R36.1 = (2 : Int))) = true then ((app 40 T7.2.2 T7.2.2).bind fun E62 =>
  some (.go E62))
  else (some (.go ([] : List Op))))
  (fun (T58 : List Op) => some (.go (R36.2.i, R36.2.h, T58)))))
  (fun (T48 : Int × Int × List Op) => some (.go (T48.1, T48.2.1, T48.2.2)))))
  (fun (T39 : Int × Int × List Op) => some (.go (T39.1, T39.2.1, T39.2.2))))
  else (some (.go (R27.2.i, R27.2.h, T7.2.2))))
  (fun (T30 : Int × Int × List Op) => some (T30.2.2, { b := c.b, i := T30.1, h := T30.2.1 : L1Cur })))
theorem spec_l7Batch_c {c : L1Cur} {U0 : Value} {U1 : Nat} : Cn Tryz.prog 108 [pt U1] [.box U1 78 [U0, iv c.i, iv c.h]] [(U0, lc c.b)] (spec_l7Batch c) (fun _ (X : Value) => X) fun r X => [.box U1 78 [U0, iv r.2.i, iv r.2.h], .own X (lc r.1)] := by
  unfold spec_l7Batch
  refine Ci Tryz.func108 r r ?_
  rintro w S ⟨Z0,-⟩
  refine Sr<|Qs 1 r<|Nx<|Sr<|Fo (Bs ([] : List Op) ke44 kz98) fun B1=>Qs 1 r<|Nx<|Sq<|Sr<|Qs 1 r<|Bi fun R2 H3=>Fo (Cl [1] spec_l1Below_c H3 r r1 ⟨(Bc Z0),⟨⟩⟩) fun _=>Qs 2 r<|Nx<|Jn Value [0] [] (fun _ X=>[(3, X)]) (fun T X=>[.box U1 78 [U0, iv T.1, iv T.2.1], .own X (lc T.2.2)]) r2 r2 (?_) fun T7 X8=>?_
  ·refine Wb<|Lp Value [0] [] (fun T X=>[(3, X), (4, iv T.2.2.1)]) (fun T X=>[.box U1 78 [U0, iv T.1, iv T.2.1], .own X (lc T.2.2.2)]) (.slice (some ⟨B1, 0, none⟩) 0 0) [0,0] r2 r2 fun S5 X6=>Sq<|Sr<|Qs 2 r<|Nx<|Wc r (fun H9=>?_) fun H9=>?_
   ·refine Sn<|Sq<|Wb<|Sr<|Qs 1 r<|Bi fun R10 H11=>Fo (Cl [0] spec_l7Key_c H11 r r1 ⟨(Bc Z0),⟨⟩⟩) fun _=>Yo (Bd kp98 kz98 (Pc r (Cp r)<|Pz) r)<|Fo (Al kz98 r) fun B13=>Fu (Sb 0 kk98 r (Cp r) r)<|Nx<|Sq<|Sr<|Qs 1 r<|Bi fun R14 H15=>Fo (Cl [1] spec_l1Once_c H15 r r1 ⟨(Bc Z0),⟨⟩⟩) fun _=>Nx<|Jn Unit [0,3,4,5] [2] (fun _ _=>[]) (fun T _=>[.box U1 78 [U0, iv T.1, iv T.2.1], .box B13 98 [strV R10.1, .bool T.2.2.1, strV T.2.2.2]]) r2 r2 (Wc r (fun H19=>Rg<|Yo (Fb kf98_1 r)<|Fu (Sb 1 kk4 r (Cp r) r)<|Nl<|Jg () [2,0,0]) fun H19=>Rg<|Qs 1 r<|Bi fun R20 H21=>Fo (Cl [0] spec_l1Text_c H21 r r1 ⟨(Bc Z0),⟨⟩⟩) fun _=>Yo (Fb kf98_2 r)<|Fu (Sb 1 kk9 r (Cp r) r)<|Nl<|Jg () [2,0,0]) fun T17 X18=>?_
    exact Ne<|Rg<|Qs 1 r<|Yo (Lb 2 kk98 r)<|Fo (Bs [{ Key := R10.1, Del := T17.2.2.1, Val := T17.2.2.2 : Op }] ke44 kz98) fun B23=>Bi fun E25 H26=>Fo (Ap [1] H26 ke44 kz98 r (Oc 0 r)) fun V24=>Qs 1 r<|Nl<|Bn<|Ne<|Rg<|Qs 3 r<|Nl<|Lg V24 [2,0]
   exact Wx<|Tx<|Ex<|Be<|Jg X6 [0,0]
  refine Ne<|Sq<|Sr<|Qs 1 r<|Bi fun R27 H28=>Fo (Cl [0] spec_l1Once_c H28 r r1 ⟨(Bc Z0),⟨⟩⟩) fun _=>Nx<|Jn Value [] [] (fun _ X=>[(3, X)]) (fun T X=>[.box U1 78 [U0, iv T.1, iv T.2.1], .own X (lc T.2.2)]) r2 r2 (?_) fun T30 X31=>?_
  ·refine Wc r (fun H32=>?_) fun H32=>?_
   ·refine Sr<|Qs 2 r<|Yo (Ln ke44 (Oc 1 r) r)<|Bi fun R33 H34=>Fo (Cl [0] spec_l1Below_c H34 r r1 ⟨(Bc Z0),⟨⟩⟩) fun _=>Qs 1 r<|Nx<|Sr<|Qs 1 r<|Bi fun R36 H37=>Fo (Cl [0] spec_l1Below_c H37 r r1 ⟨(Bc Z0),⟨⟩⟩) fun _=>Nx<|Wb<|Sr<|Qs 2 r<|Nx<|Jn Value [] [] (fun _ X=>[(3, X)]) (fun T X=>[.box U1 78 [U0, iv T.1, iv T.2.1], .own X (lc T.2.2)]) r2 r2 (?_) fun T39 X40=>?_
    ·refine Wc r (fun H41=>?_) fun H41=>?_
     ·exact Rg<|Qs 3 r<|Fo (Bs [[], [97, 97, 97, 97, 97, 97, 97, 97, 97, 97], [97, 97, 97, 97, 97, 97, 97, 97, 97, 97, 97]] ke107 kz9) fun B42=>Bi fun R43 H44=>Fo (Cl [1] spec_l1Pick_c H44 r r1 ⟨(Bc Z0),(Oc 0 r),⟨⟩⟩) fun _=>Bi fun E46 H47=>Yo (Ix ke44 (Oc 2 r) H47 r)<|Yo (Fe kf98_0 (Oc 2 r) H47 r)<|Fu (Se ({ Key := R43.1, Del := E46.Del, Val := E46.Val : Op }) 2 kk9 H47 r (Cp r) r)<|Nl<|Jg X8 [0,1]
     refine Sr<|Qs 2 r<|Nx<|Jn Value [] [] (fun _ X=>[(3, X)]) (fun T X=>[.box U1 78 [U0, iv T.1, iv T.2.1], .own X (lc T.2.2)]) r2 r2 (?_) fun T48 X49=>?_
     ·refine Wc r (fun H50=>?_) fun H50=>?_
      ·exact Rg<|Qs 3 r<|Bi fun R51 H52=>Fo (Cl [0] spec_l1Text_c H52 r r1 ⟨(Bc Z0),⟨⟩⟩) fun _=>Bi fun E54 H55=>Yo (Y.cat H55 r r)<|Bi fun E56 H57=>Yo (Ix ke44 (Oc 1 r) H57 r)<|Yo (Fe kf98_2 (Oc 1 r) H57 r)<|Fu (Se ({ Key := E56.Key, Del := E56.Del, Val := E54 : Op }) 1 kk9 H57 r (Cp r) r)<|Nl<|Jg X8 [0,0]
      exact Sr<|Qs 2 r<|Nx<|Jn Value [] [0] (fun _ X=>[(3, X)]) (fun T X=>[.own X (lc T)]) r2 r2 (Wc r (fun H60=>Rg<|Qs 2 r<|Bi fun E62 H63=>Fo (Ap [1] H63 ke44 kz98 r (Oc 1 r)) fun V61=>Qs 1 r<|Nl<|Jg V61 [1,0]) fun H60=>Rg<|Fo (Bs ([] : List Op) ke44 kz98) fun B64=>Qs 1 r<|Nl<|Jg (.slice (some ⟨B64, 0, none⟩) 0 0) [1,0]) fun T58 X59=>Jg X59 [0,0]
     exact Jg X49 [0,0]
    exact Bn<|Jg X40 [0,0]
   exact Sk<|Jg X8 [0,0]
  exact Ne<|Sr<|Qs 2 r<|Nx<|Wr<|Re X31 [0,0]
noncomputable def spec_l21Batch (c : L1Cur) : Option (List Op × L1Cur) :=
  (spec_l1Once c (8 : Int)).bind fun R1 =>
  if R1.1 = true then ((spec_l7Batch ({ b := c.b, i := R1.2.i, h := R1.2.h : L1Cur })).bind fun R5 =>
  some (R5.1, { b := c.b, i := R5.2.i, h := R5.2.h : L1Cur }))
  else ((spec_l1Below ({ b := c.b, i := R1.2.i, h := R1.2.h : L1Cur }) (2 : Int)).bind fun R9 =>
  bindC (loopO (fun (S12 : Int × Int × Int × List Op) => if (decide (S12.2.2.1 > (0 : Int))) = true then ((spec_l1Pick ({ b := c.b, i := S12.1, h := S12.2.1 : L1Cur }) ([[97], [98], [97, 98], [99], [100]])).bind fun R18 =>
  (spec_l1Once ({ b := c.b, i := R18.2.i, h := R18.2.h : L1Cur }) (4 : Int)).bind fun R22 =>
  bindC (if R22.1 = true then (some (.go (R22.2.i, R22.2.h, true, [])))
  else ((spec_l1Text ({ b := c.b, i := R22.2.i, h := R22.2.h : L1Cur }) (3 : Int)).bind fun R28 =>
  some (.go (R28.2.i, R28.2.h, false, R28.1))))
  (fun (T25 : Int × Int × Bool × List UInt8) => (app 40 S12.2.2.2 ([{ Key := R18.1, Del := T25.2.2.1, Val := T25.2.2.2 : Op }])).bind fun E33 =>
  some (.go (T25.1, T25.2.1, IntKind.i64.wrap (S12.2.2.1 - (1 : Int)), E33))))
  else (some (.done (.go (S12.1, S12.2.1, S12.2.2.2)))))
  (R9.2.i, R9.2.h, IntKind.i64.wrap ((1 : Int) + R9.1), ([] : List Op)))
  (fun (T14 : Int × Int × List Op) => some (T14.2.2, { b := c.b, i := T14.1, h := T14.2.1 : L1Cur })))
theorem spec_l21Batch_c {c : L1Cur} {U0 : Value} {U1 : Nat} : Cn Tryz.prog 65 [pt U1] [.box U1 78 [U0, iv c.i, iv c.h]] [(U0, lc c.b)] (spec_l21Batch c) (fun _ (X : Value) => X) fun r X => [.box U1 78 [U0, iv r.2.i, iv r.2.h], .own X (lc r.1)] := by
  unfold spec_l21Batch
  refine Ci Tryz.func65 r r ?_
  rintro w S ⟨Z0,-⟩
  refine Sr<|Qs 1 r<|Nx<|Sq<|Sr<|Qs 1 r<|Bi fun R1 H2=>Fo (Cl [0] spec_l1Once_c H2 r r1 ⟨(Bc Z0),⟨⟩⟩) fun _=>Nx<|Wc r (fun H4=>Sr<|Qs 1 r<|Bi fun R5 H6=>Fo (Cl [0] spec_l7Batch_c H6 r r1 ⟨(Bc Z0),⟨⟩⟩) fun Y7=>Qs 1 r<|Nx<|Wr<|Tr<|Re Y7 [0,0]) fun H4=>Sn<|Sr<|Fo (Bs ([] : List Op) ke44 kz98) fun B8=>Qs 1 r<|Nx<|Sq<|Sr<|Qs 1 r<|Bi fun R9 H10=>Fo (Cl [1] spec_l1Below_c H10 r r1 ⟨(Bc Z0),⟨⟩⟩) fun _=>Qs 2 r<|Nx<|Jn Value [] [] (fun _ X=>[(3, X)]) (fun T X=>[.box U1 78 [U0, iv T.1, iv T.2.1], .own X (lc T.2.2)]) r2 r2 (?_) fun T14 X15=>?_
  ·refine Wb<|Lp Value [0] [] (fun T X=>[(3, X), (4, iv T.2.2.1)]) (fun T X=>[.box U1 78 [U0, iv T.1, iv T.2.1], .own X (lc T.2.2.2)]) (.slice (some ⟨B8, 0, none⟩) 0 0) [0,0] r2 r2 fun S12 X13=>Sq<|Sr<|Qs 2 r<|Nx<|Wc r (fun H16=>?_) fun H16=>?_
   ·refine Sn<|Sq<|Wb<|Sr<|Qs 1 r<|Fo (Bs [[97], [98], [97, 98], [99], [100]] ke107 kz9) fun B17=>Bi fun R18 H19=>Fo (Cl [1] spec_l1Pick_c H19 r r1 ⟨(Bc Z0),(Oc 0 r),⟨⟩⟩) fun _=>Yo (Bd kp98 kz98 (Pc r (Cp r)<|Pz) r)<|Fo (Al kz98 r) fun B21=>Fu (Sb 0 kk98 r (Cp r) r)<|Nx<|Sq<|Sr<|Qs 1 r<|Bi fun R22 H23=>Fo (Cl [1] spec_l1Once_c H23 r r1 ⟨(Bc Z0),⟨⟩⟩) fun _=>Nx<|Jn Unit [0,3,4,5] [3] (fun _ _=>[]) (fun T _=>[.box U1 78 [U0, iv T.1, iv T.2.1], .box B21 98 [strV R18.1, .bool T.2.2.1, strV T.2.2.2]]) r2 r2 (Wc r (fun H27=>Rg<|Yo (Fb kf98_1 r)<|Fu (Sb 1 kk4 r (Cp r) r)<|Nl<|Jg () [3,0,0]) fun H27=>Rg<|Qs 1 r<|Bi fun R28 H29=>Fo (Cl [0] spec_l1Text_c H29 r r1 ⟨(Bc Z0),⟨⟩⟩) fun _=>Yo (Fb kf98_2 r)<|Fu (Sb 1 kk9 r (Cp r) r)<|Nl<|Jg () [3,0,0]) fun T25 X26=>?_
    exact Ne<|Rg<|Qs 1 r<|Yo (Lb 2 kk98 r)<|Fo (Bs [{ Key := R18.1, Del := T25.2.2.1, Val := T25.2.2.2 : Op }] ke44 kz98) fun B31=>Bi fun E33 H34=>Fo (Ap [1] H34 ke44 kz98 r (Oc 0 r)) fun V32=>Qs 1 r<|Nl<|Bn<|Ne<|Rg<|Qs 3 r<|Nl<|Lg V32 [2,0]
   exact Wx<|Tx<|Ex<|Be<|Jg X13 [0,0]
  exact Ne<|Sr<|Qs 2 r<|Nx<|Wr<|Re X15 [0,0]
noncomputable def spec_l1Spoil (c : L1Cur) (s : List UInt8) : Option (List UInt8 × L1Cur) :=
  if (decide (((s.length : Nat) : Int) = (0 : Int))) = true then ((spec_l1Text c (3 : Int)).bind fun R2 =>
  some (R2.1, { b := c.b, i := R2.2.i, h := R2.2.h : L1Cur }))
  else ((spec_l1Below c ((s.length : Nat) : Int)).bind fun R5 =>
  (spec_l1Below ({ b := c.b, i := R5.2.i, h := R5.2.h : L1Cur }) (4 : Int)).bind fun R8 =>
  if (decide (R8.1 = (0 : Int))) = true then ((ssub s 0 R5.1).bind fun E12 =>
  (ssub s (IntKind.i64.wrap (R5.1 + (1 : Int))) (s.length : Int)).bind fun E14 =>
  (cat E12 E14).bind fun E16 =>
  some (E16, { b := c.b, i := R8.2.i, h := R8.2.h : L1Cur }))
  else (if (decide (R8.1 = (1 : Int))) = true then ((ssub s 0 R5.1).bind fun E19 =>
  (ssub s R5.1 (s.length : Int)).bind fun E21 =>
  (spec_l1Byte ({ b := c.b, i := R8.2.i, h := R8.2.h : L1Cur })).bind fun R23 =>
  (cat E19 ([toU8 R23.1])).bind fun E27 =>
  (cat E27 E21).bind fun E29 =>
  some (E29, { b := c.b, i := R23.2.i, h := R23.2.h : L1Cur }))
  else (if (decide (R8.1 = (2 : Int))) = true then ((ssub s 0 R5.1).bind fun E32 =>
  some (E32, { b := c.b, i := R8.2.i, h := R8.2.h : L1Cur }))
  else ((ssub s 0 R5.1).bind fun E34 =>
  (sidx s R5.1).bind fun E36 =>
  (ssub s (IntKind.i64.wrap (R5.1 + (1 : Int))) (s.length : Int)).bind fun E38 =>
  (spec_l1Below ({ b := c.b, i := R8.2.i, h := R8.2.h : L1Cur }) (255 : Int)).bind fun R40 =>
  (cat E34 ([toU8 (ixor .i64 (IntKind.i64.wrap ((E36.toNat : Nat) : Int)) (IntKind.i64.wrap ((1 : Int) + R40.1)))])).bind fun E44 =>
  (cat E44 E38).bind fun E46 =>
  some (E46, { b := c.b, i := R40.2.i, h := R40.2.h : L1Cur })))))
theorem spec_l1Spoil_c {c : L1Cur} {s : List UInt8} {U0 : Value} {U1 : Nat} : Cn Tryz.prog 66 [pt U1, strV s] [.box U1 78 [U0, iv c.i, iv c.h]] [(U0, lc c.b)] (spec_l1Spoil c s) (fun r (_ : Unit) => strV r.1) fun r _ => [.box U1 78 [U0, iv r.2.i, iv r.2.h]] := by
  unfold spec_l1Spoil
  refine Ci Tryz.func66 r r ?_
  rintro w S ⟨Z0,-⟩
  refine Sr<|Qs 1 r<|Nx<|Sq<|Sr<|Qs 1 r<|Yo (Y.slen ks9 r)<|Qs 1 r<|Nx<|Wc r (fun H1=>Sr<|Qs 1 r<|Bi fun R2 H3=>Fo (Cl [0] spec_l1Text_c H3 r r1 ⟨(Bc Z0),⟨⟩⟩) fun _=>Qs 1 r<|Nx<|Wr<|Tr<|Re () [0]) fun H1=>Sn<|Sr<|Qs 2 r<|Yo (Y.slen ks9 r)<|Bi fun R5 H6=>Fo (Cl [0] spec_l1Below_c H6 r r1 ⟨(Bc Z0),⟨⟩⟩) fun _=>Qs 1 r<|Nx<|Sq<|Sr<|Qs 1 r<|Bi fun R8 H9=>Fo (Cl [0] spec_l1Below_c H9 r r1 ⟨(Bc Z0),⟨⟩⟩) fun _=>Nx<|Wb<|Sr<|Qs 2 r<|Nx<|Wc r (fun H11=>Sq<|Dr [0] r hMix<|Aq [0,1] [0] r<|Ai fun E12 H13=>Ay 2 [0] r (Y.ssub_to H13 ks9 r r)<|Aq [3,4,5] [0] r<|Ai fun E14 H15=>Ay 6 [0] r (Y.ssub_from H15 ks9 r r)<|Ai fun E16 H17=>Ay 7 [0] r (Y.cat H17 r r)<|Aq [8] [0] r<|Az<|Ne<|Wr<|Br<|Tr<|Re () [0]) fun H11=>?_
  refine Sr<|Qs 2 r<|Nx<|Wc r (fun H18=>?_) fun H18=>?_
  ·exact Sq<|Dr [] r hMix<|Aq [0,1] [] r<|Ai fun E19 H20=>Ay 2 [] r (Y.ssub_to H20 ks9 r r)<|Aq [3,9,10] [] r<|Ai fun E21 H22=>Ay 11 [] r (Y.ssub_from H22 ks9 r r)<|Ai fun R23 H24=>A1 4<|Xe [] r (Cl [0] spec_l1Byte_c H24 r r1 ⟨(Bc Z0),⟨⟩⟩) fun _=>Ay 5 [] r (Y.conv8 ki3 ki5 r)<|A1 6<|Xe [] r (Bs [toU8 R23.1] ke22 kz5) fun B26=>A1 7<|Xy [] r (Y.toStr ke22 ki5 ks9 (Oc 0 r) r)<|Ai fun E27 H28=>Ay 8 [] r (Y.cat H28 r r)<|Ai fun E29 H30=>Ay 12 [] r (Y.cat H30 r r)<|Aq [13] [] r<|Az<|Ne<|Wr<|Br<|Tr<|Re () [1]
  refine Sr<|Qs 2 r<|Nx<|Wc r (fun H31=>Sr<|Qs 2 r<|Bi fun E32 H33=>Yo (Y.ssub_to H33 ks9 r r)<|Qs 1 r<|Nx<|Wr<|Br<|Tr<|Re () [0]) fun H31=>Sk<|Bn<|Ne<|Sq<|Dr [] r hMix<|Aq [0,1] [] r<|Ai fun E34 H35=>Ay 2 [] r (Y.ssub_to H35 ks9 r r)<|Aq [3,4] [] r<|Ai fun E36 H37=>Ay 5 [] r (Y.sidx H37 ks9 r r)<|Ay 6 [] r (Y.conv ki5 ki3 r)<|Aq [7,15,16,17] [] r<|Ai fun E38 H39=>Ay 18 [] r (Y.ssub_from H39 ks9 r r)<|Ai fun R40 H41=>A1 8<|Xe [] r (Cl [0] spec_l1Below_c H41 r r1 ⟨(Bc Z0),⟨⟩⟩) fun _=>Aq [9,10] [] r<|Ay 11 [] r (Y.conv8 ki3 ki5 r)<|A1 12<|Xe [] r (Bs [toU8 (ixor .i64 (IntKind.i64.wrap ((E36.toNat : Nat) : Int)) (IntKind.i64.wrap ((1 : Int) + R40.1)))] ke22 kz5) fun B43=>?_
  exact A1 13<|Xy [] r (Y.toStr ke22 ki5 ks9 (Oc 0 r) r)<|Ai fun E44 H45=>Ay 14 [] r (Y.cat H45 r r)<|Ai fun E46 H47=>Ay 19 [] r (Y.cat H47 r r)<|Aq [20] [] r<|Az<|Ne<|Wr<|Re () [1]
noncomputable def spec_l21Call (c : L1Cur) (secret : List UInt8) : Option (Call × L1Cur) :=
  (spec_l1Below c (3 : Int)).bind fun R2 =>
  (spec_l1PickInt ({ b := c.b, i := R2.2.i, h := R2.2.h : L1Cur }) ([(0 : Int), (0 : Int), (0 : Int), (0 : Int), (0 : Int), (1 : Int)])).bind fun R6 =>
  (spec_MintToken secret (IntKind.i64.wrap ((1 : Int) + R2.1)) R6.1).bind fun R9 =>
  (spec_l1Below ({ b := c.b, i := R6.2.i, h := R6.2.h : L1Cur }) (24 : Int)).bind fun R13 =>
  bindC (if (decide (R13.1 = (0 : Int))) = true then (some (.go (decide (R13.1 = (0 : Int)))))
  else (some (.go (decide (R13.1 = (1 : Int))))))
  (fun (T16 : Bool) => bindC (if T16 = true then ((spec_l1PickInt ({ b := c.b, i := R13.2.i, h := R13.2.h : L1Cur }) ([(40 : Int), (40 : Int), (20 : Int), (0 : Int), (41 : Int)])).bind fun R23 =>
  (spec_l1Below ({ b := c.b, i := R23.2.i, h := R23.2.h : L1Cur }) (250 : Int)).bind fun R26 =>
  (spec_l21Fill (toU8 R26.1)).bind fun R29 =>
  some (.go (R26.2.i, R26.2.h, (1 : Int), R23.1, R29, [], ([] : List Op))))
  else (bindC (if (decide (R13.1 = (2 : Int))) = true then ((spec_l1PickInt ({ b := c.b, i := R13.2.i, h := R13.2.h : L1Cur }) ([(40 : Int), (10 : Int), (30 : Int), (-1 : Int), (41 : Int)])).bind fun R36 =>
  some (.go (R36.2.i, R36.2.h, (2 : Int), R36.1, [], [], ([] : List Op))))
  else (bindC (if (decide (R13.1 = (3 : Int))) = true then ((spec_l1Once ({ b := c.b, i := R13.2.i, h := R13.2.h : L1Cur }) (2 : Int)).bind fun R42 =>
  bindC (if R42.1 = true then (some (.go (3 : Int)))
  else (some (.go (5 : Int))))
  (fun (T45 : Int) => some (.go (R42.2.i, R42.2.h, T45, (0 : Int), [], [], ([] : List Op)))))
  else (bindC (if (decide (R13.1 = (4 : Int))) = true then ((spec_l1Once ({ b := c.b, i := R13.2.i, h := R13.2.h : L1Cur }) (4 : Int)).bind fun R51 =>
  bindC (if R51.1 = true then (some (.go (4 : Int)))
  else (some (.go (5 : Int))))
  (fun (T54 : Int) => some (.go (R51.2.i, R51.2.h, T54, (0 : Int), [], [], ([] : List Op)))))
  else (bindC (if (decide (R13.1 = (5 : Int))) = true then (some (.go (decide (R13.1 = (5 : Int)))))
  else (bindC (if (decide (R13.1 = (6 : Int))) = true then (some (.go (decide (R13.1 = (6 : Int)))))
  else (some (.go (decide (R13.1 = (7 : Int))))))
  (fun (T60 : Bool) => some (.go T60))))
  (fun (T57 : Bool) => bindC (if T57 = true then ((spec_l1Pick ({ b := c.b, i := R13.2.i, h := R13.2.h : L1Cur }) ([[97], [98], [97, 98], [99], [100], [122, 122]])).bind fun R67 =>
  some (.go (R67.2.i, R67.2.h, (6 : Int), (0 : Int), R67.1, [], ([] : List Op))))
  else (bindC (if (decide (R13.1 = (8 : Int))) = true then (some (.go (decide (R13.1 = (8 : Int)))))
  else (some (.go (decide (R13.1 = (9 : Int))))))
  (fun (T70 : Bool) => bindC (if T70 = true then ((spec_l1Pick ({ b := c.b, i := R13.2.i, h := R13.2.h : L1Cur }) ([[], [97], [98]])).bind fun R77 =>
  (spec_l1Pick ({ b := c.b, i := R77.2.i, h := R77.2.h : L1Cur }) ([[], [99], [98]])).bind fun R81 =>
  some (.go (R81.2.i, R81.2.h, (7 : Int), (0 : Int), R77.1, R81.1, ([] : List Op))))
  else (bindC (if (decide (R13.1 = (10 : Int))) = true then (some (.go (R13.2.i, R13.2.h, (8 : Int), (0 : Int), [], ([] : List Op))))
  else (bindC (if (decide (R13.1 = (11 : Int))) = true then ((spec_l1Below ({ b := c.b, i := R13.2.i, h := R13.2.h : L1Cur }) (5 : Int)).bind fun R90 =>
  some (.go (R90.2.i, R90.2.h, (9 : Int), R90.1, [], ([] : List Op))))
  else (bindC (if (decide (R13.1 = (12 : Int))) = true then (some (.go (decide (R13.1 = (12 : Int)))))
  else (some (.go (decide (R13.1 = (13 : Int))))))
  (fun (T93 : Bool) => bindC (if T93 = true then ((spec_l1Below ({ b := c.b, i := R13.2.i, h := R13.2.h : L1Cur }) (5 : Int)).bind fun R99 =>
  (spec_l1Pick ({ b := c.b, i := R99.2.i, h := R99.2.h : L1Cur }) ([[97], [98], [97, 98], [99]])).bind fun R103 =>
  some (.go (R103.2.i, R103.2.h, (10 : Int), R99.1, R103.1, ([] : List Op))))
  else (bindC (if (decide (R13.1 = (14 : Int))) = true then (some (.go (R13.2.i, R13.2.h, (11 : Int), (0 : Int), ([] : List Op))))
  else (bindC (if (decide (R13.1 = (15 : Int))) = true then (some (.go (R13.2.i, R13.2.h, (12 : Int), (0 : Int), ([] : List Op))))
  else (bindC (if (decide (R13.1 = (16 : Int))) = true then (some (.go (R13.2.i, R13.2.h, (13 : Int), (0 : Int), ([] : List Op))))
  else (bindC (if (decide (R13.1 = (17 : Int))) = true then ((spec_l1PickInt ({ b := c.b, i := R13.2.i, h := R13.2.h : L1Cur }) ([(0 : Int), (0 : Int), (1 : Int), (2 : Int), (9 : Int), (-1 : Int)])).bind fun R119 =>
  some (.go (R119.2.i, R119.2.h, (14 : Int), R119.1, ([] : List Op))))
  else ((spec_l21Batch ({ b := c.b, i := R13.2.i, h := R13.2.h : L1Cur })).bind fun R122 =>
  some (.go (R122.2.i, R122.2.h, (5 : Int), (0 : Int), R122.1))))
  (fun (T115 : Int × Int × Int × Int × List Op) => some (.go (T115.1, T115.2.1, T115.2.2.1, T115.2.2.2.1, T115.2.2.2.2)))))
  (fun (T112 : Int × Int × Int × Int × List Op) => some (.go (T112.1, T112.2.1, T112.2.2.1, T112.2.2.2.1, T112.2.2.2.2)))))
  (fun (T109 : Int × Int × Int × Int × List Op) => some (.go (T109.1, T109.2.1, T109.2.2.1, T109.2.2.2.1, T109.2.2.2.2)))))
  (fun (T106 : Int × Int × Int × Int × List Op) => some (.go (T106.1, T106.2.1, T106.2.2.1, T106.2.2.2.1, [], T106.2.2.2.2)))))
  (fun (T96 : Int × Int × Int × Int × List UInt8 × List Op) => some (.go (T96.1, T96.2.1, T96.2.2.1, T96.2.2.2.1, T96.2.2.2.2.1, T96.2.2.2.2.2))))))
  (fun (T87 : Int × Int × Int × Int × List UInt8 × List Op) => some (.go (T87.1, T87.2.1, T87.2.2.1, T87.2.2.2.1, T87.2.2.2.2.1, T87.2.2.2.2.2)))))
  (fun (T84 : Int × Int × Int × Int × List UInt8 × List Op) => some (.go (T84.1, T84.2.1, T84.2.2.1, T84.2.2.2.1, T84.2.2.2.2.1, [], T84.2.2.2.2.2)))))
  (fun (T73 : Int × Int × Int × Int × List UInt8 × List UInt8 × List Op) => some (.go (T73.1, T73.2.1, T73.2.2.1, T73.2.2.2.1, T73.2.2.2.2.1, T73.2.2.2.2.2.1, T73.2.2.2.2.2.2))))))
  (fun (T63 : Int × Int × Int × Int × List UInt8 × List UInt8 × List Op) => some (.go (T63.1, T63.2.1, T63.2.2.1, T63.2.2.2.1, T63.2.2.2.2.1, T63.2.2.2.2.2.1, T63.2.2.2.2.2.2))))))
  (fun (T48 : Int × Int × Int × Int × List UInt8 × List UInt8 × List Op) => some (.go (T48.1, T48.2.1, T48.2.2.1, T48.2.2.2.1, T48.2.2.2.2.1, T48.2.2.2.2.2.1, T48.2.2.2.2.2.2)))))
  (fun (T39 : Int × Int × Int × Int × List UInt8 × List UInt8 × List Op) => some (.go (T39.1, T39.2.1, T39.2.2.1, T39.2.2.2.1, T39.2.2.2.2.1, T39.2.2.2.2.2.1, T39.2.2.2.2.2.2)))))
  (fun (T32 : Int × Int × Int × Int × List UInt8 × List UInt8 × List Op) => some (.go (T32.1, T32.2.1, T32.2.2.1, T32.2.2.2.1, T32.2.2.2.2.1, T32.2.2.2.2.2.1, T32.2.2.2.2.2.2)))))
  (fun (T19 : Int × Int × Int × Int × List UInt8 × List UInt8 × List Op) => (spec_l1Once ({ b := c.b, i := T19.1, h := T19.2.1 : L1Cur }) (30 : Int)).bind fun R125 =>
  bindC (if R125.1 = true then ((spec_l1PickInt ({ b := c.b, i := R125.2.i, h := R125.2.h : L1Cur }) ([(0 : Int), (15 : Int)])).bind fun R132 =>
  some (.go (R132.2.i, R132.2.h, R132.1)))
  else (some (.go (R125.2.i, R125.2.h, T19.2.2.1))))
  (fun (T128 : Int × Int × Int) => (spec_l1Once ({ b := c.b, i := T128.1, h := T128.2.1 : L1Cur }) (25 : Int)).bind fun R135 =>
  bindC (if R135.1 = true then ((spec_l1Spoil ({ b := c.b, i := R135.2.i, h := R135.2.h : L1Cur }) R9).bind fun R141 =>
  some (.go (R141.1, R141.2.i, R141.2.h)))
  else (some (.go (R9, R135.2.i, R135.2.h))))
  (fun (T138 : List UInt8 × Int × Int) => some ({ Kind := T128.2.2, Token := T138.1, Tenant := IntKind.i64.wrap ((1 : Int) + R2.1), N := T19.2.2.2.1, Key := T19.2.2.2.2.1, To := T19.2.2.2.2.2.1, Ops := T19.2.2.2.2.2.2 : Call }, { b := c.b, i := T138.2.1, h := T138.2.2 : L1Cur })))))
theorem spec_l21Call_c {c : L1Cur} {secret : List UInt8} {U0 : Value} {U1 : Nat} : Cn Tryz.prog 43 [pt U1, strV secret] [.box U1 78 [U0, iv c.i, iv c.h]] [(U0, lc c.b)] (spec_l21Call c secret) (fun r (X : Value) => .agg #[iv r.1.Kind, strV r.1.Token, iv r.1.Tenant, iv r.1.N, strV r.1.Key, strV r.1.To, X]) fun r X => [.box U1 78 [U0, iv r.2.i, iv r.2.h], .own X (lc r.1.Ops)] := by
  unfold spec_l21Call
  refine Ci Tryz.func43 r r ?_
  rintro w S ⟨Z0,-⟩
  refine Sr<|Fo (Al kz46 r) fun B1=>Nx<|Sr<|Qs 1 r<|Bi fun R2 H3=>Fo (Cl [1] spec_l1Below_c H3 r r1 ⟨(Bc Z0),⟨⟩⟩) fun _=>Qs 2 r<|Nx<|Sr<|Qs 3 r<|Fo (Bs [(0 : Int), (0 : Int), (0 : Int), (0 : Int), (0 : Int), (1 : Int)] ke61 kz3) fun B5=>Bi fun R6 H7=>Fo (Cl [1] spec_l1PickInt_c H7 r r1 ⟨(Bc Z0),(Oc 0 r),⟨⟩⟩) fun _=>Bi fun R9 H10=>Fo (Cl [] spec_MintToken_c H10 r r1) fun _=>Qs 1 r<|Yo (Bd kp46 kz46 (Pc r (Cp r)<|Pc r (Cp r)<|Pc r (Cp r)<|Pz) r)<|Fo (Al kz46 r) fun B12=>Fu (Sb 0 kk46 r (Cp r) r)<|Nx<|Sq<|Sr<|Qs 1 r<|Bi fun R13 H14=>?_
  refine Fo (Cl [1] spec_l1Below_c H14 r r1 ⟨(Bc Z0),⟨⟩⟩) fun _=>Nx<|Wb<|Sq<|Sr<|Qs 2 r<|Nx<|Jn Unit [0,4,6,19] [0,2,0] (fun T _=>[(23, .bool T)]) (fun _ _=>[]) r2 r2 (Wc r (fun H18=>Sk<|Jg () [0,2,0]) fun H18=>Rg<|Qs 2 r<|Nl<|Jg () [0,2,0]) fun T16 X17=>Ne<|Jn Value [0,4,6] [1] (fun _ _=>[]) (fun T X=>[.box U1 78 [U0, iv T.1, iv T.2.1], .box B12 46 [iv T.2.2.1, strV R9, iv (IntKind.i64.wrap ((1 : Int) + R2.1)), iv T.2.2.2.1, strV T.2.2.2.2.1, strV T.2.2.2.2.2.1, X], .own X (lc T.2.2.2.2.2.2)]) r2 r2 (?_) fun T19 X20=>?_
  ·refine Wc r (fun H21=>?_) fun H21=>?_
   ·exact Sr<|Yo (Fb kf46_0 r)<|Fu (Sb 2 kk3 r (Cp r) r)<|Nx<|Sr<|Qs 1 r<|Fo (Bs [(40 : Int), (40 : Int), (20 : Int), (0 : Int), (41 : Int)] ke61 kz3) fun B22=>Bi fun R23 H24=>Fo (Cl [1] spec_l1PickInt_c H24 r r1 ⟨(Bc Z0),(Oc 0 r),⟨⟩⟩) fun _=>Yo (Fb kf46_3 r)<|Fu (Sb 3 kk3 r (Cp r) r)<|Nx<|Rg<|Qs 1 r<|Bi fun R26 H27=>Fo (Cl [0] spec_l1Below_c H27 r r1 ⟨(Bc Z0),⟨⟩⟩) fun _=>Yo (Y.conv8 ki3 ki5 r)<|Bi fun R29 H30=>Fo (Cl [] spec_l21Fill_c H30 r r1) fun _=>Yo (Fb kf46_4 r)<|Fu (Sb 3 kk9 r (Cp r) r)<|Nl<|Ni 3<|Jg (.slice none 0 0) [3,1,2,0]
   refine Sr<|Qs 2 r<|Nx<|Jn Value [0,4,6] [1] (fun _ _=>[]) (fun T X=>[.box U1 78 [U0, iv T.1, iv T.2.1], .box B12 46 [iv T.2.2.1, strV R9, iv (IntKind.i64.wrap ((1 : Int) + R2.1)), iv T.2.2.2.1, strV T.2.2.2.2.1, strV T.2.2.2.2.2.1, X], .own X (lc T.2.2.2.2.2.2)]) r2 r2 (?_) fun T32 X33=>?_
   ·refine Wc r (fun H34=>?_) fun H34=>?_
    ·exact Sr<|Yo (Fb kf46_0 r)<|Fu (Sb 2 kk3 r (Cp r) r)<|Nx<|Rg<|Qs 1 r<|Fo (Bs [(40 : Int), (10 : Int), (30 : Int), (-1 : Int), (41 : Int)] ke61 kz3) fun B35=>Bi fun R36 H37=>Fo (Cl [1] spec_l1PickInt_c H37 r r1 ⟨(Bc Z0),(Oc 0 r),⟨⟩⟩) fun _=>Yo (Fb kf46_3 r)<|Fu (Sb 3 kk3 r (Cp r) r)<|Nl<|Ni 3<|Jg (.slice none 0 0) [3,1,2,0]
    refine Sr<|Qs 2 r<|Nx<|Jn Value [0,4,6] [1] (fun _ _=>[]) (fun T X=>[.box U1 78 [U0, iv T.1, iv T.2.1], .box B12 46 [iv T.2.2.1, strV R9, iv (IntKind.i64.wrap ((1 : Int) + R2.1)), iv T.2.2.2.1, strV T.2.2.2.2.1, strV T.2.2.2.2.2.1, X], .own X (lc T.2.2.2.2.2.2)]) r2 r2 (?_) fun T39 X40=>?_
    ·refine Wc r (fun H41=>?_) fun H41=>?_
     ·exact Sr<|Qs 1 r<|Bi fun R42 H43=>Fo (Cl [0] spec_l1Once_c H43 r r1 ⟨(Bc Z0),⟨⟩⟩) fun _=>Nx<|Jn Unit [0,4,6] [0,0] (fun _ _=>[]) (fun T _=>[.box B12 46 [iv T, strV R9, iv (IntKind.i64.wrap ((1 : Int) + R2.1)), iv (0 : Int), strV ([]), strV ([]), .slice none 0 0]]) r2 r2 (Wc r (fun H47=>Rg<|Yo (Fb kf46_0 r)<|Fu (Sb 2 kk3 r (Cp r) r)<|Nl<|Jg () [0,0,0]) fun H47=>Sk<|Jg () [0,0,0]) fun T45 X46=>Ni 3<|Jg (.slice none 0 0) [2,1,1,0]
     refine Sr<|Qs 2 r<|Nx<|Jn Value [0,4,6] [1] (fun _ _=>[]) (fun T X=>[.box U1 78 [U0, iv T.1, iv T.2.1], .box B12 46 [iv T.2.2.1, strV R9, iv (IntKind.i64.wrap ((1 : Int) + R2.1)), iv T.2.2.2.1, strV T.2.2.2.2.1, strV T.2.2.2.2.2.1, X], .own X (lc T.2.2.2.2.2.2)]) r2 r2 (?_) fun T48 X49=>?_
     ·refine Wc r (fun H50=>?_) fun H50=>?_
      ·exact Sr<|Qs 1 r<|Bi fun R51 H52=>Fo (Cl [0] spec_l1Once_c H52 r r1 ⟨(Bc Z0),⟨⟩⟩) fun _=>Nx<|Jn Unit [0,4,6] [0,0] (fun _ _=>[]) (fun T _=>[.box B12 46 [iv T, strV R9, iv (IntKind.i64.wrap ((1 : Int) + R2.1)), iv (0 : Int), strV ([]), strV ([]), .slice none 0 0]]) r2 r2 (Wc r (fun H56=>Rg<|Yo (Fb kf46_0 r)<|Fu (Sb 2 kk3 r (Cp r) r)<|Nl<|Jg () [0,0,0]) fun H56=>Sk<|Jg () [0,0,0]) fun T54 X55=>Ni 3<|Jg (.slice none 0 0) [2,1,1,0]
      refine Sq<|Sr<|Qs 2 r<|Nx<|Ju [0,4,6,19] (fun T=>[(53, .bool T)]) r1 (Wc r (fun H59=>Sk<|Jg () [0,0,0]) fun H59=>Sr<|Qs 2 r<|Nx<|Ju [0,4,6,19] (fun T=>[(53, .bool T)]) r1 (Wc r (fun H62=>Sk<|Jg () [0,0,0]) fun H62=>Rg<|Qs 2 r<|Nl<|Jg () [0,0,0]) fun T60=>Jg () [0,0,0]) fun T57=>Ne<|Jn Value [0,4,6] [1] (fun _ _=>[]) (fun T X=>[.box U1 78 [U0, iv T.1, iv T.2.1], .box B12 46 [iv T.2.2.1, strV R9, iv (IntKind.i64.wrap ((1 : Int) + R2.1)), iv T.2.2.2.1, strV T.2.2.2.2.1, strV T.2.2.2.2.2.1, X], .own X (lc T.2.2.2.2.2.2)]) r2 r2 (?_) fun T63 X64=>?_
      ·refine Wc r (fun H65=>?_) fun H65=>?_
       ·exact Sr<|Yo (Fb kf46_0 r)<|Fu (Sb 2 kk3 r (Cp r) r)<|Nx<|Rg<|Qs 1 r<|Fo (Bs [[97], [98], [97, 98], [99], [100], [122, 122]] ke107 kz9) fun B66=>Bi fun R67 H68=>Fo (Cl [1] spec_l1Pick_c H68 r r1 ⟨(Bc Z0),(Oc 0 r),⟨⟩⟩) fun _=>Yo (Fb kf46_4 r)<|Fu (Sb 3 kk9 r (Cp r) r)<|Nl<|Ni 3<|Jg (.slice none 0 0) [3,1,2,0]
       refine Sq<|Sr<|Qs 2 r<|Nx<|Ju [0,4,6,19] (fun T=>[(62, .bool T)]) r1 (Wc r (fun H72=>Sk<|Jg () [0,0,0]) fun H72=>Rg<|Qs 2 r<|Nl<|Jg () [0,0,0]) fun T70=>Ne<|Jn Value [0,4,6] [1] (fun _ _=>[]) (fun T X=>[.box U1 78 [U0, iv T.1, iv T.2.1], .box B12 46 [iv T.2.2.1, strV R9, iv (IntKind.i64.wrap ((1 : Int) + R2.1)), iv T.2.2.2.1, strV T.2.2.2.2.1, strV T.2.2.2.2.2.1, X], .own X (lc T.2.2.2.2.2.2)]) r2 r2 (?_) fun T73 X74=>?_
       ·refine Wc r (fun H75=>?_) fun H75=>?_
        ·exact Sr<|Yo (Fb kf46_0 r)<|Fu (Sb 2 kk3 r (Cp r) r)<|Nx<|Sr<|Qs 1 r<|Fo (Bs [[], [97], [98]] ke107 kz9) fun B76=>Bi fun R77 H78=>Fo (Cl [1] spec_l1Pick_c H78 r r1 ⟨(Bc Z0),(Oc 0 r),⟨⟩⟩) fun _=>Yo (Fb kf46_4 r)<|Fu (Sb 3 kk9 r (Cp r) r)<|Nx<|Rg<|Qs 1 r<|Fo (Bs [[], [99], [98]] ke107 kz9) fun B80=>Bi fun R81 H82=>Fo (Cl [1] spec_l1Pick_c H82 r r1 ⟨(Bc Z0),(Oc 0 r),⟨⟩⟩) fun _=>Yo (Fb kf46_5 r)<|Fu (Sb 4 kk9 r (Cp r) r)<|Nl<|Ni 3<|Jg (.slice none 0 0) [4,1,3,0]
        refine Sr<|Qs 2 r<|Nx<|Jn Value [0,4,6] [1] (fun _ _=>[]) (fun T X=>[.box U1 78 [U0, iv T.1, iv T.2.1], .box B12 46 [iv T.2.2.1, strV R9, iv (IntKind.i64.wrap ((1 : Int) + R2.1)), iv T.2.2.2.1, strV T.2.2.2.2.1, strV ([]), X], .own X (lc T.2.2.2.2.2)]) r2 r2 (?_) fun T84 X85=>?_
        ·refine Wc r (fun H86=>Rg<|Yo (Fb kf46_0 r)<|Fu (Sb 2 kk3 r (Cp r) r)<|Nl<|Ni 3<|Jg (.slice none 0 0) [2,1,1,0]) fun H86=>Sr<|Qs 2 r<|Nx<|Jn Value [0,4,6] [1] (fun _ _=>[]) (fun T X=>[.box U1 78 [U0, iv T.1, iv T.2.1], .box B12 46 [iv T.2.2.1, strV R9, iv (IntKind.i64.wrap ((1 : Int) + R2.1)), iv T.2.2.2.1, strV T.2.2.2.2.1, strV ([]), X], .own X (lc T.2.2.2.2.2)]) r2 r2 (?_) fun T87 X88=>?_
         ·refine Wc r (fun H89=>Sr<|Yo (Fb kf46_0 r)<|Fu (Sb 2 kk3 r (Cp r) r)<|Nx<|Rg<|Qs 1 r<|Bi fun R90 H91=>Fo (Cl [0] spec_l1Below_c H91 r r1 ⟨(Bc Z0),⟨⟩⟩) fun _=>Yo (Fb kf46_3 r)<|Fu (Sb 2 kk3 r (Cp r) r)<|Nl<|Ni 3<|Jg (.slice none 0 0) [2,1,1,0]) fun H89=>Sq<|Sr<|Qs 2 r<|Nx<|Ju [0,4,6,19] (fun T=>[(83, .bool T)]) r1 (Wc r (fun H95=>Sk<|Jg () [0,0,0]) fun H95=>Rg<|Qs 2 r<|Nl<|Jg () [0,0,0]) fun T93=>Ne<|Jn Value [0,4,6] [1] (fun _ _=>[]) (fun T X=>[.box U1 78 [U0, iv T.1, iv T.2.1], .box B12 46 [iv T.2.2.1, strV R9, iv (IntKind.i64.wrap ((1 : Int) + R2.1)), iv T.2.2.2.1, strV T.2.2.2.2.1, strV ([]), X], .own X (lc T.2.2.2.2.2)]) r2 r2 (?_) fun T96 X97=>?_
          ·refine Wc r (fun H98=>?_) fun H98=>?_
           ·exact Sr<|Yo (Fb kf46_0 r)<|Fu (Sb 2 kk3 r (Cp r) r)<|Nx<|Sr<|Qs 1 r<|Bi fun R99 H100=>Fo (Cl [0] spec_l1Below_c H100 r r1 ⟨(Bc Z0),⟨⟩⟩) fun _=>Yo (Fb kf46_3 r)<|Fu (Sb 2 kk3 r (Cp r) r)<|Nx<|Rg<|Qs 1 r<|Fo (Bs [[97], [98], [97, 98], [99]] ke107 kz9) fun B102=>Bi fun R103 H104=>Fo (Cl [1] spec_l1Pick_c H104 r r1 ⟨(Bc Z0),(Oc 0 r),⟨⟩⟩) fun _=>Yo (Fb kf46_4 r)<|Fu (Sb 3 kk9 r (Cp r) r)<|Nl<|Ni 3<|Jg (.slice none 0 0) [3,1,2,0]
           refine Sr<|Qs 2 r<|Nx<|Jn Value [0,4,6] [1] (fun _ _=>[]) (fun T X=>[.box U1 78 [U0, iv T.1, iv T.2.1], .box B12 46 [iv T.2.2.1, strV R9, iv (IntKind.i64.wrap ((1 : Int) + R2.1)), iv T.2.2.2.1, strV ([]), strV ([]), X], .own X (lc T.2.2.2.2)]) r2 r2 (?_) fun T106 X107=>?_
           ·refine Wc r (fun H108=>Rg<|Yo (Fb kf46_0 r)<|Fu (Sb 2 kk3 r (Cp r) r)<|Nl<|Ni 3<|Jg (.slice none 0 0) [2,1,1,0]) fun H108=>Sr<|Qs 2 r<|Nx<|Jn Value [0,4,6] [1] (fun _ _=>[]) (fun T X=>[.box U1 78 [U0, iv T.1, iv T.2.1], .box B12 46 [iv T.2.2.1, strV R9, iv (IntKind.i64.wrap ((1 : Int) + R2.1)), iv T.2.2.2.1, strV ([]), strV ([]), X], .own X (lc T.2.2.2.2)]) r2 r2 (?_) fun T109 X110=>?_
            ·refine Wc r (fun H111=>Rg<|Yo (Fb kf46_0 r)<|Fu (Sb 2 kk3 r (Cp r) r)<|Nl<|Ni 3<|Jg (.slice none 0 0) [2,1,1,0]) fun H111=>Sr<|Qs 2 r<|Nx<|Jn Value [0,4,6] [1] (fun _ _=>[]) (fun T X=>[.box U1 78 [U0, iv T.1, iv T.2.1], .box B12 46 [iv T.2.2.1, strV R9, iv (IntKind.i64.wrap ((1 : Int) + R2.1)), iv T.2.2.2.1, strV ([]), strV ([]), X], .own X (lc T.2.2.2.2)]) r2 r2 (?_) fun T112 X113=>?_
             ·refine Wc r (fun H114=>Rg<|Yo (Fb kf46_0 r)<|Fu (Sb 2 kk3 r (Cp r) r)<|Nl<|Ni 3<|Jg (.slice none 0 0) [2,1,1,0]) fun H114=>Sr<|Qs 2 r<|Nx<|Jn Value [0,4,6] [1] (fun _ _=>[]) (fun T X=>[.box U1 78 [U0, iv T.1, iv T.2.1], .box B12 46 [iv T.2.2.1, strV R9, iv (IntKind.i64.wrap ((1 : Int) + R2.1)), iv T.2.2.2.1, strV ([]), strV ([]), X], .own X (lc T.2.2.2.2)]) r2 r2 (?_) fun T115 X116=>?_
              ·refine Wc r (fun H117=>?_) fun H117=>?_
               ·exact Sr<|Yo (Fb kf46_0 r)<|Fu (Sb 2 kk3 r (Cp r) r)<|Nx<|Rg<|Qs 1 r<|Fo (Bs [(0 : Int), (0 : Int), (1 : Int), (2 : Int), (9 : Int), (-1 : Int)] ke61 kz3) fun B118=>Bi fun R119 H120=>Fo (Cl [1] spec_l1PickInt_c H120 r r1 ⟨(Bc Z0),(Oc 0 r),⟨⟩⟩) fun _=>Yo (Fb kf46_3 r)<|Fu (Sb 3 kk3 r (Cp r) r)<|Nl<|Ni 3<|Jg (.slice none 0 0) [3,1,2,0]
               exact Rg<|Qs 1 r<|Bi fun R122 H123=>Fo (Cl [0] spec_l21Batch_c H123 r r1 ⟨(Bc Z0),⟨⟩⟩) fun Y124=>Yo (Fb kf46_6 r)<|Fu (Sb 3 kk44 r (Co 1) r)<|Nl<|Jg Y124 [2,0,1,0]
              exact Jg X116 [0,0,0,0]
             exact Jg X113 [0,0,0,0]
            exact Jg X110 [0,0,0,0]
           exact Jg X107 [0,0,0,0]
          exact Jg X97 [0,0,0,0]
         exact Jg X88 [0,0,0,0]
        exact Jg X85 [0,0,0,0]
       exact Jg X74 [0,0,0,0]
      exact Jg X64 [0,0,0,0]
     exact Jg X49 [0,0,0,0]
    exact Jg X40 [0,0,0,0]
   exact Jg X33 [0,0,0,0]
  refine Bn<|Ne<|Sq<|Sr<|Qs 1 r<|Bi fun R125 H126=>Fo (Cl [1] spec_l1Once_c H126 r r1 ⟨(Bc Z0),⟨⟩⟩) fun _=>Nx<|Jn Unit [0,4,6] [1,2] (fun _ _=>[]) (fun T _=>[.box U1 78 [U0, iv T.1, iv T.2.1], .box B12 46 [iv T.2.2, strV R9, iv (IntKind.i64.wrap ((1 : Int) + R2.1)), iv T19.2.2.2.1, strV T19.2.2.2.2.1, strV T19.2.2.2.2.2.1, X20]]) r2 r2 (Wc r (fun H130=>Rg<|Qs 1 r<|Fo (Bs [(0 : Int), (15 : Int)] ke61 kz3) fun B131=>Bi fun R132 H133=>Fo (Cl [1] spec_l1PickInt_c H133 r r1 ⟨(Bc Z0),(Oc 0 r),⟨⟩⟩) fun _=>Yo (Fb kf46_0 r)<|Fu (Sb 3 kk3 r (Cp r) r)<|Nl<|Jg () [2,3,0,1]) fun H130=>Sk<|Jg () [1,2,0,0]) fun T128 X129=>?_
  refine Ne<|Sq<|Sr<|Qs 1 r<|Bi fun R135 H136=>Fo (Cl [2] spec_l1Once_c H136 r r1 ⟨(Bc Z0),⟨⟩⟩) fun _=>Nx<|Jn Unit [4,6] [1,1] (fun _ _=>[]) (fun T _=>[.box B12 46 [iv T128.2.2, strV T.1, iv (IntKind.i64.wrap ((1 : Int) + R2.1)), iv T19.2.2.2.1, strV T19.2.2.2.2.1, strV T19.2.2.2.2.2.1, X20], .box U1 78 [U0, iv T.2.1, iv T.2.2]]) r2 r2 (Wc r (fun H140=>Rg<|Qs 1 r<|Yo (Fb kf46_1 r)<|Yo (Lb 3 kk9 r)<|Bi fun R141 H142=>Fo (Cl [0] spec_l1Spoil_c H142 r r1 ⟨(Bc Z0),⟨⟩⟩) fun _=>Yo (Fb kf46_1 r)<|Fu (Sb 3 kk9 r (Cp r) r)<|Nl<|Jg () [1,1,1,0]) fun H140=>Sk<|Jg () [1,1,1,0]) fun T138 X139=>?_
  exact Ne<|Sr<|Yo (Lb 2 kk46 r)<|Fu (Sb 0 kk46 r (Ca ⟨Op',Op',Op',Op',Op',Op',Ow' 1,⟨⟩⟩) r)<|Nx<|Wr<|TE.leaf fun _ _ hf_ hs_ => ret_any (rs := [.cell 4 46]) (vs := [.agg #[iv T128.2.2, strV T138.1, iv (IntKind.i64.wrap ((1 : Int) + R2.1)), iv T19.2.2.2.1, strV T19.2.2.2.2.1, strV T19.2.2.2.2.2.1, X20]]) (.inl r) r (RV.cell 0 r r kk46 r ⟨⟩) hf_ hs_ ⟨X20, r, hs_.pulls [3, 1] r⟩
noncomputable def spec_l21Calls (c : L1Cur) (secret : List UInt8) (most : Int) : Option (List Call × L1Cur) :=
  bindC (loopO (fun (S2 : Int × Int × Int × List Call) => if (decide (S2.2.2.1 ≤ (2 : Int))) = true then ((spec_l1Once ({ b := c.b, i := S2.1, h := S2.2.1 : L1Cur }) (8 : Int)).bind fun R7 =>
  bindC (if (!R7.1) = true then ((spec_l21Fill (toU8 S2.2.2.1)).bind fun R13 =>
  (app 96 S2.2.2.2 ([{ Kind := (1 : Int), Token := [], Tenant := S2.2.2.1, N := (40 : Int), Key := R13, To := [], Ops := ([] : List Op) : Call }])).bind fun E19 =>
  some (.go E19))
  else (some (.go S2.2.2.2)))
  (fun (T10 : List Call) => some (.go (R7.2.i, R7.2.h, IntKind.i64.wrap (S2.2.2.1 + (1 : Int)), T10))))
  else (some (.done (.go (S2.1, S2.2.1, S2.2.2.2)))))
  (c.i, c.h, (1 : Int), ([] : List Call)))
  (fun (T4 : Int × Int × List Call) => (spec_l1Below ({ b := c.b, i := T4.1, h := T4.2.1 : L1Cur }) most).bind fun R21 =>
  bindC (loopO (fun (S24 : Int × Int × Int × List Call) => if (decide (S24.2.2.1 > (0 : Int))) = true then ((spec_l21Call ({ b := c.b, i := S24.1, h := S24.2.1 : L1Cur }) secret).bind fun R29 =>
  (app 96 S24.2.2.2 ([R29.1])).bind fun E34 =>
  some (.go (R29.2.i, R29.2.h, IntKind.i64.wrap (S24.2.2.1 - (1 : Int)), E34)))
  else (some (.done (.go (S24.1, S24.2.1, S24.2.2.2)))))
  (R21.2.i, R21.2.h, R21.1, T4.2.2))
  (fun (T26 : Int × Int × List Call) => (spec_l1Once ({ b := c.b, i := T26.1, h := T26.2.1 : L1Cur }) (60 : Int)).bind fun R36 =>
  bindC (if R36.1 = true then ((spec_l1Below ({ b := c.b, i := R36.2.i, h := R36.2.h : L1Cur }) (2 : Int)).bind fun R42 =>
  bindC (loopO (fun (S45 : List Call) => if (decide (((S45.length : Nat) : Int) < IntKind.i64.wrap ((120 : Int) + R42.1))) = true then ((app 96 S45 ([{ Kind := (12 : Int), Token := [], Tenant := (0 : Int), N := (0 : Int), Key := [], To := [], Ops := ([] : List Op) : Call }])).bind fun E53 =>
  some (.go E53))
  else (some (.done (.go S45))))
  T26.2.2)
  (fun (T47 : List Call) => some (.go (R42.2.i, R42.2.h, T47))))
  else (some (.go (R36.2.i, R36.2.h, T26.2.2))))
  (fun (T39 : Int × Int × List Call) => some (T39.2.2, { b := c.b, i := T39.1, h := T39.2.1 : L1Cur }))))
theorem spec_l21Calls_c {c : L1Cur} {secret : List UInt8} {most : Int} {U0 : Value} {U1 : Nat} : Cn Tryz.prog 25 [pt U1, strV secret, iv most] [.box U1 78 [U0, iv c.i, iv c.h]] [(U0, lc c.b)] (spec_l21Calls c secret most) (fun _ (X : Value) => X) fun r X => [.box U1 78 [U0, iv r.2.i, iv r.2.h], .own X (lc r.1)] := by
  unfold spec_l21Calls
  refine Ci Tryz.func25 r r ?_
  rintro w S ⟨Z0,-⟩
  refine Sr<|Qs 1 r<|Nx<|Sr<|Fo (Bk [] ke24 kz46 r (Qz)) fun B1=>Kt (Ha [0] ([] : List Call) r Cz)<|Qs 1 r<|Nx<|Sq<|Sr<|Qs 1 r<|Nx<|Jn Value [0,1,2] [] (fun _ X=>[(7, X)]) (fun T X=>[.box U1 78 [U0, iv T.1, iv T.2.1], .own X (lc T.2.2)]) r2 r2 (?_) fun T4 X5=>?_
  ·refine Wb<|Lp Value [0,1,2] [] (fun T X=>[(7, X), (8, iv T.2.2.1)]) (fun T X=>[.box U1 78 [U0, iv T.1, iv T.2.1], .own X (lc T.2.2.2)]) (.slice (some ⟨B1, 0, none⟩) 0 0) [1,0] r2 r2 fun S2 X3=>Sq<|Sr<|Qs 2 r<|Nx<|Wc r (fun H6=>?_) fun H6=>?_
   ·refine Sn<|Sq<|Wb<|Sr<|Qs 1 r<|Bi fun R7 H8=>Fo (Cl [0] spec_l1Once_c H8 r r1 ⟨(Bc Z0),⟨⟩⟩) fun _=>Qs 1 r<|Nx<|Jn Value [0,1,2,8] [0] (fun _ X=>[(7, X)]) (fun T X=>[.own X (lc T)]) r2 r2 (?_) fun T10 X11=>?_
    ·refine Wc r (fun H12=>?_) fun H12=>?_
     ·refine Rg<|Qs 3 r<|Yo (Y.conv8 ki3 ki5 r)<|Bi fun R13 H14=>Fo (Cl [] spec_l21Fill_c H14 r r1) fun _=>Yo (Bd kp46 kz46 (Pc r (Cp r)<|Pc r (Cp r)<|Pc r (Cp r)<|Pc r (Cp r)<|Pz) r)<|Fo (Bk [ic (1 : Int), .str ([]), ic S2.2.2.1, ic (40 : Int), .str R13, .str ([]), .raw (.slice none 0 0)] ke24 kz46 r (Qc (Cp r)<|Qz)) fun B16=>No 3<|Kt (Ha [1, 0] ([{ Kind := (1 : Int), Token := [], Tenant := S2.2.2.1, N := (40 : Int), Key := R13, To := [], Ops := ([] : List Op) : Call }] : List Call) r (Ck (Ck (Ck (Ck (Ck (Ck (Cf Cz))))))))<|Bi fun E19 H20=>?_
      exact Fo (Aw [2, 0] H20 ke24 kz46 r) fun V18=>Qs 1 r<|Nl<|Jg V18 [1,0]
     exact Sk<|Jg X3 [0,0]
    exact Bn<|Ne<|Rg<|Qs 3 r<|Nl<|Lg X11 [0,0]
   exact Wx<|Tx<|Ex<|Be<|Jg X3 [0,0]
  refine Ne<|Sq<|Sr<|Qs 2 r<|Bi fun R21 H22=>Fo (Cl [0] spec_l1Below_c H22 r r1 ⟨(Bc Z0),⟨⟩⟩) fun _=>Qs 1 r<|Nx<|Jn Value [0] [] (fun _ X=>[(7, X)]) (fun T X=>[.box U1 78 [U0, iv T.1, iv T.2.1], .own X (lc T.2.2)]) r2 r2 (?_) fun T26 X27=>?_
  ·refine Wb<|Lp Value [0,1] [] (fun T X=>[(7, X), (9, iv T.2.2.1)]) (fun T X=>[.box U1 78 [U0, iv T.1, iv T.2.1], .own X (lc T.2.2.2)]) X5 [0,0] r2 r2 fun S24 X25=>Sq<|Sr<|Qs 2 r<|Nx<|Wc r (fun H28=>?_) fun H28=>?_
   ·exact Sn<|Sq<|Wb<|Rg<|Qs 3 r<|Bi fun R29 H30=>Fo (Cl [0] spec_l21Call_c H30 r r1 ⟨(Bc Z0),⟨⟩⟩) fun Y31=>Fo (Bk [ic R29.1.Kind, .str R29.1.Token, ic R29.1.Tenant, ic R29.1.N, .str R29.1.Key, .str R29.1.To, .raw Y31] ke24 kz46 r (Qc (Ca ⟨Op',Op',Op',Op',Op',Op',Ow' 1,⟨⟩⟩)<|Qz)) fun B32=>Kt (Ha [0, 1] ([R29.1] : List Call) r (Ck (Ck (Ck (Ck (Ck (Ck (Cf Cz))))))))<|Bi fun E34 H35=>Fo (Aw [2, 0] H35 ke24 kz46 r) fun V33=>Qs 1 r<|Nl<|Bn<|Ne<|Rg<|Qs 3 r<|Nl<|Lg V33 [1,0]
   exact Wx<|Tx<|Ex<|Be<|Jg X25 [0,0]
  refine Ne<|Sq<|Sr<|Qs 1 r<|Bi fun R36 H37=>Fo (Cl [0] spec_l1Once_c H37 r r1 ⟨(Bc Z0),⟨⟩⟩) fun _=>Nx<|Jn Value [] [] (fun _ X=>[(7, X)]) (fun T X=>[.box U1 78 [U0, iv T.1, iv T.2.1], .own X (lc T.2.2)]) r2 r2 (?_) fun T39 X40=>?_
  ·refine Wc r (fun H41=>?_) fun H41=>?_
   ·refine Sr<|Qs 1 r<|Bi fun R42 H43=>Fo (Cl [0] spec_l1Below_c H43 r r1 ⟨(Bc Z0),⟨⟩⟩) fun _=>Qs 2 r<|Nx<|Jn Value [] [0] (fun _ X=>[(7, X)]) (fun T X=>[.own X (lc T)]) r2 r2 (?_) fun T47 X48=>?_
    ·refine Wb<|Lp Value [10] [0] (fun _ X=>[(7, X)]) (fun T X=>[.own X (lc T)]) X27 [0,0] r2 r2 fun S45 X46=>Sq<|Sr<|Qs 1 r<|Yo (Ln ke24 (Oc 1 r) r)<|Qs 2 r<|Nx<|Wc r (fun H49=>?_) fun H49=>?_
     ·exact Sn<|Wb<|Rg<|Qs 1 r<|Yo (Bd kp46 kz46 (Pc r (Cp r)<|Pz) r)<|Fo (Bk [ic (12 : Int), .str ([]), ic (0 : Int), ic (0 : Int), .str ([]), .str ([]), .raw (.slice none 0 0)] ke24 kz46 r (Qc (Cp r)<|Qz)) fun B50=>No 3<|Kt (Ha [1, 0] ([{ Kind := (12 : Int), Token := [], Tenant := (0 : Int), N := (0 : Int), Key := [], To := [], Ops := ([] : List Op) : Call }] : List Call) r (Ck (Ck (Ck (Ck (Ck (Ck (Cf Cz))))))))<|Bi fun E53 H54=>Fo (Aw [2, 0] H54 ke24 kz46 r) fun V52=>Qs 1 r<|Nl<|Bn<|Lg V52 [1,0]
     exact Wx<|Tx<|Ex<|Be<|Jg X46 [0,0]
    exact Jg X48 [0,0]
   exact Sk<|Jg X27 [0,0]
  exact Ne<|Sr<|Qs 2 r<|Nx<|Wr<|Re X40 [0,0]
end Go.Proofs.YtmigafjpdoeicaaGreat
