/-
  The plain laws: what the pure functions come to, and the statements. Conditions: none.
-/
import Derived.Test.YtablbamlbfgfpaaPm
import Derived.Test.YtablbamlbfgfpaaQ3
set_option linter.unusedVariables false
set_option linter.unusedSimpArgs false
namespace Go.Proofs.Ytablbamlbfgfpaa
open Go Sl

theorem inRange_eq (n a b : Int) : impl_inRange n a b = some (decide (a ≤ n ∧ n ≤ b)) := by
  unfold impl_inRange
  by_cases h : n ≥ a <;> simp [h]
theorem l1In_eq (n a b : Int) : spec_l1In n a b = some (decide (a ≤ n ∧ n ≤ b)) := by
  unfold spec_l1In
  by_cases h : n ≥ a <;> simp [h]
/-! ### SpaceOk -/
theorem idx_some' {α : Type} {l : List α} {i : Int} (h0 : 0 ≤ i) (h1 : i < l.length) : idx l i = some (l[i.toNat]'(by omega)) := by
  unfold idx; rw [if_pos h0, List.getElem?_eq_getElem]
theorem piece_nat {α : Type} (l : List α) (a b : Nat) (lo hi : Int) (h1 : lo = (a : Int)) (h2 : hi = (b : Int)) (h3 : a ≤ b) (h4 : b ≤ l.length) : piece l lo hi = some ((l.drop a).take (b - a)) := by
  subst h1 h2
  unfold piece
  rw [if_pos ⟨by omega, by omega, by omega⟩, Int.toNat_natCast, Int.toNat_natCast]
/-- an op as required -/
def opV (o : Op) : Bool := decide (1 ≤ (o.Key.length : Int) ∧ (o.Key.length : Int) ≤ 10) && (decide ((o.Val.length : Int) ≤ 16) && (!o.Del || decide (o.Val = [])))
theorem spec_l7Op_eq (o : Op) : spec_l7Op o = some (opV o) := by
  unfold spec_l7Op opV
  simp only [l1In_eq, Option.bind_some]
  by_cases h1 : 1 ≤ (o.Key.length : Int) ∧ (o.Key.length : Int) ≤ 10 <;> by_cases h3 : (o.Val.length : Int) ≤ 16 <;> cases h4 : o.Del <;>
    simp only [h1, h3, and_self, decide_true, decide_false, if_true, if_false, Option.bind_some, Bool.true_and, Bool.false_and, Bool.not_true, Bool.not_false, Bool.false_eq_true, Bool.true_or, Bool.false_or, Bool.and_true, Bool.and_false]
theorem impl_opOk_eq (o : Op) : ((impl_isKey o.Key).bind fun R11 => if (!R11) = true then (some true) else ((impl_isVal o.Del o.Val).bind fun R15 => some (!R15))) = some (!opV o) := by
  unfold impl_isKey impl_isVal opV
  simp only [inRange_eq, Option.bind_some]
  by_cases h1 : 1 ≤ (o.Key.length : Int) ∧ (o.Key.length : Int) ≤ 10 <;> by_cases h3 : (o.Val.length : Int) ≤ 16 <;> cases h4 : o.Del <;>
    simp only [h1, h3, and_self, decide_true, decide_false, if_true, if_false, Option.bind_some, Bool.true_and, Bool.false_and, Bool.not_true, Bool.not_false, Bool.false_eq_true, Bool.true_or, Bool.false_or, Bool.and_true, Bool.and_false, Bool.not_not]
/-- a batch as required -/
def batchV (l : List Op) : Bool := decide (1 ≤ l.length ∧ l.length ≤ 6) && l.all opV
theorem batchI (l : List Op) : decide (1 ≤ ((l.length : Nat) : Int) ∧ ((l.length : Nat) : Int) ≤ 6) = decide (1 ≤ l.length ∧ l.length ≤ 6) := decide_eq_decide.2 (by omega)
theorem spec_BatchOk_eq (l : List Op) (h : l.length ≤ 1048576) : spec_BatchOk l = some (batchV l) := by
  unfold spec_BatchOk batchV
  simp only [l1In_eq, Option.bind_some, batchI]
  by_cases h6 : 1 ≤ l.length ∧ l.length ≤ 6
  · rw [decide_eq_true h6]
    simp only [Bool.not_true, Bool.false_eq_true, if_false, Bool.true_and]
    rw [loopO_is (fun k s => s = (k : Int) ∧ l.all opV = (l.drop k).all opV) l.length (if l.all opV = true then Ctl.go () else Ctl.done false) ?h0 ?h1 ?h2]
    · cases l.all opV <;> rfl
    case h0 => exact ⟨rfl, rfl⟩
    · rintro k s hk ⟨rfl, he⟩
      simp only [idx_nat l k hk, Option.bind_some, spec_l7Op_eq]
      rw [if_pos (by simpa using hk), wrap_ok (n := (k : Int) + 1) (by omega) (by omega), he, List.drop_eq_getElem_cons hk, List.all_cons]
      cases hc : opV l[k] with
      | false => right; rfl
      | true => left; exact ⟨(k : Int) + 1, rfl, by omega, by simp⟩
    · rintro s ⟨rfl, he⟩
      rw [he, List.drop_length]
      simp
  · rw [decide_eq_false h6]
    rfl
theorem impl_BatchOk_eq (l : List Op) (h : l.length ≤ 1048576) : impl_BatchOk l = some (batchV l) := by
  unfold impl_BatchOk batchV
  rw [loopO_is (fun k s => s = (k : Int) ∧ l.all opV = (l.drop k).all opV) l.length (if l.all opV = true then Ctl.go () else Ctl.done false) ?h0 ?h1 ?h2]
  · cases l.all opV with
    | false => simp
    | true => simp only [if_true, bindC_go, inRange_eq, Option.bind_some, batchI, Bool.and_true]
  case h0 => exact ⟨rfl, rfl⟩
  · rintro k s hk ⟨rfl, he⟩
    simp only [idx_nat l k hk, Option.bind_some, impl_opOk_eq]
    rw [if_pos (by simpa using hk), wrap_ok (n := (k : Int) + 1) (by omega) (by omega), he, List.drop_eq_getElem_cons hk, List.all_cons]
    cases hc : opV l[k] with
    | false => right; rfl
    | true => left; exact ⟨(k : Int) + 1, rfl, by omega, by simp⟩
  · rintro s ⟨rfl, he⟩
    rw [he, List.drop_length]
    simp

/-! words of bits -/
theorem iand64 {a b : Nat} (ha : a < 2 ^ 63) (hb : b < 2 ^ 63) : iand .i64 (a : Int) (b : Int) = ((a &&& b : Nat) : Int) := by
  unfold iand
  have h1 : a &&& b ≤ a := Nat.and_le_left
  have e : (BitVec.ofInt IntKind.i64.bits (a : Int) &&& BitVec.ofInt IntKind.i64.bits (b : Int)).toNat = a &&& b := by
    show (BitVec.ofInt 64 (a : Int) &&& BitVec.ofInt 64 (b : Int)).toNat = a &&& b
    rw [BitVec.ofInt_natCast, BitVec.ofInt_natCast, BitVec.toNat_and, BitVec.toNat_ofNat, BitVec.toNat_ofNat, Nat.mod_eq_of_lt (by omega), Nat.mod_eq_of_lt (by omega)]
  rw [e]
  exact wrap_ok (by omega) (by omega)
theorem ior64 {a b : Nat} (ha : a < 2 ^ 63) (hb : b < 2 ^ 63) : ior .i64 (a : Int) (b : Int) = ((a ||| b : Nat) : Int) := by
  unfold ior
  have h1 : a ||| b < 2 ^ 63 := Nat.or_lt_two_pow ha hb
  have e : (BitVec.ofInt IntKind.i64.bits (a : Int) ||| BitVec.ofInt IntKind.i64.bits (b : Int)).toNat = a ||| b := by
    show (BitVec.ofInt 64 (a : Int) ||| BitVec.ofInt 64 (b : Int)).toNat = a ||| b
    rw [BitVec.ofInt_natCast, BitVec.ofInt_natCast, BitVec.toNat_or, BitVec.toNat_ofNat, BitVec.toNat_ofNat, Nat.mod_eq_of_lt (by omega), Nat.mod_eq_of_lt (by omega)]
  rw [e]
  exact wrap_ok (by omega) (by omega)
theorem ixor64 {a b : Nat} (ha : a < 2 ^ 63) (hb : b < 2 ^ 63) : ixor .i64 (a : Int) (b : Int) = ((a ^^^ b : Nat) : Int) := by
  unfold ixor
  have h1 : a ^^^ b < 2 ^ 63 := Nat.xor_lt_two_pow ha hb
  have e : (BitVec.ofInt IntKind.i64.bits (a : Int) ^^^ BitVec.ofInt IntKind.i64.bits (b : Int)).toNat = a ^^^ b := by
    show (BitVec.ofInt 64 (a : Int) ^^^ BitVec.ofInt 64 (b : Int)).toNat = a ^^^ b
    rw [BitVec.ofInt_natCast, BitVec.ofInt_natCast, BitVec.toNat_xor, BitVec.toNat_ofNat, BitVec.toNat_ofNat, Nat.mod_eq_of_lt (by omega), Nat.mod_eq_of_lt (by omega)]
  rw [e]
  exact wrap_ok (by omega) (by omega)
theorem wrap32 (n : Int) : IntKind.u32.wrap n = n % 4294967296 := by simp [IntKind.wrap, IntKind.bits, IntKind.signed]
theorem wrap64u (n : Int) : IntKind.u64.wrap n = n % 18446744073709551616 := by simp [IntKind.wrap, IntKind.bits, IntKind.signed]
theorem ior32 {a b : Nat} (ha : a < 2 ^ 32) (hb : b < 2 ^ 32) : ior .u32 (a : Int) (b : Int) = ((a ||| b : Nat) : Int) := by
  unfold ior
  have h1 : a ||| b < 2 ^ 32 := Nat.or_lt_two_pow ha hb
  have e : (BitVec.ofInt IntKind.u32.bits (a : Int) ||| BitVec.ofInt IntKind.u32.bits (b : Int)).toNat = a ||| b := by
    show (BitVec.ofInt 32 (a : Int) ||| BitVec.ofInt 32 (b : Int)).toNat = a ||| b
    rw [BitVec.ofInt_natCast, BitVec.ofInt_natCast, BitVec.toNat_or, BitVec.toNat_ofNat, BitVec.toNat_ofNat, Nat.mod_eq_of_lt (by omega), Nat.mod_eq_of_lt (by omega)]
  rw [e, wrap32]
  omega
theorem ixor32 {a b : Nat} (ha : a < 2 ^ 32) (hb : b < 2 ^ 32) : ixor .u32 (a : Int) (b : Int) = ((a ^^^ b : Nat) : Int) := by
  unfold ixor
  have h1 : a ^^^ b < 2 ^ 32 := Nat.xor_lt_two_pow ha hb
  have e : (BitVec.ofInt IntKind.u32.bits (a : Int) ^^^ BitVec.ofInt IntKind.u32.bits (b : Int)).toNat = a ^^^ b := by
    show (BitVec.ofInt 32 (a : Int) ^^^ BitVec.ofInt 32 (b : Int)).toNat = a ^^^ b
    rw [BitVec.ofInt_natCast, BitVec.ofInt_natCast, BitVec.toNat_xor, BitVec.toNat_ofNat, BitVec.toNat_ofNat, Nat.mod_eq_of_lt (by omega), Nat.mod_eq_of_lt (by omega)]
  rw [e, wrap32]
  omega
theorem iand8 {a b : Nat} (ha : a < 2 ^ 8) (hb : b < 2 ^ 8) : iand .u8 (a : Int) (b : Int) = ((a &&& b : Nat) : Int) := by
  unfold iand
  have h1 : a &&& b ≤ a := Nat.and_le_left
  have e : (BitVec.ofInt IntKind.u8.bits (a : Int) &&& BitVec.ofInt IntKind.u8.bits (b : Int)).toNat = a &&& b := by
    show (BitVec.ofInt 8 (a : Int) &&& BitVec.ofInt 8 (b : Int)).toNat = a &&& b
    rw [BitVec.ofInt_natCast, BitVec.ofInt_natCast, BitVec.toNat_and, BitVec.toNat_ofNat, BitVec.toNat_ofNat, Nat.mod_eq_of_lt (by omega), Nat.mod_eq_of_lt (by omega)]
  rw [e]
  simp [IntKind.wrap, IntKind.bits, IntKind.signed]
  omega
theorem ishr_nat {k : IntKind} {a n : Nat} (hn : n ≤ k.bits) : ishr k (a : Int) (n : Int) = ((a / 2 ^ n : Nat) : Int) := by
  unfold ishr
  rw [Int.toNat_natCast, Nat.min_eq_left hn, Int.fdiv_eq_ediv_of_nonneg _ (by exact_mod_cast Nat.zero_le _)]
  norm_cast
theorem ishl64 {a n : Nat} (hn : n ≤ 64) (h : a * 2 ^ n < 2 ^ 63) : ishl .i64 (a : Int) (n : Int) = ((a * 2 ^ n : Nat) : Int) := by
  unfold ishl
  have hb : IntKind.i64.bits = 64 := rfl
  rw [Int.toNat_natCast, hb, Nat.min_eq_left hn]
  have e : (a : Int) * 2 ^ n = ((a * 2 ^ n : Nat) : Int) := by norm_cast
  rw [e]
  exact wrap_ok (by omega) (by omega)
theorem ishl32 {a n : Nat} (hn : n ≤ 32) : ishl .u32 (a : Int) (n : Int) = ((a * 2 ^ n % 4294967296 : Nat) : Int) := by
  unfold ishl
  have hb : IntKind.u32.bits = 32 := rfl
  have e : (a : Int) * 2 ^ n = ((a * 2 ^ n : Nat) : Int) := by norm_cast
  rw [Int.toNat_natCast, hb, Nat.min_eq_left hn, wrap32, e]
  generalize a * 2 ^ n = z
  omega
theorem l3Word_eq {x : Nat} (h : x < 2 ^ 63) : spec_l3Word (x : Int) = some ((x % 4294967296 : Nat) : Int) := by
  unfold spec_l3Word
  rw [show (4294967295 : Int) = ((4294967295 : Nat) : Int) from rfl, iand64 h (by decide), show x &&& 4294967295 = x % 4294967296 from Nat.and_two_pow_sub_one_eq_mod x 32]
/-- the bits of a word turned to the left -/
def rotN (x n : Nat) : Nat := x * 2 ^ n % 4294967296 ||| x / 2 ^ (32 - n)
theorem rotN_lt {x n : Nat} (h : x < 4294967296) : rotN x n < 4294967296 := by
  unfold rotN
  refine Nat.or_lt_two_pow (n := 32) (Nat.mod_lt _ (by decide)) ?_
  exact Nat.lt_of_le_of_lt (Nat.div_le_self _ _) h
theorem l3Left_eq {x n : Nat} (h : x < 4294967296) (hn : n ≤ 16) : spec_l3Left (x : Int) (n : Int) = some (rotN x n : Int) := by
  unfold spec_l3Left nn
  have h1 : x * 2 ^ n < 2 ^ 63 := by
    have : 2 ^ n ≤ 2 ^ 16 := Nat.pow_le_pow_right (by decide) hn
    calc x * 2 ^ n ≤ x * 2 ^ 16 := Nat.mul_le_mul_left _ this
      _ < 2 ^ 63 := by omega
  have h2 : x / 2 ^ (32 - n) < 2 ^ 32 := Nat.lt_of_le_of_lt (Nat.div_le_self _ _) h
  have h3 : IntKind.u64.wrap ((32 : Int) - (n : Int)) = ((32 - n : Nat) : Int) := by rw [wrap64u]; omega
  rw [if_neg (by omega), h3, ishl64 (by omega) h1, ishr_nat (by show 32 - n ≤ 64; omega), ior64 h1 (by omega)]
  simp only [Option.bind_some]
  rw [l3Word_eq (Nat.or_lt_two_pow h1 (by omega))]
  simp only [Option.bind_some]
  unfold rotN
  rw [show (4294967296 : Nat) = 2 ^ 32 from rfl, Nat.or_mod_two_pow, Nat.mod_eq_of_lt h2]
theorem rot32_eq {x n : Nat} (h : x < 4294967296) (hn : n ≤ 16) : math_bits_RotateLeft32 (x : Int) (n : Int) = some (rotN x n : Int) := by
  unfold math_bits_RotateLeft32 nn
  have h0 : iand .u64 (IntKind.u64.wrap (n : Int)) (31 : Int) = (n : Int) := by
    have e : IntKind.u64.wrap (n : Int) = (n : Int) := by rw [wrap64u]; omega
    rw [e]
    unfold iand
    have e2 : (BitVec.ofInt IntKind.u64.bits (n : Int) &&& BitVec.ofInt IntKind.u64.bits (31 : Int)).toNat = n := by
      show (BitVec.ofInt 64 (n : Int) &&& BitVec.ofInt 64 ((31 : Nat) : Int)).toNat = n
      rw [BitVec.ofInt_natCast, BitVec.ofInt_natCast, BitVec.toNat_and, BitVec.toNat_ofNat, BitVec.toNat_ofNat, Nat.mod_eq_of_lt (by omega), Nat.mod_eq_of_lt (by omega)]
      rw [show n &&& 31 = n % 32 from Nat.and_two_pow_sub_one_eq_mod n 5]
      omega
    rw [e2, wrap64u]
    omega
  have h2 : x / 2 ^ (32 - n) < 2 ^ 32 := Nat.lt_of_le_of_lt (Nat.div_le_self _ _) h
  have h3 : IntKind.u64.wrap ((32 : Int) - (n : Int)) = ((32 - n : Nat) : Int) := by rw [wrap64u]; omega
  rw [h0, if_neg (by omega), h3, ishl32 (by omega), ishr_nat (by show 32 - n ≤ 32; omega), ior32 (Nat.mod_lt _ (by decide)) h2]
  rfl
theorem ior_same {p q : Int} (hp : 0 ≤ p ∧ p < 4294967296) (hq : 0 ≤ q ∧ q < 4294967296) : ior .u32 p q = ior .i64 p q ∧ 0 ≤ ior .i64 p q ∧ ior .i64 p q < 4294967296 := by
  have e1 : p = (p.toNat : Int) := by omega
  have e2 : q = (q.toNat : Int) := by omega
  have h1 : p.toNat < 2 ^ 32 := by omega
  have h2 : q.toNat < 2 ^ 32 := by omega
  have h3 := Nat.or_lt_two_pow h1 h2
  rw [e1, e2, ior32 h1 h2, ior64 (by omega) (by omega)]
  generalize p.toNat ||| q.toNat = z at h3
  exact ⟨rfl, by omega, by omega⟩
theorem ishl_same (x : UInt8) (n : Nat) (hn : n ≤ 24) : ishl .u32 (IntKind.u32.wrap ((x.toNat : Nat) : Int)) (n : Int) = ishl .i64 (IntKind.i64.wrap ((x.toNat : Nat) : Int)) (n : Int) ∧ 0 ≤ ishl .i64 (IntKind.i64.wrap ((x.toNat : Nat) : Int)) (n : Int) ∧ ishl .i64 (IntKind.i64.wrap ((x.toNat : Nat) : Int)) (n : Int) < 4294967296 := by
  have hx := x.toNat_lt
  have w1 : IntKind.u32.wrap ((x.toNat : Nat) : Int) = ((x.toNat : Nat) : Int) := by rw [wrap32]; omega
  have w2 : IntKind.i64.wrap ((x.toNat : Nat) : Int) = ((x.toNat : Nat) : Int) := wrap_ok (by omega) (by omega)
  have hp : 2 ^ n ≤ 2 ^ 24 := Nat.pow_le_pow_right (by decide) hn
  have hm : x.toNat * 2 ^ n ≤ x.toNat * 2 ^ 24 := Nat.mul_le_mul_left _ hp
  rw [w1, w2, ishl32 (by omega), ishl64 (by omega) (by omega)]
  generalize x.toNat * 2 ^ n = z at hm
  have hz : z < 4294967296 := by omega
  rw [Nat.mod_eq_of_lt hz]
  exact ⟨rfl, by omega, by omega⟩
theorem ishl_samei (x : UInt8) (n : Int) (hn : 0 ≤ n ∧ n ≤ 24) : ishl .u32 (IntKind.u32.wrap ((x.toNat : Nat) : Int)) n = ishl .i64 (IntKind.i64.wrap ((x.toNat : Nat) : Int)) n ∧ 0 ≤ ishl .i64 (IntKind.i64.wrap ((x.toNat : Nat) : Int)) n ∧ ishl .i64 (IntKind.i64.wrap ((x.toNat : Nat) : Int)) n < 4294967296 := by
  have e : n = (n.toNat : Int) := by omega
  rw [e]
  exact ishl_same x n.toNat (by omega)
theorem bind_same {α β : Type} {x : Option α} {f g : α → Option β} (h : ∀ a, f a = g a) : x.bind f = x.bind g := by
  cases x with
  | none => rfl
  | some a => exact h a
theorem little_val (a b c d : UInt8) : ior .u32 (ior .u32 (ior .u32 (IntKind.u32.wrap ((a.toNat : Nat) : Int)) (ishl .u32 (IntKind.u32.wrap ((b.toNat : Nat) : Int)) (8 : Int))) (ishl .u32 (IntKind.u32.wrap ((c.toNat : Nat) : Int)) (16 : Int))) (ishl .u32 (IntKind.u32.wrap ((d.toNat : Nat) : Int)) (24 : Int)) =
      ior .i64 (ior .i64 (ior .i64 (IntKind.i64.wrap ((a.toNat : Nat) : Int)) (ishl .i64 (IntKind.i64.wrap ((b.toNat : Nat) : Int)) (8 : Int))) (ishl .i64 (IntKind.i64.wrap ((c.toNat : Nat) : Int)) (16 : Int))) (ishl .i64 (IntKind.i64.wrap ((d.toNat : Nat) : Int)) (24 : Int)) ∧
      0 ≤ ior .i64 (ior .i64 (ior .i64 (IntKind.i64.wrap ((a.toNat : Nat) : Int)) (ishl .i64 (IntKind.i64.wrap ((b.toNat : Nat) : Int)) (8 : Int))) (ishl .i64 (IntKind.i64.wrap ((c.toNat : Nat) : Int)) (16 : Int))) (ishl .i64 (IntKind.i64.wrap ((d.toNat : Nat) : Int)) (24 : Int)) ∧
      ior .i64 (ior .i64 (ior .i64 (IntKind.i64.wrap ((a.toNat : Nat) : Int)) (ishl .i64 (IntKind.i64.wrap ((b.toNat : Nat) : Int)) (8 : Int))) (ishl .i64 (IntKind.i64.wrap ((c.toNat : Nat) : Int)) (16 : Int))) (ishl .i64 (IntKind.i64.wrap ((d.toNat : Nat) : Int)) (24 : Int)) < 4294967296 := by
  have ha := a.toNat_lt
  have a1 : IntKind.u32.wrap ((a.toNat : Nat) : Int) = IntKind.i64.wrap ((a.toNat : Nat) : Int) := by rw [wrap32, wrap_ok (by omega) (by omega)]; omega
  have a2 : 0 ≤ IntKind.i64.wrap ((a.toNat : Nat) : Int) ∧ IntKind.i64.wrap ((a.toNat : Nat) : Int) < 4294967296 := by rw [wrap_ok (by omega) (by omega)]; omega
  obtain ⟨b1, b2⟩ := ishl_samei b 8 (by omega)
  obtain ⟨c1, c2⟩ := ishl_samei c 16 (by omega)
  obtain ⟨d1, d2⟩ := ishl_samei d 24 (by omega)
  obtain ⟨o1, o2⟩ := ior_same a2 b2
  obtain ⟨p1, p2⟩ := ior_same o2 c2
  obtain ⟨q1, q2⟩ := ior_same p2 d2
  refine ⟨?_, q2⟩
  rw [a1, b1, c1, d1, o1, p1, q1]
/-- a word of four bytes -/
theorem little_eq (s : List UInt8) (at_ : Int) : impl_little s at_ = spec_l3Little s at_ := by
  unfold impl_little spec_l3Little
  exact bind_same fun a => bind_same fun b => bind_same fun c => bind_same fun d => congrArg some (little_val a b c d).1
theorem little_range (s : List UInt8) (at_ r : Int) (h : spec_l3Little s at_ = some r) : 0 ≤ r ∧ r < 4294967296 := by
  unfold spec_l3Little at h
  obtain ⟨a, _, h⟩ := Option.bind_eq_some_iff.1 h
  obtain ⟨b, _, h⟩ := Option.bind_eq_some_iff.1 h
  obtain ⟨c, _, h⟩ := Option.bind_eq_some_iff.1 h
  obtain ⟨d, _, h⟩ := Option.bind_eq_some_iff.1 h
  rw [← Option.some.inj h]
  exact (little_val a b c d).2
theorem sidx_nat (s : List UInt8) (i : Nat) (h : i < s.length) : sidx s (i : Int) = some s[i] := by
  unfold sidx
  rw [if_pos (by omega), Int.toNat_natCast, List.getElem?_eq_getElem h]
theorem little_some (s : List UInt8) (i : Nat) (h : i + 3 < s.length) (hs : s.length ≤ 1048576) : ∃ n : Nat, spec_l3Little s (i : Int) = some (n : Int) ∧ impl_little s (i : Int) = some (n : Int) ∧ n < 4294967296 := by
  have h1 := little_eq s (i : Int)
  have h2 := little_range s (i : Int)
  have hs' : ∃ r, spec_l3Little s (i : Int) = some r := by
    unfold spec_l3Little
    have w : ∀ d : Nat, d ≤ 3 → IntKind.i64.wrap ((i : Int) + (d : Int)) = ((i + d : Nat) : Int) := fun d hd => by rw [wrap_ok (by omega) (by omega)]; omega
    have w1 : IntKind.i64.wrap ((i : Int) + (1 : Int)) = ((i + 1 : Nat) : Int) := w 1 (by omega)
    have w2 : IntKind.i64.wrap ((i : Int) + (2 : Int)) = ((i + 2 : Nat) : Int) := w 2 (by omega)
    have w3 : IntKind.i64.wrap ((i : Int) + (3 : Int)) = ((i + 3 : Nat) : Int) := w 3 (by omega)
    rw [w1, w2, w3, sidx_nat s i (by omega), sidx_nat s (i + 1) (by omega), sidx_nat s (i + 2) (by omega), sidx_nat s (i + 3) (by omega)]
    exact ⟨_, rfl⟩
  obtain ⟨r, hr⟩ := hs'
  obtain ⟨p, q⟩ := h2 r hr
  refine ⟨r.toNat, ?_, ?_, by omega⟩
  · rw [hr]; congr 1; omega
  · rw [h1, hr]; congr 1; omega
/-- words of 32 bits -/
def okW (l : List Wrd) : Prop := ∀ x ∈ l, 0 ≤ x.v ∧ x.v < 4294967296
theorem okW_set {l : List Wrd} {i : Nat} {x : Wrd} (h : okW l) (hx : 0 ≤ x.v ∧ x.v < 4294967296) : okW (l.set i x) := by
  intro y hy
  rcases List.mem_or_eq_of_mem_set hy with h1 | h1
  · exact h y h1
  · rw [h1]; exact hx
/-- half of a step: one word added to another, and a third one changed and turned -/
noncomputable def qi (l : List Wrd) (x y z : Int) (r : Int) : Option (List Wrd) :=
  (idx l x).bind fun E1 => (idx l y).bind fun E3 => (idx (l.set x.toNat (Wrd.mk (IntKind.u32.wrap (E1.v + E3.v)))) z).bind fun E7 => (idx (l.set x.toNat (Wrd.mk (IntKind.u32.wrap (E1.v + E3.v)))) x).bind fun E9 =>
  (math_bits_RotateLeft32 (ixor .u32 E7.v E9.v) r).bind fun R11 => some ((l.set x.toNat (Wrd.mk (IntKind.u32.wrap (E1.v + E3.v)))).set z.toNat (Wrd.mk R11))
noncomputable def qs (l : List Int) (x y z : Int) (r : Int) : Option (List Int) :=
  (idx l x).bind fun E1 => (idx l y).bind fun E3 => (spec_l3Word (IntKind.i64.wrap (E1 + E3))).bind fun R5 => (idx (l.set x.toNat R5) z).bind fun E10 => (idx (l.set x.toNat R5) x).bind fun E12 =>
  (spec_l3Left (ixor .i64 E10 E12) r).bind fun R14 => some ((l.set x.toNat R5).set z.toNat R14)
theorem impl_quarter_steps (l : List Wrd) (a b c d : Int) : impl_quarter l a b c d = (qi l a b d 16).bind fun l2 => (qi l2 c d b 12).bind fun l3 => (qi l3 a b d 8).bind fun l4 => qi l4 c d b 7 := by
  unfold impl_quarter qi
  simp only [Option.bind_assoc, Option.bind_some]
theorem spec_quarter_steps (l : List Int) (a b c d : Int) : spec_l3Quarter l a b c d = (qs l a b d 16).bind fun l2 => (qs l2 c d b 12).bind fun l3 => (qs l3 a b d 8).bind fun l4 => qs l4 c d b 7 := by
  unfold spec_l3Quarter qs
  simp only [Option.bind_assoc, Option.bind_some]
theorem okW_nat {l : List Wrd} (h : okW l) (k : Nat) (hk : k < l.length) : ∃ n : Nat, l[k].v = (n : Int) ∧ n < 4294967296 := by
  obtain ⟨h1, h2⟩ := h _ (List.getElem_mem hk)
  exact ⟨l[k].v.toNat, by omega, by omega⟩
theorem step_eq (l : List Wrd) (x y z r : Nat) (hl : l.length = 16) (hw : okW l) (hx : x < 16) (hy : y < 16) (hz : z < 16) (hr : r ≤ 16) :
    ∃ l', qi l (x : Int) (y : Int) (z : Int) (r : Int) = some l' ∧ qs (l.map Wrd.v) (x : Int) (y : Int) (z : Int) (r : Int) = some (l'.map Wrd.v) ∧ l'.length = 16 ∧ okW l' := by
  obtain ⟨nx, ex, hnx⟩ := okW_nat hw x (by omega)
  obtain ⟨ny, ey, hny⟩ := okW_nat hw y (by omega)
  have hsum : IntKind.u32.wrap ((nx : Int) + (ny : Int)) = (((nx + ny) % 4294967296 : Nat) : Int) := by rw [wrap32]; omega
  have hlt : (nx + ny) % 4294967296 < 4294967296 := Nat.mod_lt _ (by decide)
  have hl1 : (l.set x (Wrd.mk (((nx + ny) % 4294967296 : Nat) : Int))).length = 16 := by rw [List.length_set]; exact hl
  have hw1 : okW (l.set x (Wrd.mk (((nx + ny) % 4294967296 : Nat) : Int))) := okW_set hw ⟨by show (0 : Int) ≤ (((nx + ny) % 4294967296 : Nat) : Int); omega, by show (((nx + ny) % 4294967296 : Nat) : Int) < _; omega⟩
  obtain ⟨nz, ez, hnz⟩ := okW_nat hw1 z (by omega)
  obtain ⟨nw, ew, hnw⟩ := okW_nat hw1 x (by omega)
  have hxor := Nat.xor_lt_two_pow (n := 32) hnz hnw
  have hrl := rotN_lt (n := r) (show nz ^^^ nw < 4294967296 from hxor)
  refine ⟨(l.set x (Wrd.mk (((nx + ny) % 4294967296 : Nat) : Int))).set z (Wrd.mk (rotN (nz ^^^ nw) r : Int)), ?_, ?_, by rw [List.length_set]; exact hl1, okW_set hw1 ⟨by show (0 : Int) ≤ (rotN (nz ^^^ nw) r : Int); omega, by show (rotN (nz ^^^ nw) r : Int) < _; omega⟩⟩
  · unfold qi
    simp only [idx_nat l x (by omega), idx_nat l y (by omega), Option.bind_some, ex, ey, hsum, Int.toNat_natCast, idx_nat _ z (by omega : z < (l.set x (Wrd.mk (((nx + ny) % 4294967296 : Nat) : Int))).length), idx_nat _ x (by omega : x < (l.set x (Wrd.mk (((nx + ny) % 4294967296 : Nat) : Int))).length), ez, ew, ixor32 hnz hnw, rot32_eq hxor hr]
  · unfold qs
    have m1 : idx (l.map Wrd.v) (x : Int) = some (nx : Int) := by rw [idx_nat _ x (by simp; omega)]; simp [ex]
    have m2 : idx (l.map Wrd.v) (y : Int) = some (ny : Int) := by rw [idx_nat _ y (by simp; omega)]; simp [ey]
    have m3 : IntKind.i64.wrap ((nx : Int) + (ny : Int)) = ((nx + ny : Nat) : Int) := by rw [wrap_ok (by omega) (by omega)]; omega
    have m4 : (l.map Wrd.v).set x (((nx + ny) % 4294967296 : Nat) : Int) = (l.set x (Wrd.mk (((nx + ny) % 4294967296 : Nat) : Int))).map Wrd.v := by rw [List.map_set]
    simp only [m1, m2, Option.bind_some, m3, l3Word_eq (show nx + ny < 2 ^ 63 by omega), Int.toNat_natCast, m4]
    have m5 : idx ((l.set x (Wrd.mk (((nx + ny) % 4294967296 : Nat) : Int))).map Wrd.v) (z : Int) = some (nz : Int) := by rw [idx_nat _ z (by simp; omega)]; simp only [List.getElem_map, ez]
    have m6 : idx ((l.set x (Wrd.mk (((nx + ny) % 4294967296 : Nat) : Int))).map Wrd.v) (x : Int) = some (nw : Int) := by rw [idx_nat _ x (by simp; omega)]; simp only [List.getElem_map, ew]
    simp only [m5, m6, Option.bind_some, ixor64 (show nz < 2 ^ 63 by omega) (show nw < 2 ^ 63 by omega), l3Left_eq hxor hr]
    exact congrArg some List.map_set.symm
theorem quarter_eq (l : List Wrd) (a b c d : Nat) (hl : l.length = 16) (hw : okW l) (ha : a < 16) (hb : b < 16) (hc : c < 16) (hd : d < 16) :
    ∃ l', impl_quarter l (a : Int) (b : Int) (c : Int) (d : Int) = some l' ∧ spec_l3Quarter (l.map Wrd.v) (a : Int) (b : Int) (c : Int) (d : Int) = some (l'.map Wrd.v) ∧ l'.length = 16 ∧ okW l' := by
  obtain ⟨l1, p1, q1, r1, w1⟩ := step_eq l a b d 16 hl hw ha hb hd (by omega)
  obtain ⟨l2, p2, q2, r2, w2⟩ := step_eq l1 c d b 12 r1 w1 hc hd hb (by omega)
  obtain ⟨l3, p3, q3, r3, w3⟩ := step_eq l2 a b d 8 r2 w2 ha hb hd (by omega)
  obtain ⟨l4, p4, q4, r4, w4⟩ := step_eq l3 c d b 7 r3 w3 hc hd hb (by omega)
  refine ⟨l4, ?_, ?_, r4, w4⟩
  · rw [impl_quarter_steps, show (16 : Int) = ((16 : Nat) : Int) from rfl, p1]
    simp only [Option.bind_some]
    rw [show (12 : Int) = ((12 : Nat) : Int) from rfl, p2]
    simp only [Option.bind_some]
    rw [show (8 : Int) = ((8 : Nat) : Int) from rfl, p3]
    simp only [Option.bind_some]
    exact p4
  · rw [spec_quarter_steps, show (16 : Int) = ((16 : Nat) : Int) from rfl, q1]
    simp only [Option.bind_some]
    rw [show (12 : Int) = ((12 : Nat) : Int) from rfl, q2]
    simp only [Option.bind_some]
    rw [show (8 : Int) = ((8 : Nat) : Int) from rfl, q3]
    simp only [Option.bind_some]
    exact q4

/-- sixteen words -/
def goodW (l : List Wrd) : Prop := l.length = 16 ∧ okW l
noncomputable def qv (l : List Wrd) (a b c d : Nat) : List Wrd := (impl_quarter l (a : Int) (b : Int) (c : Int) (d : Int)).getD []
theorem qv_ok {l : List Wrd} (h : goodW l) (a b c d : Nat) (ha : a < 16) (hb : b < 16) (hc : c < 16) (hd : d < 16) :
    impl_quarter l (a : Int) (b : Int) (c : Int) (d : Int) = some (qv l a b c d) ∧ spec_l3Quarter (l.map Wrd.v) (a : Int) (b : Int) (c : Int) (d : Int) = some ((qv l a b c d).map Wrd.v) ∧ goodW (qv l a b c d) := by
  obtain ⟨l', h1, h2, h3, h4⟩ := quarter_eq l a b c d h.1 h.2 ha hb hc hd
  unfold qv
  rw [h1, h2]
  exact ⟨rfl, rfl, h3, h4⟩
noncomputable def colW (l : List Wrd) : Nat → List Wrd
  | 0 => l
  | k + 1 => qv (colW l k) k (4 + k) (8 + k) (12 + k)
noncomputable def diagW (l : List Wrd) : Nat → List Wrd
  | 0 => l
  | k + 1 => qv (diagW l k) k (4 + (k + 1) % 4) (8 + (k + 2) % 4) (12 + (k + 3) % 4)
noncomputable def roundW (l : List Wrd) : List Wrd := diagW (colW l 4) 4
noncomputable def roundsW (l : List Wrd) : Nat → List Wrd
  | 0 => l
  | k + 1 => roundW (roundsW l k)
theorem colW_good {l : List Wrd} (h : goodW l) : ∀ k, k ≤ 4 → goodW (colW l k)
  | 0, _ => h
  | k + 1, hk => (qv_ok (colW_good h k (by omega)) k (4 + k) (8 + k) (12 + k) (by omega) (by omega) (by omega) (by omega)).2.2
theorem diagW_good {l : List Wrd} (h : goodW l) : ∀ k, k ≤ 4 → goodW (diagW l k)
  | 0, _ => h
  | k + 1, hk => (qv_ok (diagW_good h k (by omega)) k (4 + (k + 1) % 4) (8 + (k + 2) % 4) (12 + (k + 3) % 4) (by omega) (by omega) (by omega) (by omega)).2.2
theorem roundW_good {l : List Wrd} (h : goodW l) : goodW (roundW l) := diagW_good (colW_good h 4 (by omega)) 4 (by omega)
theorem roundsW_good {l : List Wrd} (h : goodW l) : ∀ k, goodW (roundsW l k)
  | 0 => h
  | k + 1 => roundW_good (roundsW_good h k)
theorem col_loop {ρ : Type} {l : List Wrd} (h : goodW l) : loopO (ρ := Ctl (List Wrd) ρ) (fun (S17 : Int × List Wrd) => if (decide (S17.1 < (4 : Int))) = true then ((impl_quarter S17.2 S17.1 (IntKind.i64.wrap ((4 : Int) + S17.1)) (IntKind.i64.wrap ((8 : Int) + S17.1)) (IntKind.i64.wrap ((12 : Int) + S17.1))).bind fun R22 =>
  some (.go (IntKind.i64.wrap (S17.1 + (1 : Int)), R22)))
  else (some (.done (.go S17.2))))
  ((0 : Int), l) = some (.go (colW l 4)) := by
  rw [loopO_count (fun k => ((k : Int), colW l k)) 4 (r := Ctl.go (colW l 4)) ?h0]
  case h0 => rfl
  · intro k hk
    have e4 : IntKind.i64.wrap ((4 : Int) + (k : Int)) = ((4 + k : Nat) : Int) := by rw [wrap_ok (by omega) (by omega)]; omega
    have e8 : IntKind.i64.wrap ((8 : Int) + (k : Int)) = ((8 + k : Nat) : Int) := by rw [wrap_ok (by omega) (by omega)]; omega
    have e12 : IntKind.i64.wrap ((12 : Int) + (k : Int)) = ((12 + k : Nat) : Int) := by rw [wrap_ok (by omega) (by omega)]; omega
    simp only [e4, e8, e12, (qv_ok (colW_good h k (by omega)) k (4 + k) (8 + k) (12 + k) (by omega) (by omega) (by omega) (by omega)).1, Option.bind_some]
    rw [if_pos (by simp only [decide_eq_true_eq]; omega), wrap_ok (by omega) (by omega)]
    rfl
  · simp
theorem diag_loop {ρ : Type} {l : List Wrd} (h : goodW l) : loopO (ρ := Ctl (List Wrd) ρ) (fun (S25 : Int × List Wrd) => if (decide (S25.1 < (4 : Int))) = true then ((impl_quarter S25.2 S25.1 (IntKind.i64.wrap ((4 : Int) + (Int.tmod (IntKind.i64.wrap (S25.1 + (1 : Int))) (4 : Int)))) (IntKind.i64.wrap ((8 : Int) + (Int.tmod (IntKind.i64.wrap (S25.1 + (2 : Int))) (4 : Int)))) (IntKind.i64.wrap ((12 : Int) + (Int.tmod (IntKind.i64.wrap (S25.1 + (3 : Int))) (4 : Int))))).bind fun R30 =>
  some (.go (IntKind.i64.wrap (S25.1 + (1 : Int)), R30)))
  else (some (.done (.go S25.2))))
  ((0 : Int), l) = some (.go (diagW l 4)) := by
  rw [loopO_count (fun k => ((k : Int), diagW l k)) 4 (r := Ctl.go (diagW l 4)) ?h0]
  case h0 => rfl
  · intro k hk
    have e : ∀ (a d : Nat), a ≤ 12 → d ≤ 3 → IntKind.i64.wrap ((a : Int) + (Int.tmod (IntKind.i64.wrap ((k : Int) + (d : Int))) (4 : Int))) = ((a + (k + d) % 4 : Nat) : Int) := by
      intro a d ha hd
      rw [wrap_ok (n := (k : Int) + (d : Int)) (by omega) (by omega), show (k : Int) + (d : Int) = ((k + d : Nat) : Int) by omega, show (4 : Int) = ((4 : Nat) : Int) from rfl, ← Int.ofNat_tmod, wrap_ok (by omega) (by omega)]
      omega
    have e4 : IntKind.i64.wrap ((4 : Int) + (Int.tmod (IntKind.i64.wrap ((k : Int) + (1 : Int))) (4 : Int))) = _ := e 4 1 (by omega) (by omega)
    have e8 : IntKind.i64.wrap ((8 : Int) + (Int.tmod (IntKind.i64.wrap ((k : Int) + (2 : Int))) (4 : Int))) = _ := e 8 2 (by omega) (by omega)
    have e12 : IntKind.i64.wrap ((12 : Int) + (Int.tmod (IntKind.i64.wrap ((k : Int) + (3 : Int))) (4 : Int))) = _ := e 12 3 (by omega) (by omega)
    simp only [e4, e8, e12, (qv_ok (diagW_good h k (by omega)) k (4 + (k + 1) % 4) (8 + (k + 2) % 4) (12 + (k + 3) % 4) (by omega) (by omega) (by omega) (by omega)).1, Option.bind_some]
    rw [if_pos (by simp only [decide_eq_true_eq]; omega), wrap_ok (by omega) (by omega)]
    rfl
  · simp
theorem spec_round {l : List Wrd} (h : goodW l) {β : Type} (f : List Int → Option β) : ((spec_l3Quarter (l.map Wrd.v) (0 : Int) (4 : Int) (8 : Int) (12 : Int)).bind fun R36 =>
  (spec_l3Quarter R36 (1 : Int) (5 : Int) (9 : Int) (13 : Int)).bind fun R39 =>
  (spec_l3Quarter R39 (2 : Int) (6 : Int) (10 : Int) (14 : Int)).bind fun R42 =>
  (spec_l3Quarter R42 (3 : Int) (7 : Int) (11 : Int) (15 : Int)).bind fun R45 =>
  (spec_l3Quarter R45 (0 : Int) (5 : Int) (10 : Int) (15 : Int)).bind fun R48 =>
  (spec_l3Quarter R48 (1 : Int) (6 : Int) (11 : Int) (12 : Int)).bind fun R51 =>
  (spec_l3Quarter R51 (2 : Int) (7 : Int) (8 : Int) (13 : Int)).bind fun R54 =>
  (spec_l3Quarter R54 (3 : Int) (4 : Int) (9 : Int) (14 : Int)).bind fun R57 => f R57) = f ((roundW l).map Wrd.v) := by
  have c0 : spec_l3Quarter (l.map Wrd.v) (0 : Int) (4 : Int) (8 : Int) (12 : Int) = some ((colW l 1).map Wrd.v) := (qv_ok h 0 4 8 12 (by omega) (by omega) (by omega) (by omega)).2.1
  have c1 : spec_l3Quarter ((colW l 1).map Wrd.v) (1 : Int) (5 : Int) (9 : Int) (13 : Int) = some ((colW l 2).map Wrd.v) := (qv_ok (colW_good h 1 (by omega)) 1 5 9 13 (by omega) (by omega) (by omega) (by omega)).2.1
  have c2 : spec_l3Quarter ((colW l 2).map Wrd.v) (2 : Int) (6 : Int) (10 : Int) (14 : Int) = some ((colW l 3).map Wrd.v) := (qv_ok (colW_good h 2 (by omega)) 2 6 10 14 (by omega) (by omega) (by omega) (by omega)).2.1
  have c3 : spec_l3Quarter ((colW l 3).map Wrd.v) (3 : Int) (7 : Int) (11 : Int) (15 : Int) = some ((colW l 4).map Wrd.v) := (qv_ok (colW_good h 3 (by omega)) 3 7 11 15 (by omega) (by omega) (by omega) (by omega)).2.1
  have g := colW_good h 4 (by omega)
  have d0 : spec_l3Quarter ((colW l 4).map Wrd.v) (0 : Int) (5 : Int) (10 : Int) (15 : Int) = some ((diagW (colW l 4) 1).map Wrd.v) := (qv_ok g 0 5 10 15 (by omega) (by omega) (by omega) (by omega)).2.1
  have d1 : spec_l3Quarter ((diagW (colW l 4) 1).map Wrd.v) (1 : Int) (6 : Int) (11 : Int) (12 : Int) = some ((diagW (colW l 4) 2).map Wrd.v) := (qv_ok (diagW_good g 1 (by omega)) 1 6 11 12 (by omega) (by omega) (by omega) (by omega)).2.1
  have d2 : spec_l3Quarter ((diagW (colW l 4) 2).map Wrd.v) (2 : Int) (7 : Int) (8 : Int) (13 : Int) = some ((diagW (colW l 4) 3).map Wrd.v) := (qv_ok (diagW_good g 2 (by omega)) 2 7 8 13 (by omega) (by omega) (by omega) (by omega)).2.1
  have d3 : spec_l3Quarter ((diagW (colW l 4) 3).map Wrd.v) (3 : Int) (4 : Int) (9 : Int) (14 : Int) = some ((diagW (colW l 4) 4).map Wrd.v) := (qv_ok (diagW_good g 3 (by omega)) 3 4 9 14 (by omega) (by omega) (by omega) (by omega)).2.1
  simp only [c0, c1, c2, c3, d0, d1, d2, d3, Option.bind_some]
  rfl
/-- the words of a string -/
noncomputable def kN (s : List UInt8) (i : Nat) : Nat := ((spec_l3Little s ((4 * i : Nat) : Int)).getD 0).toNat
theorem kN_ok (s : List UInt8) (i : Nat) (h : 4 * i + 3 < s.length) (hs : s.length ≤ 1048576) : spec_l3Little s ((4 * i : Nat) : Int) = some (kN s i : Int) ∧ impl_little s ((4 * i : Nat) : Int) = some (kN s i : Int) ∧ kN s i < 4294967296 := by
  obtain ⟨n, h1, h2, h3⟩ := little_some s (4 * i) h hs
  have e : kN s i = n := by unfold kN; rw [h1]; rfl
  rw [e]
  exact ⟨h1, h2, h3⟩
noncomputable def selW (k : Nat) (i : Nat) (n : Nat) : Wrd := bif Nat.blt i k then Wrd.mk (n : Int) else Wrd.mk 0
noncomputable def firstK (key : List UInt8) (k : Nat) : List Wrd := [Wrd.mk 1634760805, Wrd.mk 857760878, Wrd.mk 2036477234, Wrd.mk 1797285236, selW k 0 (kN key 0), selW k 1 (kN key 1), selW k 2 (kN key 2), selW k 3 (kN key 3), selW k 4 (kN key 4), selW k 5 (kN key 5), selW k 6 (kN key 6), selW k 7 (kN key 7), Wrd.mk 0, Wrd.mk 0, Wrd.mk 0, Wrd.mk 0]
noncomputable def firstN (key : List UInt8) (counter : Int) (nonce : List UInt8) (k : Nat) : List Wrd := [Wrd.mk 1634760805, Wrd.mk 857760878, Wrd.mk 2036477234, Wrd.mk 1797285236, Wrd.mk (kN key 0 : Int), Wrd.mk (kN key 1 : Int), Wrd.mk (kN key 2 : Int), Wrd.mk (kN key 3 : Int), Wrd.mk (kN key 4 : Int), Wrd.mk (kN key 5 : Int), Wrd.mk (kN key 6 : Int), Wrd.mk (kN key 7 : Int), Wrd.mk counter, selW k 0 (kN nonce 0), selW k 1 (kN nonce 1), selW k 2 (kN nonce 2)]
theorem firstWords_eq (key : List UInt8) (counter : Int) (nonce : List UInt8) (hk : key.length = 32) (hc : 0 ≤ counter ∧ counter ≤ 4294967295) (hn : nonce.length = 12) : impl_firstWords key counter nonce = some (firstN key counter nonce 3) := by
  unfold impl_firstWords
  have hw : IntKind.u32.wrap counter = counter := by rw [wrap32]; omega
  have hl : ∀ l : List Wrd, l.length = 16 → lenIs 16 l = some () := fun l h => by unfold lenIs; rw [if_pos h]
  rw [hl _ rfl]
  simp only [Option.bind_some]
  rw [loopO_count (fun k => ((k : Int), firstK key k)) 8 (r := Ctl.go (firstK key 8)) ?h0]
  case h0 => rfl
  · simp only [bindC_go]
    rw [show (12 : Int) = ((12 : Nat) : Int) from rfl, idx_nat (firstK key 8) 12 (by show 12 < 16; omega)]
    simp only [Option.bind_some, Int.toNat_natCast, hw]
    rw [loopO_count (fun k => ((k : Int), firstN key counter nonce k)) 3 (r := Ctl.go (firstN key counter nonce 3)) ?h1]
    case h1 => rfl
    · simp only [bindC_go]
      rw [hl _ rfl]
      rfl
    · intro k h3
      have e4 : IntKind.i64.wrap ((4 : Int) * (k : Int)) = ((4 * k : Nat) : Int) := by rw [wrap_ok (by omega) (by omega)]; omega
      have e13 : IntKind.i64.wrap ((13 : Int) + (k : Int)) = ((13 + k : Nat) : Int) := by rw [wrap_ok (by omega) (by omega)]; omega
      simp only [e4, e13, (kN_ok nonce k (by omega) (by omega)).2.1, Option.bind_some, idx_nat (firstN key counter nonce k) (13 + k) (by show 13 + k < 16; omega), Int.toNat_natCast]
      rw [if_pos (by simp only [decide_eq_true_eq]; omega), wrap_ok (by omega) (by omega)]
      have h4 : k = 0 ∨ k = 1 ∨ k = 2 := by omega
      rcases h4 with rfl | rfl | rfl <;> rfl
    · rfl
  · intro k h8
    have e4 : IntKind.i64.wrap ((4 : Int) * (k : Int)) = ((4 * k : Nat) : Int) := by rw [wrap_ok (by omega) (by omega)]; omega
    have e44 : IntKind.i64.wrap ((4 : Int) + (k : Int)) = ((4 + k : Nat) : Int) := by rw [wrap_ok (by omega) (by omega)]; omega
    simp only [e4, e44, (kN_ok key k (by omega) (by omega)).2.1, Option.bind_some, idx_nat (firstK key k) (4 + k) (by show 4 + k < 16; omega), Int.toNat_natCast]
    rw [if_pos (by simp only [decide_eq_true_eq]; omega), wrap_ok (by omega) (by omega)]
    have h4 : k = 0 ∨ k = 1 ∨ k = 2 ∨ k = 3 ∨ k = 4 ∨ k = 5 ∨ k = 6 ∨ k = 7 := by omega
    rcases h4 with rfl | rfl | rfl | rfl | rfl | rfl | rfl | rfl <;> rfl
  · rfl
theorem firstN_good (key : List UInt8) (counter : Int) (nonce : List UInt8) (hk : key.length = 32) (hc : 0 ≤ counter ∧ counter ≤ 4294967295) (hn : nonce.length = 12) : goodW (firstN key counter nonce 3) := by
  refine ⟨rfl, ?_⟩
  have a : ∀ i, i < 8 → kN key i < 4294967296 := fun i hi => (kN_ok key i (by omega) (by omega)).2.2
  have b : ∀ i, i < 3 → kN nonce i < 4294967296 := fun i hi => (kN_ok nonce i (by omega) (by omega)).2.2
  have a0 := a 0 (by omega)
  have a1 := a 1 (by omega)
  have a2 := a 2 (by omega)
  have a3 := a 3 (by omega)
  have a4 := a 4 (by omega)
  have a5 := a 5 (by omega)
  have a6 := a 6 (by omega)
  have a7 := a 7 (by omega)
  have b0 := b 0 (by omega)
  have b1 := b 1 (by omega)
  have b2 := b 2 (by omega)
  have s0 : selW 3 0 (kN nonce 0) = Wrd.mk (kN nonce 0 : Int) := rfl
  have s1 : selW 3 1 (kN nonce 1) = Wrd.mk (kN nonce 1 : Int) := rfl
  have s2 : selW 3 2 (kN nonce 2) = Wrd.mk (kN nonce 2 : Int) := rfl
  intro x hx
  unfold firstN at hx
  rw [s0, s1, s2] at hx
  simp only [List.mem_cons, List.not_mem_nil, or_false] at hx
  rcases hx with rfl | rfl | rfl | rfl | rfl | rfl | rfl | rfl | rfl | rfl | rfl | rfl | rfl | rfl | rfl | rfl <;> simp only <;> omega
def bytes4 (n : Nat) : List UInt8 := [toU8 (n : Int), toU8 ((n / 256 : Nat) : Int), toU8 ((n / 65536 : Nat) : Int), toU8 ((n / 16777216 : Nat) : Int)]
/-- the bytes of the first k words -/
noncomputable def outW (w s : List Wrd) : Nat → List UInt8
  | 0 => []
  | k + 1 => outW w s k ++ (match w[k]?, s[k]? with | some x, some y => bytes4 ((x.v + y.v).toNat % 4294967296) | _, _ => [])
theorem outW_succ (w s : List Wrd) (k : Nat) (hw : k < w.length) (hs : k < s.length) : outW w s (k + 1) = outW w s k ++ bytes4 ((w[k].v + s[k].v).toNat % 4294967296) := by
  show outW w s k ++ (match w[k]?, s[k]? with | some x, some y => _ | _, _ => _) = _
  rw [List.getElem?_eq_getElem hw, List.getElem?_eq_getElem hs]
theorem outW_len (w s : List Wrd) (hw : w.length = 16) (hs : s.length = 16) : ∀ k, k ≤ 16 → (outW w s k).length = 4 * k
  | 0, _ => rfl
  | k + 1, hk => by
    rw [outW_succ w s k (by omega) (by omega), List.length_append, outW_len w s hw hs k (by omega)]
    show 4 * k + 4 = _
    omega
theorem toU8_mod (n : Nat) : toU8 ((n % 256 : Nat) : Int) = toU8 (n : Int) := by
  unfold toU8
  congr 1
  omega
noncomputable def chaR (key : List UInt8) (counter : Int) (nonce : List UInt8) : List UInt8 := outW (roundsW (firstN key counter nonce 3) 10) (firstN key counter nonce 3) 16
def chaOk (key : List UInt8) (counter : Int) (nonce : List UInt8) : Bool := decide (key.length = 32) && (decide (nonce.length = 12) && decide (0 ≤ counter ∧ counter ≤ 4294967295))
noncomputable def chaV (key : List UInt8) (counter : Int) (nonce : List UInt8) : List UInt8 := bif chaOk key counter nonce then chaR key counter nonce else []
theorem chaOk_iff {key : List UInt8} {counter : Int} {nonce : List UInt8} (h : chaOk key counter nonce = true) : key.length = 32 ∧ nonce.length = 12 ∧ 0 ≤ counter ∧ counter ≤ 4294967295 := by
  unfold chaOk at h
  simp only [Bool.and_eq_true, decide_eq_true_eq] at h
  exact h
theorem chaV_len (key : List UInt8) (counter : Int) (nonce : List UInt8) (h : chaOk key counter nonce = true) : (chaV key counter nonce).length = 64 := by
  obtain ⟨h1, h2, h3⟩ := chaOk_iff h
  have g := firstN_good key counter nonce h1 h3 h2
  unfold chaV chaR
  rw [h]
  exact outW_len _ _ (roundsW_good g 10).1 g.1 16 (Nat.le_refl _)
theorem impl_isCha_eq (key : List UInt8) (counter : Int) (nonce : List UInt8) : impl_isCha key counter nonce = some (chaOk key counter nonce) := by
  unfold impl_isCha chaOk
  have e1 : decide (((key.length : Nat) : Int) = 32) = decide (key.length = 32) := decide_eq_decide.2 (by omega)
  have e2 : decide (((nonce.length : Nat) : Int) = 12) = decide (nonce.length = 12) := decide_eq_decide.2 (by omega)
  rw [e1, e2, inRange_eq]
  cases decide (key.length = 32) <;> cases decide (nonce.length = 12) <;> cases decide (0 ≤ counter ∧ counter ≤ 4294967295) <;> rfl
theorem impl_ChaBlock_eq (key : List UInt8) (counter : Int) (nonce : List UInt8) : impl_ChaBlock key counter nonce = some (chaV key counter nonce) := by
  unfold impl_ChaBlock chaV
  rw [impl_isCha_eq]
  cases hok : chaOk key counter nonce with
  | false => rfl
  | true =>
    obtain ⟨h1, h2, h3⟩ := chaOk_iff hok
    have g := firstN_good key counter nonce h1 h3 h2
    have hl : ∀ l : List Wrd, l.length = 16 → lenIs 16 l = some () := fun l h => by unfold lenIs; rw [if_pos h]
    simp only [Option.bind_some, Bool.not_true, Bool.false_eq_true, if_false, cond_true, firstWords_eq key counter nonce h1 h3 h2, hl _ g.1]
    unfold chaR
    generalize firstN key counter nonce 3 = s at g
    rw [loopO_count (fun k => ((k : Int), roundsW s k)) 10 (r := Ctl.go (roundsW s 10)) ?h0]
    case h0 => rfl
    · have gw := roundsW_good g 10
      simp only [bindC_go, show mkLen 1 (64 : Int) = some 64 from rfl, Option.bind_some]
      rw [loopO_count (fun k => ((k : Int), outW (roundsW s 10) s k)) 16 (r := Ctl.go (outW (roundsW s 10) s 16)) ?h1]
      case h1 => rfl
      · rfl
      · intro k hk
        obtain ⟨n, en, hn⟩ := okW_nat gw.2 k (by rw [gw.1]; exact hk)
        obtain ⟨m, em, hm⟩ := okW_nat g.2 k (by rw [g.1]; exact hk)
        have ho := outW_len (roundsW s 10) s gw.1 g.1 k (by omega)
        simp only [hl _ gw.1, idx_nat (roundsW s 10) k (by rw [gw.1]; exact hk), idx_nat s k (by rw [g.1]; exact hk), Option.bind_some, en, em]
        have e0 : IntKind.u32.wrap ((n : Int) + (m : Int)) = (((n + m) % 4294967296 : Nat) : Int) := by rw [wrap32]; omega
        rw [e0, show (8 : Int) = ((8 : Nat) : Int) from rfl, show (24 : Int) = ((24 : Nat) : Int) from rfl, ishr_nat (by decide), ishr_nat (by decide)]
        rw [show ishr .u32 (((n + m) % 4294967296 : Nat) : Int) (16 : Int) = _ from ishr_nat (n := 16) (by decide)]
        rw [if_pos (by simp only [decide_eq_true_eq]; omega), wrap_ok (by omega) (by omega), app_ok (by rw [ho]; simp; omega) (by rw [ho]; simp; omega)]
        simp only [Option.bind_some]
        rw [outW_succ _ _ k (by rw [gw.1]; exact hk) (by rw [g.1]; exact hk), en, em]
        rfl
      · simp
    · intro k hk
      have gk := roundsW_good g k
      simp only [col_loop gk, bindC_go, diag_loop (colW_good gk 4 (by omega))]
      rw [if_pos (by simp only [decide_eq_true_eq]; omega), wrap_ok (by omega) (by omega)]
      rfl
    · simp
theorem bind_of {α β : Type} {x : Option α} {a : α} {f : α → Option β} {r : Option β} (h : x = some a) (h2 : f a = r) : x.bind f = r := by rw [h]; exact h2
theorem spec_ChaBlock_eq (key : List UInt8) (counter : Int) (nonce : List UInt8) : spec_ChaBlock key counter nonce = some (chaV key counter nonce) := by
  unfold spec_ChaBlock chaV
  have e1 : decide (((key.length : Nat) : Int) = 32) = decide (key.length = 32) := decide_eq_decide.2 (by omega)
  have e2 : decide (((nonce.length : Nat) : Int) = 12) = decide (nonce.length = 12) := decide_eq_decide.2 (by omega)
  rw [e1, e2, l1In_eq]
  cases hok : chaOk key counter nonce with
  | false =>
    unfold chaOk at hok
    cases a1 : decide (key.length = 32) with
    | false => rfl
    | true =>
      cases a2 : decide (nonce.length = 12) with
      | false => rfl
      | true =>
        rw [a1, a2] at hok
        cases a3 : decide (0 ≤ counter ∧ counter ≤ 4294967295) with
        | false => rfl
        | true => rw [a3] at hok; cases hok
  | true =>
    obtain ⟨h1, h2, h3⟩ := chaOk_iff hok
    have g := firstN_good key counter nonce h1 h3 h2
    rw [decide_eq_true h1, decide_eq_true h2, decide_eq_true h3]
    simp only [Option.bind_some, Bool.not_true, Bool.false_eq_true, if_false, cond_true]
    unfold spec_l3Block chaR
    rw [loopO_count (fun k => ((k : Int), ((firstN key counter nonce 3).map Wrd.v).take (4 + k))) 8 (r := Ctl.go (((firstN key counter nonce 3).map Wrd.v).take 12)) ?h0]
    case h0 => rfl
    · have n0 : spec_l3Little nonce (0 : Int) = some (kN nonce 0 : Int) := (kN_ok nonce 0 (by omega) (by omega)).1
      have n1 : spec_l3Little nonce (4 : Int) = some (kN nonce 1 : Int) := (kN_ok nonce 1 (by omega) (by omega)).1
      have n2 : spec_l3Little nonce (8 : Int) = some (kN nonce 2 : Int) := (kN_ok nonce 2 (by omega) (by omega)).1
      have t1 : app 8 (((firstN key counter nonce 3).map Wrd.v).take 12) [counter, (kN nonce 0 : Int), (kN nonce 1 : Int), (kN nonce 2 : Int)] = some ((firstN key counter nonce 3).map Wrd.v) := by
        rw [app_ok (by show (12 + 4) * 8 ≤ _; omega) (by show 12 + 4 ≤ _; omega)]
        unfold firstN
        generalize kN nonce 0 = x0
        generalize kN nonce 1 = x1
        generalize kN nonce 2 = x2
        generalize kN key 0 = y0
        generalize kN key 1 = y1
        generalize kN key 2 = y2
        generalize kN key 3 = y3
        generalize kN key 4 = y4
        generalize kN key 5 = y5
        generalize kN key 6 = y6
        generalize kN key 7 = y7
        rfl
      have t2 : app 8 ([] : List Int) ((firstN key counter nonce 3).map Wrd.v) = some ((firstN key counter nonce 3).map Wrd.v) := by
        rw [app_ok (by show (0 + 16) * 8 ≤ _; omega) (by show 0 + 16 ≤ _; omega)]
        rfl
      simp only [bindC_go, n0, n1, n2, Option.bind_some, t1, t2]
      generalize firstN key counter nonce 3 = s at g
      rw [loopO_count (fun k => ((k : Int), (roundsW s k).map Wrd.v)) 10 (r := Ctl.go ((roundsW s 10).map Wrd.v)) ?h1]
      case h1 => rfl
      · have gw := roundsW_good g 10
        simp only [bindC_go]
        generalize roundsW s 10 = w at gw
        rw [loopO_count (fun k => ((k : Int), outW (w) s k)) 16 (r := Ctl.go (outW (w) s 16)) ?h2]
        case h2 => rfl
        · rfl
        · intro k hk
          have hkw : k < (w).length := by rw [gw.1]; exact hk
          have hks : k < s.length := by rw [g.1]; exact hk
          obtain ⟨n, en, hn⟩ := okW_nat gw.2 k hkw
          obtain ⟨m, em, hm⟩ := okW_nat g.2 k hks
          have ho := outW_len (w) s gw.1 g.1 k (by omega)
          have i1 : idx ((w).map Wrd.v) (k : Int) = some (n : Int) := by rw [idx_nat _ k (by simpa using hkw)]; simp only [List.getElem_map, en]
          have i2 : idx (s.map Wrd.v) (k : Int) = some (m : Int) := by rw [idx_nat _ k (by simpa using hks)]; simp only [List.getElem_map, em]
          have e0 : IntKind.i64.wrap ((n : Int) + (m : Int)) = ((n + m : Nat) : Int) := by rw [wrap_ok (by omega) (by omega)]; omega
          have hx : (n + m) % 4294967296 < 4294967296 := Nat.mod_lt _ (by decide)
          have hw : spec_l3Word (IntKind.i64.wrap ((n : Int) + (m : Int))) = some (((n + m) % 4294967296 : Nat) : Int) := by rw [e0]; exact l3Word_eq (by omega)
          generalize hxe : (n + m) % 4294967296 = x at hx hw
          rw [if_pos (by simp only [decide_eq_true_eq]; omega)]
          refine bind_of i1 (bind_of i2 (bind_of hw ?_))
          have a0 : toU8 (iand .i64 (x : Int) (255 : Int)) = toU8 (x : Int) := by
            rw [show (255 : Int) = ((255 : Nat) : Int) from rfl, iand64 (by omega) (by decide), show x &&& 255 = x % 256 from Nat.and_two_pow_sub_one_eq_mod x 8, toU8_mod]
          have a1 : toU8 (iand .i64 (ishr .i64 (x : Int) (8 : Int)) (255 : Int)) = toU8 ((x / 256 : Nat) : Int) := by
            rw [show ishr .i64 (x : Int) (8 : Int) = ((x / 256 : Nat) : Int) from ishr_nat (n := 8) (by decide), show (255 : Int) = ((255 : Nat) : Int) from rfl, iand64 (by omega) (by decide), show x / 256 &&& 255 = x / 256 % 256 from Nat.and_two_pow_sub_one_eq_mod _ 8, toU8_mod]
          have a2 : toU8 (iand .i64 (ishr .i64 (x : Int) (16 : Int)) (255 : Int)) = toU8 ((x / 65536 : Nat) : Int) := by
            rw [show ishr .i64 (x : Int) (16 : Int) = ((x / 65536 : Nat) : Int) from ishr_nat (n := 16) (by decide), show (255 : Int) = ((255 : Nat) : Int) from rfl, iand64 (by omega) (by decide), show x / 65536 &&& 255 = x / 65536 % 256 from Nat.and_two_pow_sub_one_eq_mod _ 8, toU8_mod]
          have a3 : ishr .i64 (x : Int) (24 : Int) = ((x / 16777216 : Nat) : Int) := ishr_nat (n := 24) (by decide)
          rw [a0, a1, a2, a3, wrap_ok (by omega) (by omega), app_ok (by rw [ho]; simp; omega) (by rw [ho]; simp; omega)]
          simp only [Option.bind_some]
          rw [outW_succ _ _ k hkw hks, en, em, show ((n : Int) + (m : Int)).toNat = n + m by omega, hxe]
          rfl
        · simp
      · intro k hk
        simp only
        rw [if_pos (by simp only [decide_eq_true_eq]; omega), wrap_ok (n := (k : Int) + 1) (by omega) (by omega)]
        exact spec_round (roundsW_good g k) (fun R57 => some (Ctl.go ((k : Int) + 1, R57)))
      · simp
    · intro k hk
      have e4 : IntKind.i64.wrap ((4 : Int) * (k : Int)) = ((4 * k : Nat) : Int) := by rw [wrap_ok (by omega) (by omega)]; omega
      simp only [e4, (kN_ok key k (by omega) (by omega)).1, Option.bind_some]
      rw [if_pos (by simp only [decide_eq_true_eq]; omega), wrap_ok (by omega) (by omega), app_ok (by rw [List.length_take]; simp; omega) (by rw [List.length_take]; simp; omega)]
      have h4 : k = 0 ∨ k = 1 ∨ k = 2 ∨ k = 3 ∨ k = 4 ∨ k = 5 ∨ k = 6 ∨ k = 7 := by omega
      unfold firstN
      rcases h4 with rfl | rfl | rfl | rfl | rfl | rfl | rfl | rfl
      · generalize kN nonce 0 = x0
        generalize kN nonce 1 = x1
        generalize kN nonce 2 = x2
        generalize kN key 0 = y0
        generalize kN key 1 = y1
        generalize kN key 2 = y2
        generalize kN key 3 = y3
        generalize kN key 4 = y4
        generalize kN key 5 = y5
        generalize kN key 6 = y6
        generalize kN key 7 = y7
        rfl
      · generalize kN nonce 0 = x0
        generalize kN nonce 1 = x1
        generalize kN nonce 2 = x2
        generalize kN key 0 = y0
        generalize kN key 1 = y1
        generalize kN key 2 = y2
        generalize kN key 3 = y3
        generalize kN key 4 = y4
        generalize kN key 5 = y5
        generalize kN key 6 = y6
        generalize kN key 7 = y7
        rfl
      · generalize kN nonce 0 = x0
        generalize kN nonce 1 = x1
        generalize kN nonce 2 = x2
        generalize kN key 0 = y0
        generalize kN key 1 = y1
        generalize kN key 2 = y2
        generalize kN key 3 = y3
        generalize kN key 4 = y4
        generalize kN key 5 = y5
        generalize kN key 6 = y6
        generalize kN key 7 = y7
        rfl
      · generalize kN nonce 0 = x0
        generalize kN nonce 1 = x1
        generalize kN nonce 2 = x2
        generalize kN key 0 = y0
        generalize kN key 1 = y1
        generalize kN key 2 = y2
        generalize kN key 3 = y3
        generalize kN key 4 = y4
        generalize kN key 5 = y5
        generalize kN key 6 = y6
        generalize kN key 7 = y7
        rfl
      · generalize kN nonce 0 = x0
        generalize kN nonce 1 = x1
        generalize kN nonce 2 = x2
        generalize kN key 0 = y0
        generalize kN key 1 = y1
        generalize kN key 2 = y2
        generalize kN key 3 = y3
        generalize kN key 4 = y4
        generalize kN key 5 = y5
        generalize kN key 6 = y6
        generalize kN key 7 = y7
        rfl
      · generalize kN nonce 0 = x0
        generalize kN nonce 1 = x1
        generalize kN nonce 2 = x2
        generalize kN key 0 = y0
        generalize kN key 1 = y1
        generalize kN key 2 = y2
        generalize kN key 3 = y3
        generalize kN key 4 = y4
        generalize kN key 5 = y5
        generalize kN key 6 = y6
        generalize kN key 7 = y7
        rfl
      · generalize kN nonce 0 = x0
        generalize kN nonce 1 = x1
        generalize kN nonce 2 = x2
        generalize kN key 0 = y0
        generalize kN key 1 = y1
        generalize kN key 2 = y2
        generalize kN key 3 = y3
        generalize kN key 4 = y4
        generalize kN key 5 = y5
        generalize kN key 6 = y6
        generalize kN key 7 = y7
        rfl
      · generalize kN nonce 0 = x0
        generalize kN nonce 1 = x1
        generalize kN nonce 2 = x2
        generalize kN key 0 = y0
        generalize kN key 1 = y1
        generalize kN key 2 = y2
        generalize kN key 3 = y3
        generalize kN key 4 = y4
        generalize kN key 5 = y5
        generalize kN key 6 = y6
        generalize kN key 7 = y7
        rfl
    · simp

/-- bytes of a number, the highest first -/
def fixV (n : Nat) : Nat → List UInt8
  | 0 => []
  | j + 1 => toU8 ((n / 256 ^ j : Nat) : Int) :: fixV n j
theorem fixV_len (n : Nat) : ∀ j, (fixV n j).length = j
  | 0 => rfl
  | j + 1 => by rw [fixV, List.length_cons, fixV_len n j]
theorem div_pow_succ (n b j : Nat) : n / b ^ j / b = n / b ^ (j + 1) := by rw [Nat.div_div_eq_div_mul, Nat.pow_succ]
def fixedV (n w : Int) : List UInt8 := bif decide (1 ≤ w ∧ w ≤ 7) && (decide (0 ≤ n) && decide (n.toNat / 256 ^ w.toNat = 0)) then fixV n.toNat w.toNat else []
theorem spec_Fixed_eq (n w : Int) (hn : n ≤ 4611686018427387904) : spec_Fixed n w = some (fixedV n w) := by
  unfold spec_Fixed fixedV
  rw [l1In_eq]
  by_cases h1 : 1 ≤ w ∧ w ≤ 7
  · rw [decide_eq_true h1]
    by_cases h2 : 0 ≤ n
    · obtain ⟨m, rfl⟩ : ∃ m : Nat, n = (m : Int) := ⟨n.toNat, by omega⟩
      obtain ⟨u, rfl⟩ : ∃ u : Nat, w = (u : Int) := ⟨w.toNat, by omega⟩
      rw [decide_eq_true h2, decide_eq_false (by omega : ¬ (m : Int) < 0)]
      simp only [Option.bind_some, Bool.not_true, Bool.false_eq_true, if_false, Int.toNat_natCast]
      rw [loopO_count (fun j => (((m / 256 ^ j : Nat) : Int), fixV m j, (j : Int))) u (r := Ctl.go (((m / 256 ^ u : Nat) : Int), fixV m u)) ?h0]
      case h0 => simp [fixV]
      · simp only [bindC_go]
        by_cases h3 : m / 256 ^ u = 0
        · rw [decide_eq_true h3, decide_eq_false (by rw [h3]; decide : ¬ ((m / 256 ^ u : Nat) : Int) > 0)]; rfl
        · have h4 : ((m / 256 ^ u : Nat) : Int) > 0 := Int.ofNat_lt.2 (Nat.pos_of_ne_zero h3)
          rw [decide_eq_false h3, decide_eq_true h4]; rfl
      · intro j hj
        have e1 : Int.tmod ((m / 256 ^ j : Nat) : Int) (256 : Int) = ((m / 256 ^ j % 256 : Nat) : Int) := by rw [show (256 : Int) = ((256 : Nat) : Int) from rfl, ← Int.ofNat_tmod]
        have e2 : Int.tdiv ((m / 256 ^ j : Nat) : Int) (256 : Int) = ((m / 256 ^ (j + 1) : Nat) : Int) := by rw [show (256 : Int) = ((256 : Nat) : Int) from rfl, ← Int.ofNat_tdiv, div_pow_succ]
        have e3 : ((m / 256 ^ (j + 1) : Nat) : Int) ≤ (m : Int) := Int.ofNat_le.2 (Nat.div_le_self _ _)
        have e4 : (0 : Int) ≤ ((m / 256 ^ (j + 1) : Nat) : Int) := Int.natCast_nonneg _
        have hl := fixV_len m j
        simp only [e1, e2, toU8_mod]
        rw [if_pos (by simp only [decide_eq_true_eq]; omega), wrap_ok (n := (j : Int) + 1) (by omega) (by omega), wrap_ok (by omega) (by omega)]
        rw [cat_ok (by rw [hl]; simp; omega)]
        rfl
      · simp
    · rw [decide_eq_false h2, decide_eq_true (by omega : n < 0)]
      rfl
  · rw [decide_eq_false h1]
    rfl
theorem impl_Fixed_eq (n w : Int) (hn : n ≤ 4611686018427387904) : impl_Fixed n w = some (fixedV n w) := by
  unfold impl_Fixed fixedV
  rw [inRange_eq]
  by_cases h1 : 1 ≤ w ∧ w ≤ 7
  · rw [decide_eq_true h1]
    by_cases h2 : 0 ≤ n
    · obtain ⟨m, rfl⟩ : ∃ m : Nat, n = (m : Int) := ⟨n.toNat, by omega⟩
      obtain ⟨u, rfl⟩ : ∃ u : Nat, w = (u : Int) := ⟨w.toNat, by omega⟩
      have e0 : IntKind.u64.wrap (IntKind.i64.wrap ((8 : Int) * (u : Int))) = ((8 * u : Nat) : Int) := by rw [wrap_ok (by omega) (by omega), wrap64u]; omega
      have e5 : ishr .i64 (m : Int) ((8 * u : Nat) : Int) = ((m / 256 ^ u : Nat) : Int) := by
        rw [ishr_nat (by show 8 * u ≤ 64; omega), Nat.pow_mul]
      have e6 : decide (((m / 256 ^ u : Nat) : Int) = 0) = decide (m / 256 ^ u = 0) := decide_eq_decide.2 (by omega)
      rw [decide_eq_true h2, decide_eq_false (by omega : ¬ (m : Int) < 0)]
      simp only [Option.bind_some, Bool.not_true, Bool.false_eq_true, if_false, Int.toNat_natCast, e0, e5, e6]
      by_cases h3 : m / 256 ^ u = 0
      · rw [decide_eq_true h3]
        simp only [Bool.not_true, Bool.false_eq_true, if_false, Bool.true_and, cond_true]
        rw [mkLen_ok (by omega) (by omega)]
        simp only [Option.bind_some]
        rw [loopO_count (fun j => (((m / 256 ^ j : Nat) : Int), (u : Int) - 1 - (j : Int), List.replicate (u - j) (0 : UInt8) ++ fixV m j)) u (r := Ctl.go (fixV m u)) ?h0]
        case h0 => rw [wrap_ok (by omega) (by omega)]; simp [fixV]
        · rfl
        · intro j hj
          have e1 : ishr .i64 ((m / 256 ^ j : Nat) : Int) (8 : Int) = ((m / 256 ^ (j + 1) : Nat) : Int) := by
            rw [show ishr .i64 ((m / 256 ^ j : Nat) : Int) (8 : Int) = ((m / 256 ^ j / 256 : Nat) : Int) from ishr_nat (n := 8) (by decide), div_pow_succ]
          have hl := fixV_len m j
          have hi : (u : Int) - 1 - (j : Int) = ((u - 1 - j : Nat) : Int) := by omega
          have hlen : u - 1 - j < (List.replicate (u - j) (0 : UInt8) ++ fixV m j).length := by simp; omega
          have hset : (List.replicate (u - j) (0 : UInt8) ++ fixV m j).set (u - 1 - j) (toU8 ((m / 256 ^ j : Nat) : Int)) = List.replicate (u - (j + 1)) (0 : UInt8) ++ fixV m (j + 1) := by
            rw [show u - j = (u - (j + 1)) + 1 by omega, List.replicate_succ', List.append_assoc, show u - 1 - j = u - (j + 1) by omega, List.set_append_right _ _ (by simp)]
            simp [fixV]
          simp only [hi, e1, idx_nat _ _ hlen, Option.bind_some, Int.toNat_natCast, hset]
          rw [if_pos (by simp only [decide_eq_true_eq]; omega), wrap_ok (by omega) (by omega)]
          rw [show ((u - 1 - j : Nat) : Int) - 1 = (u : Int) - 1 - ((j + 1 : Nat) : Int) by omega]
        · rw [if_neg (by simp only [decide_eq_true_eq]; omega)]
          simp
      · rw [decide_eq_false h3]
        rfl
    · rw [decide_eq_false h2, decide_eq_true (by omega : n < 0)]
      rfl
  · rw [decide_eq_false h1]
    rfl
/-- a number in bytes of seven bits, the lowest first -/
def varN : Nat → Nat → List UInt8
  | 0, n => [toU8 (n : Int)]
  | f + 1, n => bif decide (n < 128) then [toU8 (n : Int)] else toU8 ((128 + n % 128 : Nat) : Int) :: varN f (n / 128)
theorem varN_lt {f n : Nat} (h : n < 128) : varN f n = [toU8 (n : Int)] := by
  cases f with
  | zero => rfl
  | succ f => rw [varN, decide_eq_true h]; rfl
theorem varN_ge {f n : Nat} (h : 128 ≤ n) : varN (f + 1) n = toU8 ((128 + n % 128 : Nat) : Int) :: varN f (n / 128) := by
  rw [varN, decide_eq_false (by omega)]; rfl
/-- a loop that takes seven bits at a time -/
theorem var_loop {body : Int × List UInt8 → Option (Ctl (Int × List UInt8) (Ctl (Int × List UInt8) (List UInt8)))}
    (h1 : ∀ (n : Nat) (out : List UInt8), 128 ≤ n → n < 562949953421312 → out.length ≤ 100 → body ((n : Int), out) = some (.go (((n / 128 : Nat) : Int), out ++ [toU8 ((128 + n % 128 : Nat) : Int)])))
    (h2 : ∀ (n : Nat) (out : List UInt8), n < 128 → body ((n : Int), out) = some (.done (.go ((n : Int), out)))) :
    ∀ (f n : Nat) (out : List UInt8), n < 128 ^ (f + 1) → n < 562949953421312 → out.length + f ≤ 100 → ∃ (m : Nat) (out' : List UInt8), loopO body ((n : Int), out) = some (.go ((m : Int), out')) ∧ out' ++ [toU8 (m : Int)] = out ++ varN f n ∧ out'.length ≤ 100 := by
  intro f
  induction f with
  | zero =>
    intro n out hn _ ho
    have hn' : n < 128 := by simpa using hn
    exact ⟨n, out, by rw [loopO_eq, h2 n out hn'], by rw [varN_lt hn'], by omega⟩
  | succ f ih =>
    intro n out hn hb ho
    by_cases h : n < 128
    · exact ⟨n, out, by rw [loopO_eq, h2 n out h], by rw [varN_lt h], by omega⟩
    · have hn2 : n / 128 < 128 ^ (f + 1) := by
        rw [Nat.div_lt_iff_lt_mul (by decide)]
        rw [Nat.pow_succ] at hn
        exact hn
      obtain ⟨m, out', e1, e2, e3⟩ := ih (n / 128) (out ++ [toU8 ((128 + n % 128 : Nat) : Int)]) hn2 (by omega) (by simp; omega)
      refine ⟨m, out', ?_, ?_, e3⟩
      · rw [loopO_eq, h1 n out (by omega) hb (by omega)]
        exact e1
      · rw [e2, varN_ge (by omega), List.append_assoc]; rfl
def varV (n : Int) : List UInt8 := bif decide (0 ≤ n ∧ n ≤ 562949953421311) then varN 6 n.toNat else []
theorem spec_Var_eq (n : Int) : spec_Var n = some (varV n) := by
  unfold spec_Var varV
  rw [l1In_eq]
  by_cases h : 0 ≤ n ∧ n ≤ 562949953421311
  · rw [decide_eq_true h]
    obtain ⟨m, rfl⟩ : ∃ m : Nat, n = (m : Int) := ⟨n.toNat, by omega⟩
    simp only [Option.bind_some, Bool.not_true, Bool.false_eq_true, if_false, cond_true, Int.toNat_natCast]
    obtain ⟨p, out, e1, e2, e3⟩ := var_loop (body := fun (S6 : Int × List UInt8) => if (decide (S6.1 ≥ (128 : Int))) = true then ((app 1 S6.2 ([toU8 (IntKind.i64.wrap ((128 : Int) + (Int.tmod S6.1 (128 : Int))))])).bind fun E13 =>
      some (.go (IntKind.i64.wrap (Int.tdiv S6.1 (128 : Int)), E13)))
      else (some (.done (.go (S6.1, S6.2))))) (by
        intro n out h1 h2 ho
        have t1 : Int.tmod (n : Int) (128 : Int) = ((n % 128 : Nat) : Int) := by rw [show (128 : Int) = ((128 : Nat) : Int) from rfl, ← Int.ofNat_tmod]
        have t2 : Int.tdiv (n : Int) (128 : Int) = ((n / 128 : Nat) : Int) := by rw [show (128 : Int) = ((128 : Nat) : Int) from rfl, ← Int.ofNat_tdiv]
        have t3 : IntKind.i64.wrap ((128 : Int) + ((n % 128 : Nat) : Int)) = ((128 + n % 128 : Nat) : Int) := by rw [wrap_ok (by omega) (by omega)]; omega
        simp only [t1, t2, t3]
        rw [if_pos (by simp only [decide_eq_true_eq]; omega), app_ok (by simp; omega) (by simp; omega), wrap_ok (by omega) (by omega)]
        rfl) (by
        intro n out h1
        rw [if_neg (by simp only [decide_eq_true_eq]; omega)]) 6 m [] (by omega) (by omega) (by simp)
    rw [e1]
    simp only [bindC_go]
    rw [app_ok (by simp; omega) (by simp; omega), e2]
    rfl
  · rw [decide_eq_false h]
    rfl
theorem or128 (m : Nat) (h : m < 128) : 128 ||| m = 128 + m := by
  have := Nat.two_pow_add_eq_or_of_lt (i := 7) (b := m) h 1
  rw [show 2 ^ 7 * 1 = 128 from rfl] at this
  exact this.symm
theorem impl_Var_eq (n : Int) : impl_Var n = some (varV n) := by
  unfold impl_Var varV
  rw [inRange_eq]
  by_cases h : 0 ≤ n ∧ n ≤ 562949953421311
  · rw [decide_eq_true h]
    obtain ⟨m, rfl⟩ : ∃ m : Nat, n = (m : Int) := ⟨n.toNat, by omega⟩
    simp only [Option.bind_some, Bool.not_true, Bool.false_eq_true, if_false, cond_true, Int.toNat_natCast]
    obtain ⟨p, out, e1, e2, e3⟩ := var_loop (body := fun (S5 : Int × List UInt8) => if (decide (S5.1 > (127 : Int))) = true then ((app 1 S5.2 ([toU8 (ior .i64 (128 : Int) (iand .i64 S5.1 (127 : Int)))])).bind fun E12 =>
      some (.go (ishr .i64 S5.1 (7 : Int), E12)))
      else (some (.done (.go (S5.1, S5.2))))) (by
        intro n out h1 h2 ho
        have t1 : iand .i64 (n : Int) (127 : Int) = ((n % 128 : Nat) : Int) := by
          rw [show (127 : Int) = ((127 : Nat) : Int) from rfl, iand64 (by omega) (by decide), show n &&& 127 = n % 128 from Nat.and_two_pow_sub_one_eq_mod n 7]
        have t2 : ishr .i64 (n : Int) (7 : Int) = ((n / 128 : Nat) : Int) := ishr_nat (n := 7) (by decide)
        have hm : n % 128 < 128 := Nat.mod_lt _ (by decide)
        have t3 : ior .i64 (128 : Int) ((n % 128 : Nat) : Int) = ((128 + n % 128 : Nat) : Int) := by
          rw [show (128 : Int) = ((128 : Nat) : Int) from rfl, ior64 (by decide) (by omega), or128 _ hm]
        simp only [t1, t2, t3]
        rw [if_pos (by simp only [decide_eq_true_eq]; omega), app_ok (by simp; omega) (by simp; omega)]
        rfl) (by
        intro n out h1
        rw [if_neg (by simp only [decide_eq_true_eq]; omega)]) 6 m [] (by omega) (by omega) (by simp)
    rw [e1]
    simp only [bindC_go]
    rw [app_ok (by simp; omega) (by simp; omega), e2]
    rfl
  · rw [decide_eq_false h]
    rfl
/-- the number that bytes of seven bits come to -/
def numV : List UInt8 → Nat
  | [] => 0
  | x :: l => x.toNat % 128 + 128 * numV l
theorem numV_lt : ∀ (l : List UInt8), numV l < 128 ^ l.length
  | [] => by decide
  | x :: l => by
    have := numV_lt l
    have hx : x.toNat % 128 < 128 := Nat.mod_lt _ (by decide)
    rw [numV, List.length_cons, Nat.pow_succ]
    omega
theorem numV_snoc : ∀ (l : List UInt8) (x : UInt8), numV (l ++ [x]) = numV l + 128 ^ l.length * (x.toNat % 128)
  | [], x => by simp [numV]
  | y :: l, x => by
    rw [List.cons_append, numV, numV, numV_snoc l x, List.length_cons, Nat.pow_succ, Nat.mul_add, Nat.mul_comm (128 ^ l.length) 128, Nat.mul_assoc]
    omega
/-- reading: the number and how many bytes -/
def readN : Nat → List UInt8 → Option (Nat × Nat)
  | 0, _ => none
  | _ + 1, [] => none
  | f + 1, x :: l => bif decide (x.toNat < 128) then some (x.toNat, 1) else match readN f l with
    | some (m, k) => bif decide (m = 0) then none else some (x.toNat % 128 + 128 * m, k + 1)
    | none => none
theorem toU8_toNat (n : Nat) : (toU8 (n : Int)).toNat = n % 256 := by
  unfold toU8
  rw [UInt8.toNat_ofNat']
  omega
theorem toU8_of (x : UInt8) : toU8 ((x.toNat : Nat) : Int) = x := by
  have := x.toNat_lt
  apply UInt8.toNat_inj.1
  rw [toU8_toNat]
  omega
theorem take_ne {α : Type} {l : List α} {j : Nat} (h1 : 1 ≤ j) (h2 : j ≤ l.length) : l.take j ≠ [] := by
  intro e
  have := congrArg List.length e
  rw [List.length_take, List.length_nil] at this
  omega
theorem good_one (f : Nat) (x : UInt8) : varN f (numV [x]) = [x] ↔ x.toNat < 128 := by
  have hx : x.toNat % 128 < 128 := Nat.mod_lt _ (by decide)
  rw [show numV [x] = x.toNat % 128 by simp [numV], varN_lt hx]
  constructor
  · intro h
    have h2 : toU8 ((x.toNat % 128 : Nat) : Int) = x := by simpa using h
    have h3 := congrArg UInt8.toNat h2
    rw [toU8_toNat] at h3
    omega
  · intro h
    rw [Nat.mod_eq_of_lt h, toU8_of]
theorem good_more (f : Nat) (x : UInt8) (l : List UInt8) (hl : l ≠ []) : varN (f + 1) (numV (x :: l)) = x :: l ↔ 128 ≤ x.toNat ∧ numV l ≠ 0 ∧ varN f (numV l) = l := by
  have hx : x.toNat % 128 < 128 := Nat.mod_lt _ (by decide)
  have hx2 := x.toNat_lt
  have hm : (x.toNat % 128 + 128 * numV l) % 128 = x.toNat % 128 := by omega
  have hd : (x.toNat % 128 + 128 * numV l) / 128 = numV l := by omega
  by_cases h0 : numV l = 0
  · rw [numV, h0, varN_lt (by omega)]
    constructor
    · intro h
      have : [] = l := by simpa using (List.cons.inj h).2
      exact absurd this.symm hl
    · rintro ⟨_, h, _⟩
      exact absurd rfl h
  · rw [numV, varN_ge (by omega), hm, hd]
    constructor
    · intro h
      obtain ⟨h1, h2⟩ := List.cons.inj h
      have h3 := congrArg UInt8.toNat h1
      rw [toU8_toNat] at h3
      exact ⟨by omega, h0, h2⟩
    · rintro ⟨h1, _, h2⟩
      rw [h2, show 128 + x.toNat % 128 = x.toNat by omega, toU8_of]
theorem readN_some : ∀ (f : Nat) (s : List UInt8) (n k : Nat), readN f s = some (n, k) → 1 ≤ k ∧ k ≤ f ∧ k ≤ s.length ∧ n = numV (s.take k) ∧ varN (f - 1) n = s.take k ∧ ∀ g j, 1 ≤ j → j ≤ g + 1 → j ≤ s.length → varN g (numV (s.take j)) = s.take j → j = k
  | 0, s, n, k, h => by cases h
  | f + 1, [], n, k, h => by cases h
  | f + 1, x :: l, n, k, h => by
    rw [readN] at h
    by_cases hx : x.toNat < 128
    · rw [decide_eq_true hx] at h
      simp only [cond_true, Option.some.injEq, Prod.mk.injEq] at h
      obtain ⟨rfl, rfl⟩ := h
      have hm : x.toNat % 128 = x.toNat := Nat.mod_eq_of_lt hx
      refine ⟨Nat.le_refl _, by omega, by simp, by simp [numV, hm], ?_, fun g j hj1 hjg hjl he => ?_⟩
      · have := (good_one (f + 1 - 1) x).2 hx
        rw [show numV [x] = x.toNat by simp [numV, hm]] at this
        exact this
      · cases j with
        | zero => omega
        | succ j =>
          cases j with
          | zero => rfl
          | succ j =>
            cases g with
            | zero => omega
            | succ g =>
              rw [List.take_succ_cons] at he
              have := (good_more g x (l.take (j + 1)) (take_ne (by omega) (by rw [List.length_cons] at hjl; omega))).1 he
              omega
    · rw [decide_eq_false hx] at h
      simp only [cond_false] at h
      cases hr : readN f l with
      | none => rw [hr] at h; cases h
      | some p =>
        obtain ⟨m, k'⟩ := p
        rw [hr] at h
        simp only at h
        by_cases hm : m = 0
        · rw [decide_eq_true hm] at h; cases h
        · rw [decide_eq_false hm] at h
          simp only [cond_false, Option.some.injEq, Prod.mk.injEq] at h
          obtain ⟨rfl, rfl⟩ := h
          obtain ⟨h1, h2, h3, h4, h5, h6⟩ := readN_some f l m k' hr
          have hne : l.take k' ≠ [] := take_ne h1 h3
          refine ⟨by omega, by omega, by simp; omega, by rw [List.take_succ_cons, numV, ← h4], ?_, fun g j hj1 hjg hjl he => ?_⟩
          · rw [List.take_succ_cons, Nat.add_sub_cancel]
            obtain ⟨f', rfl⟩ : ∃ f', f = f' + 1 := ⟨f - 1, by omega⟩
            rw [Nat.add_sub_cancel] at h5
            have := (good_more f' x (l.take k') hne).2 ⟨by omega, by rw [← h4]; exact hm, by rw [← h4]; exact h5⟩
            rw [numV, ← h4] at this
            exact this
          · cases j with
            | zero => omega
            | succ j =>
              cases j with
              | zero =>
                rw [List.take_succ_cons, List.take_zero] at he
                exact absurd ((good_one g x).1 he) hx
              | succ j =>
                cases g with
                | zero => omega
                | succ g =>
                  rw [List.take_succ_cons] at he
                  have hjl' : j + 1 ≤ l.length := by simp at hjl; omega
                  have := (good_more g x (l.take (j + 1)) (take_ne (by omega) hjl')).1 he
                  have := h6 g (j + 1) (by omega) (by omega) hjl' this.2.2
                  omega
def readR : Option (Nat × Nat) → Int × Int
  | some (n, k) => ((n : Int), (k : Int))
  | none => (0, 0)
/-- reading of what comes behind i bytes -/
def readI (n i : Nat) : Option (Nat × Nat) → Int × Int
  | some (m, k) => bif decide (m = 0 ∧ 0 < i) then (0, 0) else (((n + 128 ^ i * m : Nat) : Int), ((i + k : Nat) : Int))
  | none => (0, 0)
theorem readI_zero (p : Option (Nat × Nat)) : readI 0 0 p = readR p := by
  cases p with
  | none => rfl
  | some p => simp [readI, readR]
theorem readI_step (n i f : Nat) (x : UInt8) (l : List UInt8) (hx : ¬ x.toNat < 128) : readI n i (readN (f + 1) (x :: l)) = readI (n + 128 ^ i * (x.toNat % 128)) (i + 1) (readN f l) := by
  rw [readN, decide_eq_false hx]
  simp only [cond_false]
  cases readN f l with
  | none => rfl
  | some p =>
    obtain ⟨m, k⟩ := p
    simp only
    by_cases hm : m = 0
    · simp [hm, readI]
    · rw [decide_eq_false hm]
      simp only [cond_false, readI]
      rw [decide_eq_false (by omega), decide_eq_false (by omega)]
      simp only [cond_false]
      have e : n + 128 ^ i * (x.toNat % 128 + 128 * m) = n + 128 ^ i * (x.toNat % 128) + 128 ^ i * 128 * m := by rw [Nat.mul_add, Nat.mul_assoc, Nat.add_assoc]
      rw [Nat.pow_succ, e, show i + (k + 1) = i + 1 + k by omega]
theorem or_add (n d i : Nat) (h : n < 2 ^ (7 * i)) : n ||| d * 2 ^ (7 * i) = n + 2 ^ (7 * i) * d := by
  rw [Nat.or_comm, Nat.mul_comm, ← Nat.two_pow_add_eq_or_of_lt h]
  omega
theorem pow128 (i : Nat) : 128 ^ i = 2 ^ (7 * i) := by rw [Nat.pow_mul]
theorem impl_ReadVar_eq (s : List UInt8) (hs : s.length ≤ 1099511627776) : impl_ReadVar s = some (readR (readN 7 s)) := by
  unfold impl_ReadVar
  obtain ⟨r, hr, hq⟩ := loopO_total (ρ := Ctl Unit (Int × Int)) (s0 := ((0 : Int), (0 : Int))) (body := fun (S1 : Int × Int) => (if (decide (S1.2 < (7 : Int))) = true then (some (decide (S1.2 < ((s.length : Nat) : Int))))
  else (some false)).bind (fun (T5 : Bool) =>
  if T5 = true then ((sidx s S1.2).bind fun E9 =>
  if (decide (((E9.toNat : Nat) : Int) ≥ (128 : Int))) = true then (some (.go (ior .i64 S1.1 (ishl .i64 (IntKind.i64.wrap (iand .u8 ((E9.toNat : Nat) : Int) (127 : Int))) (IntKind.u64.wrap (IntKind.i64.wrap ((7 : Int) * S1.2)))), IntKind.i64.wrap (S1.2 + (1 : Int)))))
  else ((if (decide (((E9.toNat : Nat) : Int) = (0 : Int))) = true then (some (decide (S1.2 > (0 : Int))))
  else (some false)).bind (fun (T12 : Bool) =>
  if T12 = true then (some (.done (.done ((0 : Int), (0 : Int)))))
  else (some (.done (.done (ior .i64 S1.1 (ishl .i64 (IntKind.i64.wrap (iand .u8 ((E9.toNat : Nat) : Int) (127 : Int))) (IntKind.u64.wrap (IntKind.i64.wrap ((7 : Int) * S1.2)))), IntKind.i64.wrap (S1.2 + (1 : Int)))))))))
  else (some (.done (.go ())))))
    (fun i S => S.1 = (numV (s.take i) : Int) ∧ S.2 = (i : Int) ∧ i ≤ s.length ∧ readR (readN 7 s) = readI (numV (s.take i)) i (readN (7 - i) (s.drop i))) 7 (fun r => r = .done (readR (readN 7 s)) ∨ (r = .go () ∧ readR (readN 7 s) = (0, 0))) ⟨by simp [numV], rfl, Nat.zero_le _, by simp [numV, readI_zero]⟩ (by
      rintro i ⟨n, j⟩ hi ⟨h1, h2, h3, h4⟩
      simp only at h1 h2
      subst h1 h2
      rw [h4]
      simp only
      rw [decide_eq_true (by omega : ((i : Int) < 7))]
      simp only [if_true, Option.bind_some]
      by_cases hl : i < s.length
      · have hd : s.drop i = s[i] :: s.drop (i + 1) := List.drop_eq_getElem_cons hl
        have ht : s.take (i + 1) = s.take i ++ [s[i]] := by rw [List.take_add_one, List.getElem?_eq_getElem hl]; rfl
        have hx := s[i].toNat_lt
        have hn := numV_lt (s.take i)
        rw [List.length_take, Nat.min_eq_left h3, pow128] at hn
        have hp : 2 ^ (7 * i) ≤ 2 ^ 42 := Nat.pow_le_pow_right (by decide) (by omega)
        have hdm : s[i].toNat % 128 < 128 := Nat.mod_lt _ (by decide)
        have ea : iand .u8 ((s[i].toNat : Nat) : Int) (127 : Int) = ((s[i].toNat % 128 : Nat) : Int) := by
          rw [show (127 : Int) = ((127 : Nat) : Int) from rfl, iand8 (by omega) (by decide), show s[i].toNat &&& 127 = s[i].toNat % 128 from Nat.and_two_pow_sub_one_eq_mod _ 7]
        have eb : IntKind.u64.wrap (IntKind.i64.wrap ((7 : Int) * (i : Int))) = ((7 * i : Nat) : Int) := by rw [wrap_ok (by omega) (by omega), wrap64u]; omega
        have hmul : s[i].toNat % 128 * 2 ^ (7 * i) ≤ 127 * 2 ^ 42 := Nat.mul_le_mul (by omega) hp
        have ec : ior .i64 (numV (s.take i) : Int) (ishl .i64 (IntKind.i64.wrap ((s[i].toNat % 128 : Nat) : Int)) ((7 * i : Nat) : Int)) = ((numV (s.take i) + 128 ^ i * (s[i].toNat % 128) : Nat) : Int) := by
          rw [wrap_ok (by omega) (by omega), ishl64 (by omega) (by omega), ior64 (by omega) (by omega), or_add _ _ _ hn, pow128]
        rw [decide_eq_true (by omega : (i : Int) < ((s.length : Nat) : Int)), sidx_nat s i hl, hd]
        simp only [if_true, Option.bind_some, ea, eb, ec]
        rw [wrap_ok (by omega) (by omega), show 7 - i = (7 - (i + 1)) + 1 by omega]
        by_cases hc : s[i].toNat < 128
        · right
          refine ⟨_, ?_, .inl rfl⟩
          rw [decide_eq_false (by omega : ¬ ((s[i].toNat : Nat) : Int) ≥ 128), readN, decide_eq_true hc]
          simp only [Bool.false_eq_true, if_false, cond_true, readI]
          have hm : s[i].toNat % 128 = s[i].toNat := Nat.mod_eq_of_lt hc
          rw [hm]
          by_cases hz : s[i].toNat = 0
          · by_cases h0 : 0 < i
            · rw [decide_eq_true (⟨hz, h0⟩ : s[i].toNat = 0 ∧ 0 < i), decide_eq_true (by omega : ((s[i].toNat : Nat) : Int) = 0), decide_eq_true (by omega : (i : Int) > 0)]
              rfl
            · rw [decide_eq_false (by omega : ¬ (s[i].toNat = 0 ∧ 0 < i)), decide_eq_true (by omega : ((s[i].toNat : Nat) : Int) = 0), decide_eq_false (by omega : ¬ (i : Int) > 0)]
              rfl
          · rw [decide_eq_false (by omega : ¬ (s[i].toNat = 0 ∧ 0 < i)), decide_eq_false (by omega : ¬ ((s[i].toNat : Nat) : Int) = 0)]
            rfl
        · left
          rw [decide_eq_true (by omega : ((s[i].toNat : Nat) : Int) ≥ 128)]
          have hns : numV (s.take (i + 1)) = numV (s.take i) + 128 ^ i * (s[i].toNat % 128) := by
            rw [ht, numV_snoc, List.length_take, Nat.min_eq_left h3]
          refine ⟨(_, _), rfl, by rw [hns], by simp, by omega, ?_⟩
          rw [readI_step _ _ _ _ _ hc, hns]
      · right
        have hd : s.drop i = [] := List.drop_eq_nil_of_le (by omega)
        rw [decide_eq_false (by omega : ¬ (i : Int) < ((s.length : Nat) : Int)), hd, show 7 - i = (7 - (i + 1)) + 1 by omega]
        exact ⟨.go (), rfl, .inr ⟨rfl, rfl⟩⟩) (by
      rintro ⟨n, j⟩ ⟨h1, h2, h3, h4⟩
      simp only at h1 h2
      subst h1 h2
      exact ⟨.go (), rfl, .inr ⟨rfl, h4⟩⟩)
  rw [hr]
  rcases hq with rfl | ⟨rfl, h⟩
  · rfl
  · rw [h]; rfl

theorem ssub_nat (s : List UInt8) (a b : Nat) (h1 : a ≤ b) (h2 : b ≤ s.length) : ssub s (a : Int) (b : Int) = some ((s.drop a).take (b - a)) := by
  unfold ssub
  rw [if_pos ⟨by omega, by omega, by omega⟩, Int.toNat_natCast, Int.toNat_natCast]
theorem ssub_end (s : List UInt8) (a : Nat) (h : a ≤ s.length) : ssub s (a : Int) (s.length : Int) = some (s.drop a) := by
  rw [ssub_nat s a s.length h (Nat.le_refl _), List.take_of_length_le (by simp)]
def nonceV (kind n : Int) : List UInt8 := bif decide (0 ≤ kind ∧ kind ≤ 255) && decide (0 ≤ n ∧ n ≤ 562949953421311) then [toU8 kind, 0, 0, 0, 0] ++ fixedV n 7 else []
theorem fixedV_len7 (n : Int) (h : 0 ≤ n ∧ n ≤ 562949953421311) : (fixedV n 7).length = 7 := by
  unfold fixedV
  have h1 : n.toNat / 256 ^ (7 : Int).toNat = 0 := Nat.div_eq_of_lt (by show n.toNat < 256 ^ 7; omega)
  rw [decide_eq_true h.1, decide_eq_true h1]
  show (fixV n.toNat 7).length = 7
  exact fixV_len _ 7
theorem spec_NonceOf_eq (kind n : Int) : spec_NonceOf kind n = some (nonceV kind n) := by
  unfold spec_NonceOf nonceV
  rw [l1In_eq, l1In_eq]
  by_cases h1 : 0 ≤ kind ∧ kind ≤ 255
  · by_cases h2 : 0 ≤ n ∧ n ≤ 562949953421311
    · rw [decide_eq_true h1, decide_eq_true h2]
      simp only [Option.bind_some, Bool.not_true, Bool.false_eq_true, if_false, Bool.and_self, cond_true, spec_Fixed_eq n 7 (by omega)]
      rw [cat_ok (by rw [fixedV_len7 n h2]; show 5 + 7 ≤ 9223372036854775807; decide)]
      rfl
    · rw [decide_eq_true h1, decide_eq_false h2]
      rfl
  · rw [decide_eq_false h1]
    rfl
theorem impl_NonceOf_eq (kind n : Int) : impl_NonceOf kind n = some (nonceV kind n) := by
  unfold impl_NonceOf nonceV
  rw [inRange_eq, inRange_eq]
  by_cases h1 : 0 ≤ kind ∧ kind ≤ 255
  · by_cases h2 : 0 ≤ n ∧ n ≤ 562949953421311
    · rw [decide_eq_true h1, decide_eq_true h2]
      simp only [Option.bind_some, Bool.not_true, Bool.false_eq_true, if_false, Bool.and_self, cond_true, impl_Fixed_eq n 7 (by omega)]
      rw [cat_ok (by rw [fixedV_len7 n h2]; show 5 + 7 ≤ 9223372036854775807; decide)]
      rfl
    · rw [decide_eq_true h1, decide_eq_false h2]
      rfl
  · rw [decide_eq_false h1]
    rfl
theorem varN_len : ∀ (f n : Nat), (varN f n).length ≤ f + 1
  | 0, n => Nat.le_refl _
  | f + 1, n => by
    by_cases h : n < 128
    · rw [varN_lt h]; simp
    · rw [varN_ge (by omega), List.length_cons]
      have := varN_len f (n / 128)
      omega
theorem varV_len (n : Int) : (varV n).length ≤ 7 := by
  unfold varV
  cases decide (0 ≤ n ∧ n ≤ 562949953421311)
  · simp
  · exact varN_len 6 _
/-- a string behind its length -/
def pieceV (s : List UInt8) : List UInt8 := varV (s.length : Int) ++ s
theorem spec_l6Piece_eq (s : List UInt8) (h : s.length ≤ 1099511627776) : spec_l6Piece s = some (pieceV s) := by
  unfold spec_l6Piece pieceV
  have := varV_len (s.length : Int)
  rw [spec_Var_eq]
  simp only [Option.bind_some]
  rw [cat_ok (by omega)]
  rfl
theorem impl_short_eq (s : List UInt8) (h : s.length ≤ 1099511627776) : impl_short s = some (pieceV s) := by
  unfold impl_short pieceV
  have := varV_len (s.length : Int)
  rw [impl_Var_eq]
  simp only [Option.bind_some]
  rw [cat_ok (by omega)]
  rfl
theorem pieceV_len (s : List UInt8) : (pieceV s).length ≤ 7 + s.length := by
  have := varV_len (s.length : Int)
  unfold pieceV
  rw [List.length_append]; omega
theorem flat_len {α : Type} (g : α → List UInt8) (m : Nat) : ∀ (l : List α), (∀ x ∈ l, (g x).length ≤ m) → (l.flatMap g).length ≤ m * l.length
  | [], _ => by simp
  | x :: l, h => by
    have h1 := h x (by simp)
    have h2 := flat_len g m l fun y hy => h y (by simp [hy])
    rw [List.flatMap_cons, List.length_append, List.length_cons, Nat.mul_succ]
    omega
theorem flat_take {α : Type} (g : α → List UInt8) (l : List α) (k : Nat) (h : k < l.length) : (l.take (k + 1)).flatMap g = (l.take k).flatMap g ++ g l[k] := by
  rw [List.take_add_one, List.getElem?_eq_getElem h, List.flatMap_append]
  simp
theorem flat_take_len {α : Type} (g : α → List UInt8) (m : Nat) (l : List α) (k : Nat) (h : ∀ x ∈ l, (g x).length ≤ m) : ((l.take k).flatMap g).length ≤ m * l.length := by
  have h1 := flat_len g m (l.take k) fun x hx => h x (List.mem_of_mem_take hx)
  have h2 : m * (l.take k).length ≤ m * l.length := Nat.mul_le_mul_left _ (by simp; omega)
  omega
theorem varN_ne (f n : Nat) : varN f n ≠ [] := by
  by_cases h : n < 128
  · rw [varN_lt h]; simp
  · cases f with
    | zero => simp [varN]
    | succ f => rw [varN_ge (by omega)]; simp
theorem varV_ne {n : Int} (h : 0 ≤ n ∧ n ≤ 562949953421311) : varV n ≠ [] := by
  unfold varV
  rw [decide_eq_true h]
  exact varN_ne 6 _
theorem readN_enc : ∀ (f n : Nat) (rest : List UInt8), n < 128 ^ (f + 1) → readN (f + 1) (varN f n ++ rest) = some (n, (varN f n).length)
  | 0, n, rest, h => by
    have hn : n < 128 := by simpa using h
    rw [varN_lt hn]
    show readN 1 (toU8 (n : Int) :: rest) = _
    rw [readN, toU8_toNat, Nat.mod_eq_of_lt (by omega), decide_eq_true hn]
    rfl
  | f + 1, n, rest, h => by
    by_cases hn : n < 128
    · rw [varN_lt hn]
      show readN (f + 2) (toU8 (n : Int) :: rest) = _
      rw [readN, toU8_toNat, Nat.mod_eq_of_lt (by omega), decide_eq_true hn]
      rfl
    · have h2 : n / 128 < 128 ^ (f + 1) := by
        rw [Nat.div_lt_iff_lt_mul (by decide)]; rw [Nat.pow_succ] at h; exact h
      rw [varN_ge (by omega), List.cons_append, readN, toU8_toNat, Nat.mod_eq_of_lt (by omega), decide_eq_false (by omega), readN_enc f (n / 128) rest h2]
      simp only [cond_false]
      rw [decide_eq_false (by omega)]
      simp only [cond_false, List.length_cons]
      congr 2
      omega
theorem readV_enc (n : Int) (h : 0 ≤ n ∧ n ≤ 562949953421311) (rest : List UInt8) : readN 7 (varV n ++ rest) = some (n.toNat, (varV n).length) := by
  unfold varV
  rw [decide_eq_true h]
  exact readN_enc 6 n.toNat rest (by show n.toNat < 562949953421312; omega)
theorem readN_range {s : List UInt8} {n k : Nat} (h : readN 7 s = some (n, k)) : n < 562949953421312 ∧ 1 ≤ k ∧ k ≤ s.length := by
  obtain ⟨h1, h2, h3, h4, _, _⟩ := readN_some 7 s n k h
  have hn := numV_lt (s.take k)
  rw [List.length_take, Nat.min_eq_left h3, ← h4] at hn
  have hp : 128 ^ k ≤ 128 ^ 7 := Nat.pow_le_pow_right (by decide) h2
  exact ⟨Nat.lt_of_lt_of_le hn hp, h1, h3⟩
/-- a number read on -/
def rdN (t : List UInt8) (a : Nat) (bad : Bool) : Int × Nat × Bool := bif bad then (0, a, true) else match readN 7 (t.drop a) with
  | none => (0, a, true)
  | some (x, k) => ((x : Int), a + k, false)
theorem rdN_range (t : List UInt8) (a : Nat) (bad : Bool) (h : a ≤ t.length) : (0 ≤ (rdN t a bad).1 ∧ (rdN t a bad).1 ≤ 562949953421311) ∧ (rdN t a bad).2.1 ≤ t.length ∧ ((rdN t a bad).2.2 = false → bad = false ∧ a < (rdN t a bad).2.1) := by
  unfold rdN
  cases bad with
  | true => exact ⟨⟨by simp, by simp⟩, h, fun e => by cases e⟩
  | false =>
    simp only [cond_false]
    cases hr : readN 7 (t.drop a) with
    | none => exact ⟨⟨by simp, by simp⟩, h, fun e => by cases e⟩
    | some p =>
      obtain ⟨x, k⟩ := p
      obtain ⟨h1, h2, h3⟩ := readN_range hr
      rw [List.length_drop] at h3
      refine ⟨⟨by simp, by simp only; omega⟩, by simp only; omega, fun _ => ?_⟩
      exact ⟨trivial, show a < a + k by omega⟩
theorem number_eq (t : List UInt8) (a : Nat) (bad : Bool) (h : a ≤ t.length) (ht : t.length ≤ 1099511627776) : impl_reader_number { text := t, at_ := (a : Int), bad := bad } = some ((rdN t a bad).1, { text := t, at_ := ((rdN t a bad).2.1 : Int), bad := (rdN t a bad).2.2 }) := by
  unfold impl_reader_number rdN
  cases bad with
  | true => rfl
  | false =>
    simp only [Bool.false_eq_true, if_false, ssub_end t a h, Option.bind_some, impl_ReadVar_eq (t.drop a) (by simp; omega), cond_false]
    cases hr : readN 7 (t.drop a) with
    | none => rfl
    | some p =>
      obtain ⟨x, k⟩ := p
      obtain ⟨h1, h2, h3⟩ := readN_range hr
      rw [List.length_drop] at h3
      have hk0 : decide ((readR (some (x, k))).2 = 0) = false := decide_eq_false (by show ¬ (k : Int) = 0; omega)
      rw [hk0]
      simp only [Bool.false_eq_true, if_false, readR]
      rw [wrap_ok (by omega) (by omega), show (a : Int) + (k : Int) = ((a + k : Nat) : Int) by omega]
/-- bytes read on -/
def rdB (t : List UInt8) (a : Nat) (bad : Bool) (n : Int) : List UInt8 × Nat × Bool := bif bad || decide (t.length < a + n.toNat) then ([], a, true) else ((t.drop a).take n.toNat, a + n.toNat, false)
theorem rdB_range (t : List UInt8) (a : Nat) (bad : Bool) (n : Int) (h : a ≤ t.length) : (rdB t a bad n).2.1 ≤ t.length ∧ a ≤ (rdB t a bad n).2.1 ∧ ((rdB t a bad n).2.2 = false → bad = false) := by
  unfold rdB
  cases bad with
  | true => exact ⟨h, Nat.le_refl _, fun e => by cases e⟩
  | false =>
    by_cases c : t.length < a + n.toNat
    · rw [decide_eq_true c]; exact ⟨h, Nat.le_refl _, fun e => by cases e⟩
    · rw [decide_eq_false c]; exact ⟨by simp only [Bool.or_self, cond_false]; omega, by simp, fun _ => rfl⟩
theorem bytes_eq (t : List UInt8) (a : Nat) (bad : Bool) (n : Int) (h : a ≤ t.length) (ht : t.length ≤ 1099511627776) (hn : 0 ≤ n ∧ n ≤ 562949953421311) : impl_reader_bytes { text := t, at_ := (a : Int), bad := bad } n = some ((rdB t a bad n).1, { text := t, at_ := ((rdB t a bad n).2.1 : Int), bad := (rdB t a bad n).2.2 }) := by
  unfold impl_reader_bytes rdB
  cases bad with
  | true => rfl
  | false =>
    simp only [Bool.false_eq_true, if_false, Option.bind_some, Bool.false_or]
    rw [wrap_ok (n := ((t.length : Nat) : Int) - (a : Int)) (by omega) (by omega)]
    by_cases c : t.length < a + n.toNat
    · rw [decide_eq_true c, decide_eq_true (by omega : n > ((t.length : Nat) : Int) - (a : Int))]
      rfl
    · rw [decide_eq_false c, decide_eq_false (by omega : ¬ n > ((t.length : Nat) : Int) - (a : Int))]
      simp only [Bool.false_eq_true, if_false, cond_false]
      rw [wrap_ok (n := (a : Int) + n) (by omega) (by omega), wrap_ok (n := (a : Int) + n - n) (by omega) (by omega), show (a : Int) + n - n = (a : Int) by omega, show (a : Int) + n = ((a + n.toNat : Nat) : Int) by omega, ssub_nat t a (a + n.toNat) (by omega) (by omega)]
      simp only [Option.bind_some, Nat.add_sub_cancel_left]
def rdS (t : List UInt8) (a : Nat) (bad : Bool) : List UInt8 × Nat × Bool := rdB t (rdN t a bad).2.1 (rdN t a bad).2.2 (rdN t a bad).1
theorem short_eq (t : List UInt8) (a : Nat) (bad : Bool) (h : a ≤ t.length) (ht : t.length ≤ 1099511627776) : impl_reader_short { text := t, at_ := (a : Int), bad := bad } = some ((rdS t a bad).1, { text := t, at_ := ((rdS t a bad).2.1 : Int), bad := (rdS t a bad).2.2 }) := by
  obtain ⟨h1, h2, _⟩ := rdN_range t a bad h
  unfold impl_reader_short rdS
  rw [number_eq t a bad h ht]
  simp only [Option.bind_some]
  rw [bytes_eq t _ _ _ h2 ht h1]
  rfl
theorem rdS_range (t : List UInt8) (a : Nat) (bad : Bool) (h : a ≤ t.length) : (rdS t a bad).2.1 ≤ t.length ∧ ((rdS t a bad).2.2 = false → bad = false ∧ a < (rdS t a bad).2.1) := by
  obtain ⟨h1, h2, h3⟩ := rdN_range t a bad h
  obtain ⟨h4, h5, h6⟩ := rdB_range t (rdN t a bad).2.1 (rdN t a bad).2.2 (rdN t a bad).1 h2
  unfold rdS
  refine ⟨h4, fun e => ?_⟩
  obtain ⟨h7, h8⟩ := h3 (h6 e)
  exact ⟨h7, by omega⟩
theorem drop_enc {t x rest : List UInt8} {a : Nat} (h : t.drop a = x ++ rest) : t.drop (a + x.length) = rest := by
  rw [← List.drop_drop, h, List.drop_left]
theorem rdN_enc {t rest : List UInt8} {a : Nat} {n : Int} (h : t.drop a = varV n ++ rest) (hn : 0 ≤ n ∧ n ≤ 562949953421311) : rdN t a false = (n, a + (varV n).length, false) := by
  unfold rdN
  rw [h, readV_enc n hn rest]
  simp only [cond_false]
  rw [show ((n.toNat : Nat) : Int) = n by omega]
theorem rdS_enc {t rest x : List UInt8} {a : Nat} (h : t.drop a = pieceV x ++ rest) (hx : x.length ≤ 1048576) (ha : a ≤ t.length) : rdS t a false = (x, a + (pieceV x).length, false) := by
  have h1 : t.drop a = varV (x.length : Int) ++ (x ++ rest) := by rw [h]; unfold pieceV; rw [List.append_assoc]
  have h2 := drop_enc h1
  have hl := congrArg List.length h2
  rw [List.length_drop, List.length_append] at hl
  unfold rdS
  rw [rdN_enc h1 (by omega)]
  unfold rdB
  simp only [Bool.false_or, Int.toNat_natCast]
  by_cases hx0 : x.length = 0
  · have h0 : x = [] := List.eq_nil_of_length_eq_zero hx0
    have hl2 := congrArg List.length h1
    rw [List.length_drop, List.length_append] at hl2
    rw [decide_eq_false (by omega)]
    simp only [cond_false]
    subst h0
    simp [pieceV]
  · rw [decide_eq_false (by omega)]
    simp only [cond_false]
    rw [h2, List.take_left]
    simp only [pieceV, List.length_append, Nat.add_assoc]
/-! draws -/
theorem iand255 (p : Int) : 0 ≤ iand .i64 p (255 : Int) ∧ iand .i64 p (255 : Int) ≤ 255 := by
  unfold iand
  have e : (BitVec.ofInt IntKind.i64.bits p &&& BitVec.ofInt IntKind.i64.bits (255 : Int)).toNat ≤ 255 := by
    show (BitVec.ofInt 64 p &&& BitVec.ofInt 64 ((255 : Nat) : Int)).toNat ≤ 255
    rw [BitVec.ofInt_natCast, BitVec.toNat_and, BitVec.toNat_ofNat]
    exact Nat.and_le_right
  generalize (BitVec.ofInt IntKind.i64.bits p &&& BitVec.ofInt IntKind.i64.bits (255 : Int)).toNat = z at e
  rw [wrap_ok (by omega) (by omega)]
  omega
theorem l1New_ok (code : List UInt8) (h : code.length ≤ 1048576) : ∃ q, spec_l1New code = some { b := code, i := 0, h := q } := by
  unfold spec_l1New
  obtain ⟨r, hr, q, rfl⟩ := loopO_total (ρ := Ctl Int L1Cur) (s0 := (IntKind.i64.wrap ((10101 : Int) + ((code.length : Nat) : Int)), (0 : Int))) (body := fun (S1 : Int × Int) => (if (decide (S1.2 < ((code.length : Nat) : Int))) = true then (some (decide (S1.2 < (4000 : Int))))
  else (some false)).bind (fun (T5 : Bool) =>
  if T5 = true then ((idx code S1.2).bind fun E9 =>
  some (.go (iand .i64 (IntKind.i64.wrap (IntKind.i64.wrap (IntKind.i64.wrap (S1.1 * (131 : Int)) + (IntKind.i64.wrap ((E9.toNat : Nat) : Int))) + (7 : Int))) (1073741823 : Int), IntKind.i64.wrap (S1.2 + (1 : Int)))))
  else (some (.done (.go S1.1))))) (fun k S => S.2 = (k : Int)) code.length (fun r => ∃ q, r = .go q) rfl (by
    rintro k ⟨p, i⟩ hk rfl
    simp only
    rw [decide_eq_true (by omega : (k : Int) < ((code.length : Nat) : Int))]
    by_cases c : (k : Int) < 4000
    · left
      rw [decide_eq_true c]
      simp only [if_true, Option.bind_some, idx_nat code k hk]
      exact ⟨_, rfl, by simp only; rw [wrap_ok (by omega) (by omega)]; omega⟩
    · right
      rw [decide_eq_false c]
      exact ⟨.go p, rfl, p, rfl⟩) (by
    rintro ⟨p, i⟩ rfl
    simp only
    rw [decide_eq_false (by omega : ¬ ((code.length : Nat) : Int) < ((code.length : Nat) : Int))]
    exact ⟨.go p, rfl, p, rfl⟩)
  rw [hr]
  exact ⟨q, rfl⟩
theorem l1Byte_ok (b : List UInt8) (i h : Int) (hi : 0 ≤ i ∧ i ≤ b.length) (hb : b.length ≤ 1048576) : ∃ x i' h', spec_l1Byte { b := b, i := i, h := h } = some (x, { b := b, i := i', h := h' }) ∧ (0 ≤ x ∧ x ≤ 255) ∧ (0 ≤ i' ∧ i' ≤ b.length) := by
  unfold spec_l1Byte
  simp only
  by_cases c : i < ((b.length : Nat) : Int)
  · rw [decide_eq_true c]
    simp only [if_true]
    rw [idx_some' hi.1 c]
    simp only [Option.bind_some, bindC_go]
    exact ⟨_, _, _, rfl, iand255 _, by rw [wrap_ok (by omega) (by omega)]; omega⟩
  · rw [decide_eq_false c]
    simp only [Bool.false_eq_true, if_false, bindC_go]
    exact ⟨_, _, _, rfl, iand255 _, hi⟩
theorem l1Below_ok (b : List UInt8) (i h n : Int) (hi : 0 ≤ i ∧ i ≤ b.length) (hb : b.length ≤ 1048576) : ∃ x i' h', spec_l1Below { b := b, i := i, h := h } n = some (x, { b := b, i := i', h := h' }) ∧ (0 ≤ x ∧ (0 < n → x < n) ∧ (n ≤ 0 → x = 0)) ∧ (0 ≤ i' ∧ i' ≤ b.length) := by
  unfold spec_l1Below
  by_cases c : n ≤ 0
  · rw [decide_eq_true c]
    simp only [if_true]
    exact ⟨_, _, _, rfl, ⟨Int.le_refl _, fun h => by omega, fun _ => rfl⟩, hi⟩
  · rw [decide_eq_false c]
    have hnz : nz n = some () := by unfold nz; rw [if_neg (by omega)]
    have hm : ∀ x : Int, 0 ≤ x → 0 ≤ Int.tmod x n ∧ Int.tmod x n < n := fun x hx => ⟨Int.tmod_nonneg _ hx, Int.tmod_lt_of_pos _ (by omega)⟩
    obtain ⟨x1, i1, h1, e1, g1, k1⟩ := l1Byte_ok b i h hi hb
    simp only [Bool.false_eq_true, if_false, e1, Option.bind_some, hnz]
    by_cases c2 : n ≤ 256
    · rw [decide_eq_true c2]
      simp only [if_true]
      have := hm x1 g1.1
      exact ⟨_, _, _, rfl, ⟨this.1, fun _ => this.2, fun h => by omega⟩, k1⟩
    · rw [decide_eq_false c2]
      simp only [Bool.false_eq_true, if_false]
      obtain ⟨x2, i2, h2, e2, g2, k2⟩ := l1Byte_ok b i1 h1 k1 hb
      simp only [e2, Option.bind_some]
      obtain ⟨x3, i3, h3, e3, g3, k3⟩ := l1Byte_ok b i2 h2 k2 hb
      simp only [e3, Option.bind_some]
      obtain ⟨x4, i4, h4, e4, g4, k4⟩ := l1Byte_ok b i3 h3 k3 hb
      simp only [e4, Option.bind_some]
      rw [wrap_ok (n := x1 * 16777216) (by omega) (by omega), wrap_ok (n := x2 * 65536) (by omega) (by omega), wrap_ok (n := x1 * 16777216 + x2 * 65536) (by omega) (by omega), wrap_ok (n := x3 * 256) (by omega) (by omega), wrap_ok (n := x1 * 16777216 + x2 * 65536 + x3 * 256) (by omega) (by omega), wrap_ok (by omega) (by omega)]
      have := hm (x1 * 16777216 + x2 * 65536 + x3 * 256 + x4) (by omega)
      exact ⟨_, _, _, rfl, ⟨this.1, fun _ => this.2, fun h => by omega⟩, k4⟩
theorem l1Once_ok (b : List UInt8) (i h n : Int) (hi : 0 ≤ i ∧ i ≤ b.length) (hb : b.length ≤ 1048576) : ∃ x i' h', spec_l1Once { b := b, i := i, h := h } n = some (x, { b := b, i := i', h := h' }) ∧ (0 ≤ i' ∧ i' ≤ b.length) := by
  unfold spec_l1Once
  obtain ⟨x, i1, h1, e, _, k⟩ := l1Below_ok b i h n hi hb
  simp only [e, Option.bind_some]
  exact ⟨_, _, _, rfl, k⟩
theorem l1PickInt_ok (b : List UInt8) (i h : Int) (l : List Int) (hl : l ≠ []) (hi : 0 ≤ i ∧ i ≤ b.length) (hb : b.length ≤ 1048576) : ∃ x i' h', spec_l1PickInt { b := b, i := i, h := h } l = some (x, { b := b, i := i', h := h' }) ∧ x ∈ l ∧ (0 ≤ i' ∧ i' ≤ b.length) := by
  unfold spec_l1PickInt
  have hp := List.length_pos_iff.2 hl
  obtain ⟨x, i1, h1, e, g, k⟩ := l1Below_ok b i h ((l.length : Nat) : Int) hi hb
  simp only [e, Option.bind_some]
  rw [idx_some' g.1 (g.2.1 (by omega))]
  simp only [Option.bind_some]
  exact ⟨_, _, _, rfl, List.getElem_mem _, k⟩
theorem big_eq (code : List UInt8) : laws_big code = some (decide (((code.length : Nat) : Int) > 1048576)) := rfl

theorem l1Text_ok (b : List UInt8) (i h most : Int) (hm : 0 ≤ most ∧ most ≤ 1000) (hi : 0 ≤ i ∧ i ≤ b.length) (hb : b.length ≤ 1048576) : ∃ s i' h', spec_l1Text { b := b, i := i, h := h } most = some (s, { b := b, i := i', h := h' }) ∧ s.length ≤ 1000 ∧ (0 ≤ i' ∧ i' ≤ b.length) := by
  unfold spec_l1Text
  obtain ⟨x1, i1, h1, e1, _, k1⟩ := l1Below_ok b i h 4 hi hb
  simp only [e1, Option.bind_some]
  rw [wrap_ok (n := most + 1) (by omega) (by omega)]
  obtain ⟨x2, i2, h2, e2, g2, k2⟩ := l1Below_ok b i1 h1 (most + 1) k1 hb
  simp only [e2, Option.bind_some]
  have hx2 := g2.2.1 (by omega)
  obtain ⟨r, hr, p, q, s, rfl, hq⟩ := loopO_total (ρ := Ctl (Int × Int × List UInt8) (List UInt8 × L1Cur)) (s0 := (i2, h2, x2, ([] : List UInt8))) (body := fun (S8 : Int × Int × Int × List UInt8) => if (decide (S8.2.2.1 > (0 : Int))) = true then ((spec_l1Byte ({ b := b, i := S8.1, h := S8.2.1 : L1Cur })).bind fun R13 =>
  bindC (if (decide (x1 = (1 : Int))) = true then (some (.go (Int.tmod R13.1 (2 : Int))))
  else (some (.go R13.1)))
  (fun (T16 : Int) => bindC (if (decide (x1 = (2 : Int))) = true then (some (.go (IntKind.i64.wrap ((97 : Int) + (Int.tmod T16 (4 : Int))))))
  else (some (.go T16)))
  (fun (T19 : Int) => (app 1 S8.2.2.2 ([toU8 T19])).bind fun E24 =>
  some (.go (R13.2.i, R13.2.h, IntKind.i64.wrap (S8.2.2.1 - (1 : Int)), E24)))))
  else (some (.done (.go (S8.1, S8.2.1, S8.2.2.2)))))
    (fun k S => (0 ≤ S.1 ∧ S.1 ≤ b.length) ∧ S.2.2.1 = x2 - (k : Int) ∧ S.2.2.2.length = k) x2.toNat (fun r => ∃ p q s, r = .go (p, q, s) ∧ (s.length ≤ 1000 ∧ 0 ≤ p ∧ p ≤ b.length)) ⟨k2, by simp, rfl⟩ (by
      rintro k ⟨p, q, m, s⟩ hk ⟨h3, h4, h5⟩
      simp only at h3 h4 h5
      subst h4
      left
      simp only
      rw [if_pos (by simp only [decide_eq_true_eq]; omega)]
      obtain ⟨x3, i3, h3', e3, _, k3⟩ := l1Byte_ok b p q h3 hb
      rw [e3]
      simp only [Option.bind_some]
      have key : ∃ t : Int, (bindC (if (decide (x1 = (1 : Int))) = true then (some (Ctl.go (Int.tmod x3 (2 : Int)))) else (some (Ctl.go x3)))
        (fun (T16 : Int) => bindC (if (decide (x1 = (2 : Int))) = true then (some (Ctl.go (IntKind.i64.wrap ((97 : Int) + (Int.tmod T16 (4 : Int)))))) else (some (Ctl.go T16)))
        (fun (T19 : Int) => (app 1 s ([toU8 T19])).bind fun E24 => some (Ctl.go (ρ := Ctl (Int × Int × List UInt8) (List UInt8 × L1Cur)) (i3, h3', IntKind.i64.wrap (x2 - (k : Int) - (1 : Int)), E24))))) = some (.go (i3, h3', IntKind.i64.wrap (x2 - (k : Int) - (1 : Int)), s ++ [toU8 t])) := by
        cases decide (x1 = 1) <;> cases decide (x1 = 2) <;> simp only [Bool.false_eq_true, if_false, if_true, bindC_go] <;> rw [app_ok (by simp; omega) (by simp; omega)] <;> exact ⟨_, rfl⟩
      obtain ⟨t, ht⟩ := key
      rw [ht]
      exact ⟨_, rfl, k3, by simp only; rw [wrap_ok (by omega) (by omega)]; omega, by simp; omega⟩) (by
      rintro ⟨p, q, m, s⟩ ⟨h3, h4, h5⟩
      simp only at h3 h4 h5
      subst h4
      simp only
      rw [if_neg (by simp only [decide_eq_true_eq]; omega)]
      exact ⟨_, rfl, p, q, s, rfl, by omega, h3⟩)
  rw [hr]
  exact ⟨s, p, q, rfl, hq.1, hq.2⟩
theorem l3Key_ok (b : List UInt8) (i h : Int) (hi : 0 ≤ i ∧ i ≤ b.length) (hb : b.length ≤ 1048576) : ∃ s i' h', spec_l3Key { b := b, i := i, h := h } = some (s, { b := b, i := i', h := h' }) ∧ s.length ≤ 32 ∧ (0 ≤ i' ∧ i' ≤ b.length) := by
  unfold spec_l3Key
  obtain ⟨x1, i1, h1, e1, _, k1⟩ := l1Byte_ok b i h hi hb
  simp only [e1, Option.bind_some]
  obtain ⟨r, hr, s, rfl, hq⟩ := loopO_total (ρ := Ctl (List UInt8) (List UInt8 × L1Cur)) (s0 := ((0 : Int), ([] : List UInt8))) (body := fun (S5 : Int × List UInt8) => if (decide (S5.1 < (32 : Int))) = true then ((app 1 S5.2 ([toU8 (IntKind.i64.wrap (IntKind.i64.wrap (x1 * S5.1) + (Int.tmod S5.1 (3 : Int))))])).bind fun E12 =>
  some (.go (IntKind.i64.wrap (S5.1 + (1 : Int)), E12)))
  else (some (.done (.go S5.2)))) (fun k S => S.1 = (k : Int) ∧ S.2.length = k) 32 (fun r => ∃ s, r = .go s ∧ s.length = 32) ⟨rfl, rfl⟩ (by
      rintro k ⟨p, s⟩ hk ⟨h4, h5⟩
      simp only at h4 h5
      subst h4
      left
      simp only
      rw [if_pos (by simp only [decide_eq_true_eq]; omega), app_ok (by simp; omega) (by simp; omega), wrap_ok (n := (k : Int) + 1) (by omega) (by omega)]
      exact ⟨_, rfl, by simp only; omega, by simp; omega⟩) (by
      rintro ⟨p, s⟩ ⟨h4, h5⟩
      simp only at h4 h5
      subst h4
      exact ⟨.go s, by simp, s, rfl, h5⟩)
  rw [hr]
  simp only [bindC_go]
  obtain ⟨x2, i2, h2, e2, k2⟩ := l1Once_ok b i1 h1 15 k1 hb
  simp only [e2, Option.bind_some]
  cases x2 with
  | false => exact ⟨s, i2, h2, rfl, by omega, k2⟩
  | true =>
    obtain ⟨x3, i3, h3, e3, g3, k3⟩ := l1Below_ok b i2 h2 32 k2 hb
    have := g3.2.1 (by omega)
    simp only [if_true, e3, Option.bind_some]
    rw [piece_nat s 0 x3.toNat (0 : Int) x3 rfl (by omega) (Nat.zero_le _) (by omega)]
    exact ⟨_, i3, h3, rfl, by simp; omega, k3⟩
/-! draws of files and edits -/
theorem loopO_G {τ ρ R : Type} {body : τ → Option (Ctl τ (Ctl ρ R))} {s0 : τ} {f : ρ → Option R} (G : Option R → Prop) (I : Nat → τ → Prop) (n : Nat) (Q : Ctl ρ R → Prop) (h0 : I 0 s0)
    (h : ∀ k s, k < n → I k s → (∃ s', body s = some (.go s') ∧ I (k + 1) s') ∨ (∃ r, body s = some (.done r) ∧ Q r)) (hn : ∀ s, I n s → ∃ r, body s = some (.done r) ∧ Q r)
    (hk : ∀ r, Q r → G (bindC (some r) f)) : G (bindC (loopO body s0) f) := by
  obtain ⟨r, hr, hq⟩ := loopO_total I n Q h0 h hn
  rw [hr]
  exact hk r hq
theorem l1Pick_ok (b : List UInt8) (i h : Int) (l : List (List UInt8)) (hl : l ≠ []) (hi : 0 ≤ i ∧ i ≤ b.length) (hb : b.length ≤ 1048576) : ∃ x i' h', spec_l1Pick { b := b, i := i, h := h } l = some (x, { b := b, i := i', h := h' }) ∧ x ∈ l ∧ (0 ≤ i' ∧ i' ≤ b.length) := by
  unfold spec_l1Pick
  have hp := List.length_pos_iff.2 hl
  obtain ⟨x, i1, h1, e, g, k⟩ := l1Below_ok b i h ((l.length : Nat) : Int) hi hb
  simp only [e, Option.bind_some]
  rw [idx_some' g.1 (g.2.1 (by omega))]
  simp only [Option.bind_some]
  exact ⟨_, _, _, rfl, List.getElem_mem _, k⟩
theorem l7Key_ok (b : List UInt8) (i h : Int) (hi : 0 ≤ i ∧ i ≤ b.length) (hb : b.length ≤ 1048576) : ∃ x i' h', spec_l7Key { b := b, i := i, h := h } = some (x, { b := b, i := i', h := h' }) ∧ x.length ≤ 3 ∧ (0 ≤ i' ∧ i' ≤ b.length) := by
  unfold spec_l7Key
  obtain ⟨x, i1, h1, e, g, k⟩ := l1Pick_ok b i h [[97], [98], [97, 98], [97, 98, 99], [98, 48], [99], [0], [122, 122]] (by simp) hi hb
  simp only [e, Option.bind_some]
  have : ∀ x ∈ ([[97], [98], [97, 98], [97, 98, 99], [98, 48], [99], [0], [122, 122]] : List (List UInt8)), x.length ≤ 3 := by decide
  exact ⟨_, _, _, rfl, this x g, k⟩
/-! reservations: what fits -/
/-! rows of a log -/
/-! streams -/
noncomputable def strB (key : List UInt8) (counter : Int) (nonce : List UInt8) (i : Nat) : UInt8 := (chaV key (counter + ((i / 64 : Nat) : Int)) nonce).getD (i % 64) 0
noncomputable def xorV (key : List UInt8) (counter : Int) (nonce text : List UInt8) : List UInt8 := text.mapIdx fun i x => x ^^^ strB key counter nonce i
def streamOk (key : List UInt8) (counter : Int) (nonce : List UInt8) (n : Nat) : Bool := chaOk key counter nonce && decide (n = 0 ∨ counter + (((n - 1) / 64 : Nat) : Int) ≤ 4294967295)
noncomputable def streamV (key : List UInt8) (counter : Int) (nonce text : List UInt8) : List UInt8 := bif streamOk key counter nonce text.length then xorV key counter nonce text else []
theorem xorV_len (key : List UInt8) (counter : Int) (nonce text : List UInt8) : (xorV key counter nonce text).length = text.length := by unfold xorV; rw [List.length_mapIdx]
theorem xorV_at (key : List UInt8) (counter : Int) (nonce text : List UInt8) (i : Nat) (h : i < text.length) : (xorV key counter nonce text)[i]'(by rw [xorV_len]; exact h) = text[i] ^^^ strB key counter nonce i := by
  unfold xorV
  rw [List.getElem_mapIdx]
theorem xor_back (x y : UInt8) : x ^^^ y ^^^ y = x := by rw [UInt8.xor_assoc, UInt8.xor_self, UInt8.xor_zero]
theorem xorV_twice (key : List UInt8) (counter : Int) (nonce text : List UInt8) : xorV key counter nonce (xorV key counter nonce text) = text := by
  apply List.ext_getElem
  · rw [xorV_len, xorV_len]
  · intro i h1 h2
    rw [xorV_at _ _ _ _ i (by rw [xorV_len]; exact h2), xorV_at _ _ _ _ i h2, xor_back]
theorem chaOk_at {key : List UInt8} {counter : Int} {nonce : List UInt8} (h : chaOk key counter nonce = true) (k : Nat) (hk : counter + (k : Int) ≤ 4294967295) : chaOk key (counter + (k : Int)) nonce = true := by
  obtain ⟨h1, h2, h3, h4⟩ := chaOk_iff h
  unfold chaOk
  rw [decide_eq_true h1, decide_eq_true h2, decide_eq_true (by omega)]
  rfl
theorem chaV_no {key : List UInt8} {counter : Int} {nonce : List UInt8} (h : chaOk key counter nonce = false) : chaV key counter nonce = [] := by unfold chaV; rw [h]; rfl
theorem chaV_ne {key : List UInt8} {counter : Int} {nonce : List UInt8} (h : chaOk key counter nonce = true) : chaV key counter nonce ≠ [] := by
  intro e
  have := chaV_len key counter nonce h
  rw [e] at this
  cases this
theorem strB_at {key : List UInt8} {counter : Int} {nonce : List UInt8} (k j : Nat) (hj : j < 64) (h : chaOk key (counter + (k : Int)) nonce = true) : strB key counter nonce (64 * k + j) = (chaV key (counter + (k : Int)) nonce)[j]'(by rw [chaV_len _ _ _ h]; exact hj) := by
  unfold strB
  have e1 : (64 * k + j) / 64 = k := by omega
  have e2 : (64 * k + j) % 64 = j := by omega
  rw [e1, e2, List.getD_eq_getElem?_getD, List.getElem?_eq_getElem (by rw [chaV_len _ _ _ h]; exact hj)]
  rfl
theorem take_next {α : Type} (z : List α) (m : Nat) (h : m < z.length) : z.take (m + 1) = z.take m ++ [z[m]] := by
  rw [List.take_add_one, List.getElem?_eq_getElem h]; rfl
/-- one block of a stream, written behind -/
theorem spec_inner {ρ : Type} (key : List UInt8) (counter : Int) (nonce text : List UInt8) (ht : text.length ≤ 1099511627776) (k : Nat) (hk : 64 * k < text.length) (h : chaOk key (counter + (k : Int)) nonce = true) :
    loopO (ρ := Ctl (List UInt8) ρ) (fun (S15 : Int × List UInt8) => (if (decide (S15.1 < ((text.length : Nat) : Int))) = true then (some (decide (S15.1 < ((64 * k + 64 : Nat) : Int))))
      else (some false)).bind (fun (T19 : Bool) =>
      if T19 = true then ((sidx text S15.1).bind fun E23 =>
      (sidx (chaV key (counter + (k : Int)) nonce) (IntKind.i64.wrap (S15.1 - ((64 * k : Nat) : Int)))).bind fun E25 =>
      (app 1 S15.2 ([(E23 ^^^ E25)])).bind fun E29 =>
      some (.go (IntKind.i64.wrap (S15.1 + (1 : Int)), E29)))
      else (some (.done (.go S15.2))))) (((64 * k : Nat) : Int), (xorV key counter nonce text).take (64 * k)) = some (.go ((xorV key counter nonce text).take (64 * (k + 1)))) := by
  have hz := xorV_len key counter nonce text
  refine loopO_is (fun j S => S = (((64 * k + j : Nat) : Int), (xorV key counter nonce text).take (64 * k + j))) (min 64 (text.length - 64 * k)) _ rfl ?_ ?_
  · rintro j _ hj rfl
    left
    have hi : 64 * k + j < text.length := by omega
    simp only
    rw [decide_eq_true (by omega : ((64 * k + j : Nat) : Int) < ((text.length : Nat) : Int)), decide_eq_true (by omega : ((64 * k + j : Nat) : Int) < ((64 * k + 64 : Nat) : Int))]
    have e1 : ((64 * k + j : Nat) : Int) - ((64 * k : Nat) : Int) = (j : Int) := by omega
    have hl : ((xorV key counter nonce text).take (64 * k + j)).length = 64 * k + j := by rw [List.length_take]; omega
    rw [e1, wrap_ok (n := (j : Int)) (by omega) (by omega)]
    simp only [if_true, Option.bind_some]
    rw [sidx_nat text _ hi]
    simp only [Option.bind_some]
    rw [sidx_nat _ j (by rw [chaV_len _ _ _ h]; omega)]
    simp only [Option.bind_some]
    rw [app_ok (by simp only [List.length_singleton]; omega) (by simp only [List.length_singleton]; omega), wrap_ok (by omega) (by omega)]
    refine ⟨_, rfl, ?_⟩
    rw [show 64 * k + (j + 1) = (64 * k + j) + 1 from rfl, take_next _ _ (by rw [hz]; exact hi), xorV_at _ _ _ _ _ hi, strB_at k j (by omega) h]
    rfl
  · rintro _ rfl
    simp only
    by_cases c : 64 * k + 64 ≤ text.length
    · have e : 64 * k + min 64 (text.length - 64 * k) = 64 * k + 64 := by omega
      rw [e, decide_eq_false (by omega : ¬ ((64 * k + 64 : Nat) : Int) < ((64 * k + 64 : Nat) : Int)), show 64 * (k + 1) = 64 * k + 64 from rfl]
      split <;> rfl
    · have e : 64 * k + min 64 (text.length - 64 * k) = text.length := by omega
      rw [e, decide_eq_false (by omega : ¬ ((text.length : Nat) : Int) < ((text.length : Nat) : Int)), List.take_of_length_le (by omega), List.take_of_length_le (by omega)]
      rfl
theorem spec_ChaStream_eq (key : List UInt8) (counter : Int) (nonce text : List UInt8) (ht : text.length ≤ 1099511627776) : spec_ChaStream key counter nonce text = some (streamV key counter nonce text) := by
  unfold spec_ChaStream streamV streamOk
  rw [spec_ChaBlock_eq]
  simp only [Option.bind_some]
  cases h0 : chaOk key counter nonce with
  | false => rw [chaV_no h0]; rfl
  | true =>
    rw [decide_eq_false (chaV_ne h0)]
    simp only [Bool.false_eq_true, if_false, Bool.true_and]
    obtain ⟨_, _, hc1, hc2⟩ := chaOk_iff h0
    obtain ⟨r, hr, hq⟩ := loopO_total (ρ := Ctl (List UInt8) (List UInt8)) (s0 := ((0 : Int), ([] : List UInt8))) (body := fun (S6 : Int × List UInt8) => if (decide (S6.1 < ((text.length : Nat) : Int))) = true then ((spec_ChaBlock key (IntKind.i64.wrap (counter + (IntKind.i64.wrap (Int.tdiv S6.1 (64 : Int))))) nonce).bind fun R11 =>
      if (decide (R11 = ([]))) = true then (some (.done (.done ([]))))
      else (bindC (loopO (fun (S15 : Int × List UInt8) => (if (decide (S15.1 < ((text.length : Nat) : Int))) = true then (some (decide (S15.1 < IntKind.i64.wrap (S6.1 + (64 : Int)))))
      else (some false)).bind (fun (T19 : Bool) =>
      if T19 = true then ((sidx text S15.1).bind fun E23 =>
      (sidx R11 (IntKind.i64.wrap (S15.1 - S6.1))).bind fun E25 =>
      (app 1 S15.2 ([(E23 ^^^ E25)])).bind fun E29 =>
      some (.go (IntKind.i64.wrap (S15.1 + (1 : Int)), E29)))
      else (some (.done (.go S15.2)))))
      (S6.1, S6.2))
      (fun (T17 : List UInt8) => some (.go (IntKind.i64.wrap (S6.1 + (64 : Int)), T17)))))
      else (some (.done (.go S6.2))))
      (fun k S => S = (((64 * k : Nat) : Int), (xorV key counter nonce text).take (64 * k)) ∧ (k = 0 ∨ counter + ((k - 1 : Nat) : Int) ≤ 4294967295)) ((text.length + 63) / 64)
      (fun r => r = bif decide (text.length = 0 ∨ counter + (((text.length - 1) / 64 : Nat) : Int) ≤ 4294967295) then .go (xorV key counter nonce text) else .done []) ⟨rfl, .inl rfl⟩ (by
      rintro k _ hk ⟨rfl, hb⟩
      have hlt : 64 * k < text.length := by omega
      have e1 : Int.tdiv ((64 * k : Nat) : Int) 64 = (k : Int) := by rw [Int.tdiv_eq_ediv_of_nonneg (by omega)]; omega
      simp only
      rw [e1, wrap_ok (n := (k : Int)) (by omega) (by omega), wrap_ok (n := counter + (k : Int)) (by omega) (by omega), wrap_ok (n := ((64 * k : Nat) : Int) + 64) (by omega) (by omega), decide_eq_true (by omega : ((64 * k : Nat) : Int) < ((text.length : Nat) : Int)), spec_ChaBlock_eq]
      simp only [if_true, Option.bind_some]
      by_cases hm : counter + (k : Int) ≤ 4294967295
      · left
        have hk2 := chaOk_at h0 k hm
        rw [decide_eq_false (chaV_ne hk2)]
        simp only [Bool.false_eq_true, if_false]
        have e2 : ((64 * k : Nat) : Int) + 64 = ((64 * k + 64 : Nat) : Int) := by omega
        rw [e2, spec_inner key counter nonce text ht k hlt hk2]
        exact ⟨_, rfl, rfl, .inr (by simpa using hm)⟩
      · right
        have hk2 : chaOk key (counter + (k : Int)) nonce = false := by
          unfold chaOk
          rw [decide_eq_false (by omega : ¬ (0 ≤ counter + (k : Int) ∧ counter + (k : Int) ≤ 4294967295)), Bool.and_false, Bool.and_false]
        rw [chaV_no hk2]
        refine ⟨_, rfl, ?_⟩
        rw [decide_eq_false (by omega)]
        rfl) (by
      rintro _ ⟨rfl, hb⟩
      simp only
      rw [decide_eq_false (by omega : ¬ ((64 * ((text.length + 63) / 64) : Nat) : Int) < ((text.length : Nat) : Int)), List.take_of_length_le (by rw [xorV_len]; omega), decide_eq_true (by omega)]
      exact ⟨_, rfl, rfl⟩)
    rw [hr, hq]
    cases decide (text.length = 0 ∨ counter + (((text.length - 1) / 64 : Nat) : Int) ≤ 4294967295) <;> rfl
/-- one block of a stream, in place -/
theorem impl_inner {ρ : Type} (key : List UInt8) (counter : Int) (nonce text : List UInt8) (ht : text.length ≤ 1099511627776) (k : Nat) (hk : 64 * k < text.length) (h : chaOk key (counter + (k : Int)) nonce = true) :
    loopO (ρ := Ctl (List UInt8) ρ) (fun (S20 : Int × List UInt8) => (if (decide (S20.1 < (64 : Int))) = true then (some (decide (IntKind.i64.wrap (((64 * k : Nat) : Int) + S20.1) < ((S20.2.length : Nat) : Int))))
      else (some false)).bind (fun (T24 : Bool) =>
      if T24 = true then ((sidx (chaV key (counter + (k : Int)) nonce) S20.1).bind fun E28 =>
      (idx S20.2 (IntKind.i64.wrap (((64 * k : Nat) : Int) + S20.1))).bind fun E30 =>
      some (.go (IntKind.i64.wrap (S20.1 + (1 : Int)), (S20.2.set ((IntKind.i64.wrap (((64 * k : Nat) : Int) + S20.1)).toNat) (E30 ^^^ E28)))))
      else (some (.done (.go S20.2))))) ((0 : Int), (xorV key counter nonce text).take (64 * k) ++ text.drop (64 * k)) = some (.go ((xorV key counter nonce text).take (64 * (k + 1)) ++ text.drop (64 * (k + 1)))) := by
  have hz := xorV_len key counter nonce text
  refine loopO_is (fun j S => S = ((j : Int), (xorV key counter nonce text).take (64 * k + j) ++ text.drop (64 * k + j))) (min 64 (text.length - 64 * k)) _ rfl ?_ ?_
  · rintro j _ hj rfl
    left
    have hi : 64 * k + j < text.length := by omega
    have e1 : ((64 * k : Nat) : Int) + (j : Int) = ((64 * k + j : Nat) : Int) := by omega
    have hl : ((xorV key counter nonce text).take (64 * k + j)).length = 64 * k + j := by rw [List.length_take]; omega
    have hll : ((xorV key counter nonce text).take (64 * k + j) ++ text.drop (64 * k + j)).length = text.length := by rw [List.length_append, hl, List.length_drop]; omega
    simp only
    rw [e1, wrap_ok (n := ((64 * k + j : Nat) : Int)) (by omega) (by omega), decide_eq_true (by omega : (j : Int) < 64), hll, decide_eq_true (by omega : ((64 * k + j : Nat) : Int) < ((text.length : Nat) : Int))]
    simp only [if_true, Option.bind_some]
    rw [sidx_nat _ j (by rw [chaV_len _ _ _ h]; omega)]
    simp only [Option.bind_some]
    rw [idx_nat _ (64 * k + j) (by rw [hll]; exact hi)]
    simp only [Option.bind_some]
    rw [wrap_ok (by omega) (by omega), Int.toNat_natCast]
    refine ⟨_, rfl, ?_⟩
    have e2 : ((xorV key counter nonce text).take (64 * k + j) ++ text.drop (64 * k + j))[64 * k + j]'(by rw [hll]; exact hi) = text[64 * k + j] := by
      rw [List.getElem_append_right (by omega)]
      simp only [List.getElem_drop]
      congr 1
      omega
    rw [e2, show 64 * k + (j + 1) = (64 * k + j) + 1 from rfl, take_next _ _ (by rw [hz]; exact hi), xorV_at _ _ _ _ _ hi, strB_at k j (by omega) h, List.set_append_right _ _ (by omega), hl, Nat.sub_self, List.drop_eq_getElem_cons hi, List.append_assoc]
    rfl
  · rintro _ rfl
    simp only
    by_cases c : 64 * k + 64 ≤ text.length
    · have e : min 64 (text.length - 64 * k) = 64 := by omega
      rw [e, decide_eq_false (by omega : ¬ ((64 : Nat) : Int) < 64)]
      rfl
    · have e : 64 * k + min 64 (text.length - 64 * k) = text.length := by omega
      have e3 : (xorV key counter nonce text).take (64 * k + min 64 (text.length - 64 * k)) ++ text.drop (64 * k + min 64 (text.length - 64 * k)) = xorV key counter nonce text := by
        rw [e, List.take_of_length_le (by omega), List.drop_of_length_le (Nat.le_refl _), List.append_nil]
      rw [e3, hz, List.take_of_length_le (by omega), List.drop_of_length_le (by omega), List.append_nil]
      have e1 : ((64 * k : Nat) : Int) + ((min 64 (text.length - 64 * k) : Nat) : Int) = ((text.length : Nat) : Int) := by omega
      rw [e1, wrap_ok (by omega) (by omega), decide_eq_false (by omega : ¬ ((text.length : Nat) : Int) < ((text.length : Nat) : Int))]
      split <;> rfl
theorem impl_ChaStream_eq (key : List UInt8) (counter : Int) (nonce text : List UInt8) (ht : text.length ≤ 1099511627776) : impl_ChaStream key counter nonce text = some (streamV key counter nonce text) := by
  unfold impl_ChaStream streamV streamOk
  rw [impl_isCha_eq]
  simp only [Option.bind_some]
  cases h0 : chaOk key counter nonce with
  | false => rfl
  | true =>
    obtain ⟨_, _, hc1, hc2⟩ := chaOk_iff h0
    have hbr : byteRoom text = some () := by unfold byteRoom; rw [if_pos (by omega)]
    have e0 : Int.tdiv (((text.length : Nat) : Int) + 63) 64 = (((text.length + 63) / 64 : Nat) : Int) := by rw [Int.tdiv_eq_ediv_of_nonneg (by omega)]; omega
    simp only [Bool.not_true, Bool.false_eq_true, if_false, hbr, Option.bind_some, Bool.true_and]
    rw [wrap_ok (n := ((text.length : Nat) : Int) + 63) (by omega) (by omega), e0, wrap_ok (n := (((text.length + 63) / 64 : Nat) : Int)) (by omega) (by omega), wrap_ok (n := counter + (((text.length + 63) / 64 : Nat) : Int)) (by omega) (by omega), wrap_ok (n := counter + (((text.length + 63) / 64 : Nat) : Int) - 1) (by omega) (by omega)]
    have hg : (if decide ((((text.length + 63) / 64 : Nat) : Int) > 0) = true then (some (decide (counter + (((text.length + 63) / 64 : Nat) : Int) - 1 > 4294967295))) else (some false)) = some (!decide (text.length = 0 ∨ counter + (((text.length - 1) / 64 : Nat) : Int) ≤ 4294967295)) := by
      by_cases c : text.length = 0
      · rw [decide_eq_false (by omega), decide_eq_true (show text.length = 0 ∨ counter + (((text.length - 1) / 64 : Nat) : Int) ≤ 4294967295 from .inl c)]; rfl
      · rw [decide_eq_true (by omega)]
        by_cases c2 : counter + (((text.length - 1) / 64 : Nat) : Int) ≤ 4294967295
        · rw [decide_eq_false (by omega), decide_eq_true (by omega)]; rfl
        · rw [decide_eq_true (by omega), decide_eq_false (by omega)]; rfl
    rw [hg]
    cases hd : decide (text.length = 0 ∨ counter + (((text.length - 1) / 64 : Nat) : Int) ≤ 4294967295) with
    | false => rfl
    | true =>
      have hd' := of_decide_eq_true hd
      simp only [Option.bind_some, Bool.not_true, Bool.false_eq_true, if_false, cond_true]
      rw [loopO_is (ρ := Ctl (List UInt8) (List UInt8)) (s0 := (counter, (0 : Int), text)) (fun k S => S = (counter + (k : Int), ((64 * k : Nat) : Int), (xorV key counter nonce text).take (64 * k) ++ text.drop (64 * k))) ((text.length + 63) / 64) (.go (xorV key counter nonce text)) (by simp) ?_ ?_]
      · rfl
      · rintro k _ hk rfl
        left
        have hlt : 64 * k < text.length := by omega
        have hk2 := chaOk_at h0 k (by omega)
        have hl : ((xorV key counter nonce text).take (64 * k) ++ text.drop (64 * k)).length = text.length := by rw [List.length_append, List.length_take, List.length_drop, xorV_len]; omega
        simp only
        rw [hl, decide_eq_true (by omega : ((64 * k : Nat) : Int) < ((text.length : Nat) : Int)), impl_ChaBlock_eq]
        simp only [if_true, Option.bind_some]
        rw [impl_inner key counter nonce text ht k hlt hk2]
        simp only [bindC_go]
        rw [wrap_ok (n := counter + (k : Int) + 1) (by omega) (by omega), wrap_ok (n := ((64 * k : Nat) : Int) + 64) (by omega) (by omega)]
        exact ⟨_, rfl, by rw [show counter + (k : Int) + 1 = counter + ((k + 1 : Nat) : Int) by omega, show ((64 * k : Nat) : Int) + 64 = ((64 * (k + 1) : Nat) : Int) by omega]⟩
      · rintro _ rfl
        simp only
        rw [List.take_of_length_le (by rw [xorV_len]; omega), List.drop_of_length_le (by omega), List.append_nil, xorV_len, decide_eq_false (by omega)]
        rfl

/-! files sealed -/
/-! a known block -/
theorem stream_back {k : List UInt8} {n : Int} {z t : List UInt8} (h : streamV k n z t ≠ []) : (streamV k n z t).length = t.length ∧ streamV k n z (streamV k n z t) = t := by
  have ho : streamOk k n z t.length = true := by
    cases hc : streamOk k n z t.length with
    | true => rfl
    | false => unfold streamV at h; rw [hc] at h; exact absurd rfl h
  have e : streamV k n z t = xorV k n z t := by unfold streamV; rw [ho]; rfl
  rw [e]
  refine ⟨xorV_len _ _ _ _, ?_⟩
  unfold streamV
  rw [xorV_len, ho]
  exact xorV_twice _ _ _ _
/-! all that an iterator meets -/
theorem l7Batch_ok (b : List UInt8) (i h : Int) (hi : 0 ≤ i ∧ i ≤ b.length) (hb : b.length ≤ 1048576) : ∃ l i' h', spec_l7Batch { b := b, i := i, h := h } = some (l, { b := b, i := i', h := h' }) ∧ l.length ≤ 8 ∧ (0 ≤ i' ∧ i' ≤ b.length) := by
  unfold spec_l7Batch
  obtain ⟨x1, i1, h1, e1, g1, k1⟩ := l1Below_ok b i h 4 hi hb
  have hx1 := g1.2.1 (by omega)
  simp only [e1, Option.bind_some]
  rw [wrap_ok (n := 1 + x1) (by omega) (by omega)]
  refine loopO_G (τ := Int × Int × Int × List Op) (ρ := Int × Int × List Op) (R := List Op × L1Cur) (G := fun o => ∃ l i' h', o = some (l, { b := b, i := i', h := h' }) ∧ l.length ≤ 8 ∧ (0 ≤ i' ∧ i' ≤ b.length)) (I := fun k S => (0 ≤ S.1 ∧ S.1 ≤ b.length) ∧ S.2.2.1 = 1 + x1 - (k : Int) ∧ S.2.2.2.length = k) (1 + x1).toNat (Q := fun r => ∃ p q a, r = .go (p, q, a) ∧ (0 ≤ p ∧ p ≤ b.length) ∧ 1 ≤ a.length ∧ a.length ≤ 4) ⟨k1, by simp, by simp⟩ ?_ ?_ ?_
  · rintro k ⟨p, q, c, d⟩ hk ⟨b1, b2, b3⟩
    simp only at b1 b2 b3
    subst b2
    left
    obtain ⟨x3, i3, h3, e3, g3, k3⟩ := l7Key_ok b p q b1 hb
    obtain ⟨x4, i4, h4, e4, k4⟩ := l1Once_ok b i3 h3 3 k3 hb
    simp only [e3, e4, Option.bind_some]
    rw [if_pos (by simp only [decide_eq_true_eq]; omega), wrap_ok (n := 1 + x1 - (k : Int) - 1) (by omega) (by omega)]
    cases x4 with
    | true =>
      simp only [if_true, bindC_go]
      rw [app_ok (by simp only [List.length_singleton]; omega) (by simp only [List.length_singleton]; omega)]
      exact ⟨_, rfl, k4, by simp only; omega, by simp only [List.length_append, List.length_singleton]; omega⟩
    | false =>
      obtain ⟨x5, i5, h5, e5, g5, k5⟩ := l1Text_ok b i4 h4 5 (by omega) k4 hb
      simp only [Bool.false_eq_true, if_false, e5, Option.bind_some, bindC_go]
      rw [app_ok (by simp only [List.length_singleton]; omega) (by simp only [List.length_singleton]; omega)]
      exact ⟨_, rfl, k5, by simp only; omega, by simp only [List.length_append, List.length_singleton]; omega⟩
  · rintro ⟨p, q, c, d⟩ ⟨b1, b2, b3⟩
    simp only at b1 b2 b3
    exact ⟨_, by simp only; rw [if_neg (by simp only [decide_eq_true_eq]; omega)], p, q, d, rfl, b1, by omega, by omega⟩
  rintro _ ⟨p, q, d, rfl, b1, b2, b3⟩
  obtain ⟨x5, i5, h5, e5, k5⟩ := l1Once_ok b p q 10 b1 hb
  simp only [bindC_go, e5, Option.bind_some]
  cases x5 with
  | false =>
    simp only [Bool.false_eq_true, if_false, bindC_go]
    exact ⟨_, _, _, rfl, by omega, k5⟩
  | true =>
    obtain ⟨x6, i6, h6, e6, g6, k6⟩ := l1Below_ok b i5 h5 ((d.length : Nat) : Int) k5 hb
    have hx6 := g6.2.1 (by omega)
    obtain ⟨x7, i7, h7, e7, g7, k7⟩ := l1Below_ok b i6 h6 4 k6 hb
    have hid := idx_some' (l := d) g6.1 hx6
    simp only [if_true, e6, e7, Option.bind_some, hid]
    by_cases c0 : x7 = 0
    · rw [decide_eq_true c0]
      obtain ⟨x8, i8, h8, e8, g8, k8⟩ := l1Pick_ok b i7 h7 [[], [97, 97, 97, 97, 97, 97, 97, 97, 97, 97], [97, 97, 97, 97, 97, 97, 97, 97, 97, 97, 97]] (by simp) k7 hb
      simp only [if_true, e8, Option.bind_some, bindC_go]
      exact ⟨_, _, _, rfl, by simp only [List.length_set]; omega, k8⟩
    · rw [decide_eq_false c0]
      simp only [Bool.false_eq_true, if_false]
      by_cases c1 : x7 = 1
      · rw [decide_eq_true c1]
        obtain ⟨x8, i8, h8, e8, g8, k8⟩ := l1Text_ok b i7 h7 1 (by omega) k7 hb
        simp only [if_true, e8, Option.bind_some]
        rw [cat_ok (by simp only [List.length_cons, List.length_nil]; omega)]
        simp only [Option.bind_some, bindC_go]
        exact ⟨_, _, _, rfl, by simp only [List.length_set]; omega, k8⟩
      · rw [decide_eq_false c1]
        simp only [Bool.false_eq_true, if_false]
        by_cases c2 : x7 = 2
        · rw [decide_eq_true c2]
          simp only [if_true]
          rw [app_ok (by omega) (by omega)]
          simp only [Option.bind_some, bindC_go]
          exact ⟨_, _, _, rfl, by simp only [List.length_append]; omega, k7⟩
        · rw [decide_eq_false c2]
          simp only [Bool.false_eq_true, if_false, bindC_go]
          exact ⟨_, _, _, rfl, by simp, k7⟩
/-! compaction keeps what is seen -/
/-! draws of entries -/
/-! stable order: lists in order, class by class -/
/-! two elements change places -/
/-! the merge of two parts beside each other -/
/-! the first of each class, in order -/
/-! an engine's tables merged into one -/
/-! the merge and the flush that follow a put -/
/-! all entries of an engine -/
/-! the map of an engine -/
/-- the stream of a row -/
noncomputable def streamOfV (key : List UInt8) (x : LogRow) : List UInt8 :=
  if key.length = 32 ∧ (0 ≤ x.Boot ∧ x.Boot ≤ 1000) ∧ (0 ≤ x.Seq ∧ x.Seq ≤ 999999) then streamV key 0 (nonceV 3 (IntKind.i64.wrap (IntKind.i64.wrap (x.Boot * 1000000) + x.Seq))) (List.replicate x.Text.length 0) else []
theorem repeat_zeros (k : Nat) (h : k ≤ 140737488355328) : strings_Repeat [0] (k : Int) = some (List.replicate k 0) := by
  unfold strings_Repeat
  rw [if_pos ⟨by omega, by simpa using h, by omega⟩]
  have := Lib.repeatL_replicate (0 : UInt8) 1 k
  simpa using this
theorem impl_StreamOf_eq (key : List UInt8) (x : LogRow) (h : x.Text.length ≤ 1099511627776) : impl_StreamOf key x = some (streamOfV key x) := by
  unfold impl_StreamOf impl_isPlace impl_rowNonce streamOfV
  by_cases h1 : key.length = 32
  · have e1 : decide (((key.length : Nat) : Int) = 32) = true := decide_eq_true (by omega)
    simp only [e1, Bool.not_true, Bool.false_eq_true, if_false, inRange_eq, Option.bind_some, decide_eq_true_eq]
    by_cases h2 : 0 ≤ x.Boot ∧ x.Boot ≤ 1000
    · by_cases h3 : 0 ≤ x.Seq ∧ x.Seq ≤ 999999
      · simp only [h2, h3, h1, and_self, if_true, Option.bind_some, decide_true, Bool.not_true, Bool.false_eq_true, if_false, impl_NonceOf_eq]
        rw [repeat_zeros _ (by omega)]
        simp only [Option.bind_some]
        rw [impl_ChaStream_eq _ _ _ _ (by simpa using h)]
        rfl
      · simp only [h2, h3, and_self, and_false, if_true, if_false, Option.bind_some, decide_false, Bool.not_false]
    · simp only [h2, false_and, and_false, if_false, Option.bind_some, Bool.not_false, if_true]
  · have e1 : decide (((key.length : Nat) : Int) = 32) = false := decide_eq_false (by omega)
    simp only [e1, h1, Bool.not_false, if_true, Option.bind_some, false_and, if_false]
/-! batches as text -/
noncomputable def opB (o : Op) : List UInt8 := (if o.Del = true then [1] else [0]) ++ pieceV o.Key ++ (if o.Del = true then [] else pieceV o.Val)
noncomputable def showB (l : List Op) : List UInt8 := varV (l.length : Int) ++ l.flatMap opB
noncomputable def shownB (l : List Op) : List UInt8 := bif batchV l then showB l else []
theorem opV_iff {o : Op} (h : opV o = true) : (1 ≤ o.Key.length ∧ o.Key.length ≤ 10) ∧ o.Val.length ≤ 16 ∧ (o.Del = true → o.Val = []) := by
  unfold opV at h
  simp only [Bool.and_eq_true, Bool.or_eq_true, decide_eq_true_eq] at h
  refine ⟨by omega, by omega, fun hd => ?_⟩
  rw [hd] at h
  simpa using h.2.2
theorem batchV_iff {l : List Op} (h : batchV l = true) : (1 ≤ l.length ∧ l.length ≤ 6) ∧ ∀ o ∈ l, opV o = true := by
  unfold batchV at h
  simpa using h
theorem opB_len {o : Op} (h : opV o = true) : (opB o).length ≤ 41 := by
  obtain ⟨h1, h2, _⟩ := opV_iff h
  have h3 := pieceV_len o.Key
  have h4 := pieceV_len o.Val
  unfold opB
  cases o.Del <;> simp <;> omega
theorem showB_len {l : List Op} (h : batchV l = true) : (showB l).length ≤ 253 := by
  obtain ⟨h1, h2⟩ := batchV_iff h
  have h3 := flat_len opB 41 l fun o ho => opB_len (h2 o ho)
  have h4 := varV_len (l.length : Int)
  unfold showB
  rw [List.length_append]
  omega
theorem spec_ShowBatch_eq (l : List Op) (h : l.length ≤ 1048576) : spec_ShowBatch l = some (shownB l) := by
  unfold spec_ShowBatch shownB
  rw [spec_BatchOk_eq l h]
  cases hv : batchV l with
  | false => rfl
  | true =>
    obtain ⟨h1, h2⟩ := batchV_iff hv
    have hv1 := varV_len (l.length : Int)
    simp only [Option.bind_some, Bool.not_true, Bool.false_eq_true, if_false, cond_true, spec_Var_eq]
    rw [loopO_is (I := fun k S => S = (varV (l.length : Int) ++ (l.take k).flatMap opB, (k : Int))) l.length (.go (showB l)) (by simp) ?_ ?_]
    · rfl
    · rintro k _ hk rfl
      left
      have hl := flat_take_len opB 41 l k fun o ho => opB_len (h2 o ho)
      have ho := opB_len (h2 _ (List.getElem_mem hk))
      obtain ⟨g1, g2, _⟩ := opV_iff (h2 _ (List.getElem_mem hk))
      have p1 := pieceV_len l[k].Key
      have p2 := pieceV_len l[k].Val
      simp only [idx_nat l k hk, Option.bind_some, spec_l6Piece_eq l[k].Key (by omega), spec_l6Piece_eq l[k].Val (by omega), flat_take opB l k hk]
      rw [if_pos (by simp only [decide_eq_true_eq]; omega), wrap_ok (n := (k : Int) + 1) (by omega) (by omega)]
      cases hd : l[k].Del with
      | true =>
        simp only [if_true]
        rw [cat_ok (by simp only [List.length_append, List.length_cons, List.length_nil]; omega)]
        simp only [Option.bind_some]
        rw [cat_ok (by simp only [List.length_append, List.length_cons, List.length_nil]; omega)]
        refine ⟨_, rfl, ?_⟩
        simp only [opB, hd, if_true, List.append_nil, List.append_assoc]
        rfl
      | false =>
        simp only [Bool.false_eq_true, if_false]
        rw [cat_ok (by simp only [List.length_append, List.length_cons, List.length_nil]; omega)]
        simp only [Option.bind_some]
        rw [cat_ok (by simp only [List.length_append, List.length_cons, List.length_nil]; omega)]
        simp only [Option.bind_some]
        rw [cat_ok (by simp only [List.length_append, List.length_cons, List.length_nil]; omega)]
        refine ⟨_, rfl, ?_⟩
        simp only [opB, hd, Bool.false_eq_true, if_false, List.append_assoc]
        rfl
    · rintro _ rfl
      simp only
      rw [if_neg (by simp), List.take_length]
      rfl
theorem showB_ne {l : List Op} (h : batchV l = true) : showB l ≠ [] := by
  obtain ⟨h1, _⟩ := batchV_iff h
  unfold showB
  have := varV_ne (n := (l.length : Int)) (by omega)
  simp [this]
theorem impl_ShowBatch_eq (l : List Op) (h : l.length ≤ 1048576) : impl_ShowBatch l = some (shownB l) := by
  unfold impl_ShowBatch shownB
  rw [impl_BatchOk_eq l h]
  cases hv : batchV l with
  | false => rfl
  | true =>
    obtain ⟨h1, h2⟩ := batchV_iff hv
    have hv1 := varV_len (l.length : Int)
    simp only [Option.bind_some, Bool.not_true, Bool.false_eq_true, if_false, cond_true, impl_Var_eq]
    rw [app_ok (by simp only [List.length_append, List.length_cons, List.length_nil]; omega) (by simp only [List.length_append, List.length_cons, List.length_nil]; omega)]
    simp only [Option.bind_some, List.nil_append]
    rw [loopO_is (I := fun k S => S = ((k : Int), varV (l.length : Int) ++ (l.take k).flatMap opB)) l.length (.go (showB l)) (by simp) ?_ ?_]
    · simp only [bindC, Option.bind_some]
      unfold strOf
      rw [if_neg (showB_ne hv)]
      rfl
    · rintro k _ hk rfl
      left
      have hl := flat_take_len opB 41 l k fun o ho => opB_len (h2 o ho)
      have ho := opB_len (h2 _ (List.getElem_mem hk))
      obtain ⟨g1, g2, _⟩ := opV_iff (h2 _ (List.getElem_mem hk))
      have p1 := pieceV_len l[k].Key
      have p2 := pieceV_len l[k].Val
      simp only [idx_nat l k hk, Option.bind_some, impl_short_eq l[k].Key (by omega), impl_short_eq l[k].Val (by omega), flat_take opB l k hk]
      rw [if_pos (by simp only [decide_eq_true_eq]; omega), wrap_ok (n := (k : Int) + 1) (by omega) (by omega)]
      unfold impl_flag
      cases hd : l[k].Del with
      | true =>
        simp only [if_true, Option.bind_some]
        rw [cat_ok (by simp only [List.length_append, List.length_cons, List.length_nil]; omega)]
        simp only [Option.bind_some]
        rw [app_ok (by simp only [List.length_append, List.length_cons, List.length_nil]; omega) (by simp only [List.length_append, List.length_cons, List.length_nil]; omega)]
        refine ⟨_, rfl, ?_⟩
        simp only [opB, hd, if_true, List.append_nil, List.append_assoc]
        rfl
      | false =>
        simp only [Bool.false_eq_true, if_false, Option.bind_some]
        rw [cat_ok (by simp only [List.length_append, List.length_cons, List.length_nil]; omega)]
        simp only [Option.bind_some]
        rw [app_ok (by simp only [List.length_append, List.length_cons, List.length_nil]; omega) (by simp only [List.length_append, List.length_cons, List.length_nil]; omega)]
        simp only [Option.bind_some, Bool.not_false, if_true]
        rw [app_ok (by simp only [List.length_append, List.length_cons, List.length_nil]; omega) (by simp only [List.length_append, List.length_cons, List.length_nil]; omega)]
        refine ⟨_, rfl, ?_⟩
        simp only [opB, hd, Bool.false_eq_true, if_false, List.append_assoc]
        rfl
    · rintro _ rfl
      simp only
      rw [if_neg (by simp), List.take_length]
      rfl
/-- where a row may lie -/
noncomputable def placeV (boot seq : Int) : Bool := decide (0 ≤ boot ∧ boot ≤ 1000) && decide (0 ≤ seq ∧ seq ≤ 999999)
theorem spec_l8At_eq (boot seq : Int) : spec_l8At boot seq = some (placeV boot seq) := by
  unfold spec_l8At placeV
  simp only [l1In_eq, Option.bind_some]
  cases decide (0 ≤ boot ∧ boot ≤ 1000) <;> rfl
theorem impl_isPlace_eq (boot seq : Int) : impl_isPlace boot seq = some (placeV boot seq) := by
  unfold impl_isPlace placeV
  simp only [inRange_eq, Option.bind_some]
  cases decide (0 ≤ boot ∧ boot ≤ 1000) <;> rfl
noncomputable def placeN (boot seq : Int) : List UInt8 := nonceV 3 (IntKind.i64.wrap (IntKind.i64.wrap (boot * 1000000) + seq))
/-- a batch sealed -/
noncomputable def sealB (key : List UInt8) (boot seq : Int) (l : List Op) : List UInt8 := bif batchV l && (decide (key.length = 32) && placeV boot seq) then streamV key 0 (placeN boot seq) (showB l) else []
theorem len32 (key : List UInt8) : decide (((key.length : Nat) : Int) = 32) = decide (key.length = 32) := decide_eq_decide.2 (by omega)
theorem shown_len (l : List Op) : (shownB l).length ≤ 253 := by
  unfold shownB
  cases h : batchV l with
  | true => exact showB_len h
  | false => exact Nat.zero_le _
theorem spec_SealBatch_eq (key : List UInt8) (boot seq : Int) (l : List Op) (h : l.length ≤ 1048576) : spec_SealBatch key boot seq l = some (sealB key boot seq l) := by
  unfold spec_SealBatch sealB
  have hs := shown_len l
  simp only [spec_BatchOk_eq l h, spec_l8At_eq, spec_NonceOf_eq, spec_ShowBatch_eq l h, len32, Option.bind_some, spec_ChaStream_eq key 0 _ (shownB l) (by omega)]
  unfold shownB placeN
  cases batchV l <;> cases decide (key.length = 32) <;> cases placeV boot seq <;> rfl
theorem impl_SealBatch_eq (key : List UInt8) (boot seq : Int) (l : List Op) (h : l.length ≤ 1048576) : impl_SealBatch key boot seq l = some (sealB key boot seq l) := by
  unfold impl_SealBatch sealB impl_rowNonce
  have hs := shown_len l
  simp only [impl_BatchOk_eq l h, impl_isPlace_eq, impl_NonceOf_eq, impl_ShowBatch_eq l h, len32, Option.bind_some, impl_ChaStream_eq key 0 _ (shownB l) (by omega)]
  unfold shownB placeN
  cases batchV l <;> cases decide (key.length = 32) <;> cases placeV boot seq <;> rfl
/-! batches read -/
/-- a flag read on -/
noncomputable def rdF (t : List UInt8) (a : Nat) (bad : Bool) : Bool × Nat × Bool := (decide ((rdB t a bad 1).1 = [1]), (rdB t a bad 1).2.1, (!decide ((rdB t a bad 1).1 = [0]) && !decide ((rdB t a bad 1).1 = [1])) || (rdB t a bad 1).2.2)
theorem flag_eq (t : List UInt8) (a : Nat) (bad : Bool) (h : a ≤ t.length) (ht : t.length ≤ 1099511627776) : impl_reader_flag { text := t, at_ := (a : Int), bad := bad } = some ((rdF t a bad).1, { text := t, at_ := ((rdF t a bad).2.1 : Int), bad := (rdF t a bad).2.2 }) := by
  unfold impl_reader_flag rdF
  rw [bytes_eq t a bad 1 h ht (by omega)]
  simp only [Option.bind_some]
  cases decide ((rdB t a bad 1).1 = [0]) <;> cases decide ((rdB t a bad 1).1 = [1]) <;> rfl
theorem rdF_range (t : List UInt8) (a : Nat) (bad : Bool) (h : a ≤ t.length) : (rdF t a bad).2.1 ≤ t.length ∧ a ≤ (rdF t a bad).2.1 ∧ ((rdF t a bad).2.2 = false → bad = false) := by
  obtain ⟨h1, h2, h3⟩ := rdB_range t a bad 1 h
  refine ⟨h1, h2, fun e => h3 ?_⟩
  unfold rdF at e
  simp only [Bool.or_eq_false_iff] at e
  exact e.2
/-- an op read on -/
noncomputable def rdO (t : List UInt8) (a : Nat) : Op × Nat × Bool :=
  if (rdF t a false).1 = true then ({ Key := (rdS t (rdF t a false).2.1 (rdF t a false).2.2).1, Del := true, Val := [] }, (rdS t (rdF t a false).2.1 (rdF t a false).2.2).2)
  else ({ Key := (rdS t (rdF t a false).2.1 (rdF t a false).2.2).1, Del := false, Val := (rdS t (rdS t (rdF t a false).2.1 (rdF t a false).2.2).2.1 (rdS t (rdF t a false).2.1 (rdF t a false).2.2).2.2).1 },
    (rdS t (rdS t (rdF t a false).2.1 (rdF t a false).2.2).2.1 (rdS t (rdF t a false).2.1 (rdF t a false).2.2).2.2).2)
theorem rdO_range (t : List UInt8) (a : Nat) (h : a ≤ t.length) : (rdO t a).2.1 ≤ t.length := by
  obtain ⟨h1, _, _⟩ := rdF_range t a false h
  obtain ⟨h2, _⟩ := rdS_range t (rdF t a false).2.1 (rdF t a false).2.2 h1
  obtain ⟨h3, _⟩ := rdS_range t (rdS t (rdF t a false).2.1 (rdF t a false).2.2).2.1 (rdS t (rdF t a false).2.1 (rdF t a false).2.2).2.2 h2
  unfold rdO
  split
  · exact h2
  · exact h3
/-- ops read on, as many as are said -/
noncomputable def opsI (t : List UInt8) : Nat → Nat → Bool → List Op → Nat × Bool × List Op
  | 0, a, bad, out => (a, bad, out)
  | f + 1, a, bad, out => bif bad then (a, bad, out) else opsI t f (rdO t a).2.1 (rdO t a).2.2 (out ++ [(rdO t a).1])
noncomputable def opsR (t : List UInt8) : Nat × Bool × List Op := opsI t (goMin (rdN t 0 false).1 6).toNat (rdN t 0 false).2.1 (rdN t 0 false).2.2 []
noncomputable def readB (t : List UInt8) : List Op × Bool :=
  bif (!(opsR t).2.1 && decide ((opsR t).1 = t.length)) && (decide (((opsR t).2.2.length : Int) = (rdN t 0 false).1) && batchV (opsR t).2.2) then ((opsR t).2.2, true) else ([], false)
theorem opsI_range (t : List UInt8) : ∀ (f a : Nat) (bad : Bool) (out : List Op), a ≤ t.length → (opsI t f a bad out).1 ≤ t.length ∧ (opsI t f a bad out).2.2.length ≤ out.length + f
  | 0, a, bad, out, h => ⟨h, Nat.le_refl _⟩
  | f + 1, a, true, out, h => ⟨h, by simp [opsI]⟩
  | f + 1, a, false, out, h => by
    obtain ⟨h1, h2⟩ := opsI_range t f (rdO t a).2.1 (rdO t a).2.2 (out ++ [(rdO t a).1]) (rdO_range t a h)
    refine ⟨h1, ?_⟩
    simp only [opsI, cond_false]
    simp only [List.length_append, List.length_singleton] at h2
    omega
theorem impl_ReadBatch_eq (t : List UInt8) (ht : t.length ≤ 1048576) : impl_ReadBatch t = some (readB t) := by
  unfold impl_ReadBatch readB
  obtain ⟨n1, n2, _⟩ := rdN_range t 0 false (Nat.zero_le _)
  rw [show impl_reader_number { text := t, at_ := (0 : Int), bad := false } = _ from number_eq t 0 false (Nat.zero_le _) (by omega)]
  simp only [Option.bind_some]
  have hloop : ∀ (f a i : Nat) (bad : Bool) (out : List Op), a ≤ t.length → (i : Int) + (f : Int) = goMin (rdN t 0 false).1 6 → i + f ≤ 6 → out.length ≤ i →
      loopO (ρ := Ctl (List UInt8 × Int × Bool × List Op) (List Op × Bool)) (fun (S5 : List UInt8 × Int × Bool × Int × List Op) => (if (decide (S5.2.2.2.1 < goMin (rdN t 0 false).1 (6 : Int))) = true then (some (!S5.2.2.1))
        else (some false)).bind (fun (T9 : Bool) =>
        if T9 = true then ((impl_reader_flag ({ text := S5.1, at_ := S5.2.1, bad := S5.2.2.1 : Reader })).bind fun R13 =>
        (impl_reader_short R13.2).bind fun R17 =>
        bindC (if (!R13.1) = true then ((impl_reader_short R17.2).bind fun R23 =>
        some (.go (R23.2.text, R23.2.at_, R23.2.bad, R23.1)))
        else (some (.go (R17.2.text, R17.2.at_, R17.2.bad, []))))
        (fun (T20 : List UInt8 × Int × Bool × List UInt8) => (app 40 S5.2.2.2.2 ([{ Key := R17.1, Del := R13.1, Val := T20.2.2.2 : Op }])).bind fun E28 =>
        some (.go (T20.1, T20.2.1, T20.2.2.1, IntKind.i64.wrap (S5.2.2.2.1 + (1 : Int)), E28))))
        else (some (.done (.go (S5.1, S5.2.1, S5.2.2.1, S5.2.2.2.2))))))
        (t, (a : Int), bad, (i : Int), out) = some (.go (t, ((opsI t f a bad out).1 : Int), (opsI t f a bad out).2.1, (opsI t f a bad out).2.2)) := by
    intro f
    induction f with
    | zero =>
      intro a i bad out ha hi h6 ho
      rw [loopO_eq]
      simp only [decide_eq_false (by omega : ¬ (i : Int) < goMin (rdN t 0 false).1 6), Bool.false_eq_true, if_false, Option.bind_some]
      rfl
    | succ f ih =>
      intro a i bad out ha hi h6 ho
      rw [loopO_eq]
      simp only [decide_eq_true (by omega : (i : Int) < goMin (rdN t 0 false).1 6), if_true, Option.bind_some]
      cases bad with
      | true => simp only [Bool.not_true, Bool.false_eq_true, if_false]; rfl
      | false =>
        obtain ⟨h1, _, _⟩ := rdF_range t a false ha
        obtain ⟨h2, _⟩ := rdS_range t (rdF t a false).2.1 (rdF t a false).2.2 h1
        obtain ⟨h3, _⟩ := rdS_range t (rdS t (rdF t a false).2.1 (rdF t a false).2.2).2.1 (rdS t (rdF t a false).2.1 (rdF t a false).2.2).2.2 h2
        simp only [Bool.not_false, if_true, flag_eq t a false ha (by omega), Option.bind_some, short_eq t _ _ h1 (by omega), short_eq t _ _ h2 (by omega)]
        rw [opsI]
        simp only [cond_false]
        unfold rdO
        cases hd : (rdF t a false).1 with
        | true =>
          simp only [Bool.not_true, Bool.false_eq_true, if_false, if_true, bindC_go]
          rw [app_ok (by simp; omega) (by simp; omega), wrap_ok (n := (i : Int) + 1) (by omega) (by omega)]
          exact ih _ (i + 1) _ _ h2 (by omega) (by omega) (by simp; omega)
        | false =>
          simp only [Bool.not_false, Bool.false_eq_true, if_false, if_true, bindC_go]
          rw [app_ok (by simp; omega) (by simp; omega), wrap_ok (n := (i : Int) + 1) (by omega) (by omega)]
          exact ih _ (i + 1) _ _ h3 (by omega) (by omega) (by simp; omega)
  have hg : 0 ≤ goMin (rdN t 0 false).1 6 ∧ goMin (rdN t 0 false).1 6 ≤ 6 := by unfold goMin; split <;> omega
  have hl := hloop (goMin (rdN t 0 false).1 6).toNat (rdN t 0 false).2.1 0 (rdN t 0 false).2.2 [] n2 (by omega) (by omega) (by simp)
  rw [show ((0 : Nat) : Int) = 0 from rfl] at hl
  rw [hl]
  have e : opsI t (goMin (rdN t 0 false).1 6).toNat (rdN t 0 false).2.1 (rdN t 0 false).2.2 [] = opsR t := rfl
  rw [e]
  obtain ⟨r1, r2⟩ := opsI_range t (goMin (rdN t 0 false).1 6).toNat (rdN t 0 false).2.1 (rdN t 0 false).2.2 [] n2
  rw [e] at r1 r2
  unfold impl_reader_done
  have e1 : decide ((((opsR t).1 : Nat) : Int) = ((t.length : Nat) : Int)) = decide ((opsR t).1 = t.length) := decide_eq_decide.2 (by omega)
  simp only [bindC_go, e1, impl_BatchOk_eq (opsR t).2.2 (by simp only [List.length_nil] at r2; omega), Option.bind_some]
  cases (opsR t).2.1 <;> cases decide ((opsR t).1 = t.length) <;> cases decide (((opsR t).2.2.length : Int) = (rdN t 0 false).1) <;> cases batchV (opsR t).2.2 <;> rfl
theorem rdF_enc {t rest : List UInt8} {a : Nat} {b : Bool} (h : t.drop a = (if b = true then [1] else [0]) ++ rest) : rdF t a false = (b, a + 1, false) := by
  have hl : a + 1 ≤ t.length := by
    have := congrArg List.length h
    rw [List.length_drop, List.length_append] at this
    cases b <;> simp at this <;> omega
  unfold rdF rdB
  rw [decide_eq_false (show ¬ t.length < a + (1 : Int).toNat from by show ¬ t.length < a + 1; omega), h]
  cases b <;> rfl
theorem rdO_enc {t rest : List UInt8} {a : Nat} {o : Op} (ho : opV o = true) (h : t.drop a = opB o ++ rest) : rdO t a = (o, a + (opB o).length, false) := by
  obtain ⟨g1, g2, g3⟩ := opV_iff ho
  have h0 : t.drop a = (if o.Del = true then [1] else [0]) ++ (pieceV o.Key ++ ((if o.Del = true then [] else pieceV o.Val) ++ rest)) := by rw [h]; unfold opB; simp only [List.append_assoc]
  have hlen := congrArg List.length h0
  rw [List.length_drop] at hlen
  simp only [List.length_append] at hlen
  have l1 : (if o.Del = true then [1] else [0] : List UInt8).length = 1 := by split <;> rfl
  have l2 : 1 ≤ (pieceV o.Key).length := by unfold pieceV; rw [List.length_append]; omega
  have hle : a + 1 + (pieceV o.Key).length ≤ t.length := by omega
  have h1 := drop_enc h0
  rw [l1] at h1
  have h2 := drop_enc h1
  unfold rdO
  rw [rdF_enc h0]
  simp only
  rw [rdS_enc h1 (by omega) (by omega)]
  obtain ⟨k, d, v⟩ := o
  cases d with
  | true =>
    have : v = [] := g3 rfl
    subst this
    simp [opB]
    omega
  | false =>
    simp only [Bool.false_eq_true, if_false] at h2 ⊢
    rw [rdS_enc h2 (by simpa using Nat.le_trans g2 (by omega)) hle]
    simp [opB]
    omega
theorem opsI_enc (t : List UInt8) : ∀ (l : List Op) (a : Nat) (out : List Op) (rest : List UInt8), (∀ o ∈ l, opV o = true) → t.drop a = l.flatMap opB ++ rest → opsI t l.length a false out = (a + (l.flatMap opB).length, false, out ++ l)
  | [], a, out, rest, _, _ => by simp [opsI]
  | o :: l, a, out, rest, hv, hd => by
    have h1 : t.drop a = opB o ++ (l.flatMap opB ++ rest) := by rw [hd, List.flatMap_cons, List.append_assoc]
    rw [List.length_cons, opsI, rdO_enc (hv o (by simp)) h1]
    simp only [cond_false]
    rw [opsI_enc t l (a + (opB o).length) (out ++ [o]) rest (fun y hy => hv y (by simp [hy])) (drop_enc h1)]
    simp only [List.flatMap_cons, List.length_append, List.append_assoc, List.cons_append, List.nil_append, Nat.add_assoc]
theorem readB_show {l : List Op} (h : batchV l = true) : readB (showB l) = (l, true) := by
  obtain ⟨h1, h2⟩ := batchV_iff h
  have p0 : (showB l).drop 0 = varV (l.length : Int) ++ (l.flatMap opB ++ []) := by simp [showB]
  have p1 := drop_enc p0
  have hn := rdN_enc p0 (by omega)
  have hg : goMin (l.length : Int) 6 = (l.length : Int) := by unfold goMin; split <;> omega
  have ho : opsR (showB l) = ((showB l).length, false, l) := by
    unfold opsR
    rw [hn]
    simp only [hg, Int.toNat_natCast]
    rw [opsI_enc (showB l) l _ [] [] h2 p1]
    simp [showB]
  unfold readB
  rw [ho, hn, h]
  simp
noncomputable def openB (key : List UInt8) (boot seq : Int) (s : List UInt8) : List Op × Bool := bif decide (key.length = 32) && (placeV boot seq && decide (s.length ≤ 300)) then readB (streamV key 0 (placeN boot seq) s) else ([], false)
theorem streamV_len (key : List UInt8) (counter : Int) (nonce text : List UInt8) : (streamV key counter nonce text).length ≤ text.length := by
  unfold streamV
  cases streamOk key counter nonce text.length with
  | true => exact Nat.le_of_eq (xorV_len _ _ _ _)
  | false => exact Nat.zero_le _
theorem impl_OpenBatch_eq (key : List UInt8) (boot seq : Int) (s : List UInt8) (h : s.length ≤ 1048576) : impl_OpenBatch key boot seq s = some (openB key boot seq s) := by
  unfold impl_OpenBatch openB impl_rowNonce
  have hs := streamV_len key 0 (placeN boot seq) s
  have e1 : decide (((s.length : Nat) : Int) > 300) = !decide (s.length ≤ 300) := by
    by_cases c : s.length ≤ 300
    · rw [decide_eq_true c, decide_eq_false (by omega)]; rfl
    · rw [decide_eq_false c, decide_eq_true (by omega)]; rfl
  simp only [impl_isPlace_eq, impl_NonceOf_eq, len32, Option.bind_some, impl_ChaStream_eq key 0 _ s (by omega), e1]
  have hr := impl_ReadBatch_eq (streamV key 0 (placeN boot seq) s) (by omega)
  unfold placeN at hr
  unfold placeN
  simp only [hr, Option.bind_some]
  cases decide (key.length = 32) <;> cases placeV boot seq <;> cases decide (s.length ≤ 300) <;> rfl
theorem openB_seal {key : List UInt8} {boot seq : Int} {l : List Op} (h : sealB key boot seq l ≠ []) : openB key boot seq (sealB key boot seq l) = (l, true) ∧ (sealB key boot seq l).length = (showB l).length ∧ batchV l = true ∧ key.length = 32 ∧ placeV boot seq = true ∧ sealB key boot seq l = streamV key 0 (placeN boot seq) (showB l) := by
  unfold sealB at h ⊢
  cases hv : batchV l with
  | false => rw [hv] at h; exact absurd rfl h
  | true =>
    cases hk : decide (key.length = 32) with
    | false => rw [hv, hk] at h; exact absurd rfl h
    | true =>
      cases hp : placeV boot seq with
      | false => rw [hv, hk, hp] at h; exact absurd rfl h
      | true =>
        rw [hv, hk, hp] at h
        simp only [Bool.and_self, cond_true] at h ⊢
        obtain ⟨h1, h2⟩ := stream_back h
        have hl := showB_len hv
        refine ⟨?_, h1, trivial, of_decide_eq_true hk, trivial, trivial⟩
        unfold openB
        rw [hk, hp, decide_eq_true (by omega), h2]
        exact readB_show hv
theorem DrawSealBatch_ok (code : List UInt8) (hb : code.length ≤ 1048576) : ∃ k b s l, spec_DrawSealBatch code = some (k, b, s, l) ∧ l.length ≤ 8 := by
  unfold spec_DrawSealBatch
  obtain ⟨q, hq⟩ := l1New_ok code hb
  obtain ⟨k, i1, h1, e1, _, k1⟩ := l3Key_ok code 0 q (by omega) hb
  obtain ⟨b, i2, h2, e2, _, k2⟩ := l1PickInt_ok code i1 h1 [0, 1, 1000, 1001, -1] (by simp) k1 hb
  obtain ⟨s, i3, h3, e3, _, k3⟩ := l1PickInt_ok code i2 h2 [0, 7, 999999, 1000000] (by simp) k2 hb
  obtain ⟨l, i4, h4, e4, g4, k4⟩ := l7Batch_ok code i3 h3 k3 hb
  simp only [hq, Option.bind_some, e1, e2, e3, e4]
  exact ⟨_, _, _, _, rfl, g4⟩
theorem FnSealed_pure (code : List UInt8) : laws_FnSealed code = some true := by
  unfold laws_FnSealed
  rw [big_eq]
  simp only [Option.bind_some]
  by_cases hc : ((code.length : Nat) : Int) > 1048576
  · rw [decide_eq_true hc]; rfl
  rw [decide_eq_false hc]
  have hb : code.length ≤ 1048576 := by omega
  obtain ⟨k, b, sq, l, e1, hl⟩ := DrawSealBatch_ok code hb
  simp only [Bool.false_eq_true, if_false, e1, Option.bind_some, impl_SealBatch_eq k b sq l (by omega), spec_SealBatch_eq k b sq l (by omega), decide_true, Bool.not_true]
  by_cases h0 : sealB k b sq l = []
  · rw [decide_eq_true h0]; rfl
  rw [decide_eq_false h0]
  obtain ⟨g1, g2, g3, g4, g5, g6⟩ := openB_seal h0
  have hs := showB_len g3
  have hst : streamOfV k { Tenant := 0, Boot := b, Seq := sq, Text := sealB k b sq l, Synced := false } = xorV k 0 (placeN b sq) (List.replicate (sealB k b sq l).length 0) := by
    unfold streamOfV
    unfold placeV at g5
    rw [Bool.and_eq_true, decide_eq_true_eq, decide_eq_true_eq] at g5
    rw [if_pos ⟨g4, g5.1, g5.2⟩]
    show streamV k 0 (placeN b sq) _ = _
    unfold streamV
    rw [List.length_replicate, g2]
    have : streamOk k 0 (placeN b sq) (showB l).length = true := by
      cases c : streamOk k 0 (placeN b sq) (showB l).length with
      | true => rfl
      | false => rw [g6] at h0; unfold streamV at h0; rw [c] at h0; exact absurd rfl h0
    rw [this]
    rfl
  have hx : sealB k b sq l = xorV k 0 (placeN b sq) (showB l) := by
    rw [g6]
    unfold streamV
    have : streamOk k 0 (placeN b sq) (showB l).length = true := by
      cases c : streamOk k 0 (placeN b sq) (showB l).length with
      | true => rfl
      | false => rw [g6] at h0; unfold streamV at h0; rw [c] at h0; exact absurd rfl h0
    rw [this]
    rfl
  simp only [Bool.false_eq_true, if_false, impl_OpenBatch_eq k b sq (sealB k b sq l) (by omega), Option.bind_some, g1, impl_StreamOf_eq k { Tenant := 0, Boot := b, Seq := sq, Text := sealB k b sq l, Synced := false } (by show (sealB k b sq l).length ≤ _; omega), hst]
  have hwl : (xorV k 0 (placeN b sq) (List.replicate (sealB k b sq l).length 0)).length = (showB l).length := by rw [xorV_len, List.length_replicate, g2]
  rw [loopO_is (I := fun j S => S = ((j : Int), (showB l).take j)) (showB l).length (.go (showB l)) (by simp) ?_ ?_]
  · simp [spec_ShowBatch_eq l (by omega), shownB, g3, g2]
  · rintro j _ hj rfl
    left
    have hsl : j < (sealB k b sq l).length := by omega
    simp only [decide_eq_true (show (j : Int) < (((sealB k b sq l).length : Nat) : Int) by omega), decide_eq_true (show (j : Int) < (((xorV k 0 (placeN b sq) (List.replicate (sealB k b sq l).length 0)).length : Nat) : Int) by omega), if_true, Option.bind_some]
    rw [sidx_nat _ j hsl, Option.bind_some, sidx_nat _ j (by omega), Option.bind_some]
    have hbyte : (sealB k b sq l)[j] ^^^ (xorV k 0 (placeN b sq) (List.replicate (sealB k b sq l).length 0))[j]'(by omega) = (showB l)[j] := by
      have e1 : (sealB k b sq l)[j] = (showB l)[j] ^^^ strB k 0 (placeN b sq) j := by
        simp only [hx]
        exact xorV_at _ _ _ _ j hj
      rw [e1, xorV_at _ _ _ _ j (by simpa using hsl)]
      simp only [List.getElem_replicate, UInt8.zero_xor]
      exact xor_back _ _
    rw [hbyte, app_ok (by simp; omega) (by simp; omega), wrap_ok (by omega) (by omega)]
    exact ⟨_, rfl, by rw [take_next _ _ hj]; rfl⟩
  · rintro _ rfl
    simp only [decide_eq_false (show ¬ (((showB l).length : Nat) : Int) < (((sealB k b sq l).length : Nat) : Int) by omega), Bool.false_eq_true, if_false, Option.bind_some, List.take_length]
theorem FnSealed_proved : Rows.FnSealedSaid := FnSealed_over fun code _ => FnSealed_pure code

end Go.Proofs.Ytablbamlbfgfpaa
