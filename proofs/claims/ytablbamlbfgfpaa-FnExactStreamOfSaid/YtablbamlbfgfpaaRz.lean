/-
  The plain laws: what the pure functions come to, and the statements. Conditions: none.
-/
import Derived.Test.YtablbamlbfgfpaaPm
import Derived.Test.YtablbamlbfgfpaaR2
set_option linter.unusedVariables false
set_option linter.unusedSimpArgs false
namespace Go.Proofs.Ytablbamlbfgfpaa
open Go Sl

theorem inRange_eq (n a b : Int) : impl_inRange n a b = some (decide (a ≤ n ∧ n ≤ b)) := by
  unfold impl_inRange
  by_cases h : n ≥ a <;> simp [h]
theorem l1In_eq (n a b : Int) : spec_l1In n a b = some (decide (a ≤ n ∧ n ≤ b)) := by
  unfold spec_l1In
  by_cases h : n ≥ a <;> simp [h]
/-! ### SpaceOk -/
theorem szLogRow_eq (x : LogRow) (left : Int) (h1 : 0 ≤ left) (h2 : left ≤ 1048576) (h3 : x.Text.length ≤ 9223372036854775807) : laws_szLogRow x left = some (szV left x.Text.length) := by
  unfold laws_szLogRow szV
  rw [wrap_ok (by omega) (by omega)]
  by_cases h : left - (x.Text.length : Int) < 0
  · simp [h, show left < (x.Text.length : Int) by omega]
  · simp [h, show ¬ left < (x.Text.length : Int) by omega]
/-! words of bits -/
theorem iand64 {a b : Nat} (ha : a < 2 ^ 63) (hb : b < 2 ^ 63) : iand .i64 (a : Int) (b : Int) = ((a &&& b : Nat) : Int) := by
  unfold iand
  have h1 : a &&& b ≤ a := Nat.and_le_left
  have e : (BitVec.ofInt IntKind.i64.bits (a : Int) &&& BitVec.ofInt IntKind.i64.bits (b : Int)).toNat = a &&& b := by
    show (BitVec.ofInt 64 (a : Int) &&& BitVec.ofInt 64 (b : Int)).toNat = a &&& b
    rw [BitVec.ofInt_natCast, BitVec.ofInt_natCast, BitVec.toNat_and, BitVec.toNat_ofNat, BitVec.toNat_ofNat, Nat.mod_eq_of_lt (by omega), Nat.mod_eq_of_lt (by omega)]
  rw [e]
  exact wrap_ok (by omega) (by omega)
theorem ior64 {a b : Nat} (ha : a < 2 ^ 63) (hb : b < 2 ^ 63) : ior .i64 (a : Int) (b : Int) = ((a ||| b : Nat) : Int) := by
  unfold ior
  have h1 : a ||| b < 2 ^ 63 := Nat.or_lt_two_pow ha hb
  have e : (BitVec.ofInt IntKind.i64.bits (a : Int) ||| BitVec.ofInt IntKind.i64.bits (b : Int)).toNat = a ||| b := by
    show (BitVec.ofInt 64 (a : Int) ||| BitVec.ofInt 64 (b : Int)).toNat = a ||| b
    rw [BitVec.ofInt_natCast, BitVec.ofInt_natCast, BitVec.toNat_or, BitVec.toNat_ofNat, BitVec.toNat_ofNat, Nat.mod_eq_of_lt (by omega), Nat.mod_eq_of_lt (by omega)]
  rw [e]
  exact wrap_ok (by omega) (by omega)
theorem ixor64 {a b : Nat} (ha : a < 2 ^ 63) (hb : b < 2 ^ 63) : ixor .i64 (a : Int) (b : Int) = ((a ^^^ b : Nat) : Int) := by
  unfold ixor
  have h1 : a ^^^ b < 2 ^ 63 := Nat.xor_lt_two_pow ha hb
  have e : (BitVec.ofInt IntKind.i64.bits (a : Int) ^^^ BitVec.ofInt IntKind.i64.bits (b : Int)).toNat = a ^^^ b := by
    show (BitVec.ofInt 64 (a : Int) ^^^ BitVec.ofInt 64 (b : Int)).toNat = a ^^^ b
    rw [BitVec.ofInt_natCast, BitVec.ofInt_natCast, BitVec.toNat_xor, BitVec.toNat_ofNat, BitVec.toNat_ofNat, Nat.mod_eq_of_lt (by omega), Nat.mod_eq_of_lt (by omega)]
  rw [e]
  exact wrap_ok (by omega) (by omega)
theorem wrap32 (n : Int) : IntKind.u32.wrap n = n % 4294967296 := by simp [IntKind.wrap, IntKind.bits, IntKind.signed]
theorem wrap64u (n : Int) : IntKind.u64.wrap n = n % 18446744073709551616 := by simp [IntKind.wrap, IntKind.bits, IntKind.signed]
theorem ior32 {a b : Nat} (ha : a < 2 ^ 32) (hb : b < 2 ^ 32) : ior .u32 (a : Int) (b : Int) = ((a ||| b : Nat) : Int) := by
  unfold ior
  have h1 : a ||| b < 2 ^ 32 := Nat.or_lt_two_pow ha hb
  have e : (BitVec.ofInt IntKind.u32.bits (a : Int) ||| BitVec.ofInt IntKind.u32.bits (b : Int)).toNat = a ||| b := by
    show (BitVec.ofInt 32 (a : Int) ||| BitVec.ofInt 32 (b : Int)).toNat = a ||| b
    rw [BitVec.ofInt_natCast, BitVec.ofInt_natCast, BitVec.toNat_or, BitVec.toNat_ofNat, BitVec.toNat_ofNat, Nat.mod_eq_of_lt (by omega), Nat.mod_eq_of_lt (by omega)]
  rw [e, wrap32]
  omega
theorem ixor32 {a b : Nat} (ha : a < 2 ^ 32) (hb : b < 2 ^ 32) : ixor .u32 (a : Int) (b : Int) = ((a ^^^ b : Nat) : Int) := by
  unfold ixor
  have h1 : a ^^^ b < 2 ^ 32 := Nat.xor_lt_two_pow ha hb
  have e : (BitVec.ofInt IntKind.u32.bits (a : Int) ^^^ BitVec.ofInt IntKind.u32.bits (b : Int)).toNat = a ^^^ b := by
    show (BitVec.ofInt 32 (a : Int) ^^^ BitVec.ofInt 32 (b : Int)).toNat = a ^^^ b
    rw [BitVec.ofInt_natCast, BitVec.ofInt_natCast, BitVec.toNat_xor, BitVec.toNat_ofNat, BitVec.toNat_ofNat, Nat.mod_eq_of_lt (by omega), Nat.mod_eq_of_lt (by omega)]
  rw [e, wrap32]
  omega
theorem ishr_nat {k : IntKind} {a n : Nat} (hn : n ≤ k.bits) : ishr k (a : Int) (n : Int) = ((a / 2 ^ n : Nat) : Int) := by
  unfold ishr
  rw [Int.toNat_natCast, Nat.min_eq_left hn, Int.fdiv_eq_ediv_of_nonneg _ (by exact_mod_cast Nat.zero_le _)]
  norm_cast
theorem ishl64 {a n : Nat} (hn : n ≤ 64) (h : a * 2 ^ n < 2 ^ 63) : ishl .i64 (a : Int) (n : Int) = ((a * 2 ^ n : Nat) : Int) := by
  unfold ishl
  have hb : IntKind.i64.bits = 64 := rfl
  rw [Int.toNat_natCast, hb, Nat.min_eq_left hn]
  have e : (a : Int) * 2 ^ n = ((a * 2 ^ n : Nat) : Int) := by norm_cast
  rw [e]
  exact wrap_ok (by omega) (by omega)
theorem ishl32 {a n : Nat} (hn : n ≤ 32) : ishl .u32 (a : Int) (n : Int) = ((a * 2 ^ n % 4294967296 : Nat) : Int) := by
  unfold ishl
  have hb : IntKind.u32.bits = 32 := rfl
  have e : (a : Int) * 2 ^ n = ((a * 2 ^ n : Nat) : Int) := by norm_cast
  rw [Int.toNat_natCast, hb, Nat.min_eq_left hn, wrap32, e]
  generalize a * 2 ^ n = z
  omega
theorem l3Word_eq {x : Nat} (h : x < 2 ^ 63) : spec_l3Word (x : Int) = some ((x % 4294967296 : Nat) : Int) := by
  unfold spec_l3Word
  rw [show (4294967295 : Int) = ((4294967295 : Nat) : Int) from rfl, iand64 h (by decide), show x &&& 4294967295 = x % 4294967296 from Nat.and_two_pow_sub_one_eq_mod x 32]
/-- the bits of a word turned to the left -/
def rotN (x n : Nat) : Nat := x * 2 ^ n % 4294967296 ||| x / 2 ^ (32 - n)
theorem rotN_lt {x n : Nat} (h : x < 4294967296) : rotN x n < 4294967296 := by
  unfold rotN
  refine Nat.or_lt_two_pow (n := 32) (Nat.mod_lt _ (by decide)) ?_
  exact Nat.lt_of_le_of_lt (Nat.div_le_self _ _) h
theorem l3Left_eq {x n : Nat} (h : x < 4294967296) (hn : n ≤ 16) : spec_l3Left (x : Int) (n : Int) = some (rotN x n : Int) := by
  unfold spec_l3Left nn
  have h1 : x * 2 ^ n < 2 ^ 63 := by
    have : 2 ^ n ≤ 2 ^ 16 := Nat.pow_le_pow_right (by decide) hn
    calc x * 2 ^ n ≤ x * 2 ^ 16 := Nat.mul_le_mul_left _ this
      _ < 2 ^ 63 := by omega
  have h2 : x / 2 ^ (32 - n) < 2 ^ 32 := Nat.lt_of_le_of_lt (Nat.div_le_self _ _) h
  have h3 : IntKind.u64.wrap ((32 : Int) - (n : Int)) = ((32 - n : Nat) : Int) := by rw [wrap64u]; omega
  rw [if_neg (by omega), h3, ishl64 (by omega) h1, ishr_nat (by show 32 - n ≤ 64; omega), ior64 h1 (by omega)]
  simp only [Option.bind_some]
  rw [l3Word_eq (Nat.or_lt_two_pow h1 (by omega))]
  simp only [Option.bind_some]
  unfold rotN
  rw [show (4294967296 : Nat) = 2 ^ 32 from rfl, Nat.or_mod_two_pow, Nat.mod_eq_of_lt h2]
theorem rot32_eq {x n : Nat} (h : x < 4294967296) (hn : n ≤ 16) : math_bits_RotateLeft32 (x : Int) (n : Int) = some (rotN x n : Int) := by
  unfold math_bits_RotateLeft32 nn
  have h0 : iand .u64 (IntKind.u64.wrap (n : Int)) (31 : Int) = (n : Int) := by
    have e : IntKind.u64.wrap (n : Int) = (n : Int) := by rw [wrap64u]; omega
    rw [e]
    unfold iand
    have e2 : (BitVec.ofInt IntKind.u64.bits (n : Int) &&& BitVec.ofInt IntKind.u64.bits (31 : Int)).toNat = n := by
      show (BitVec.ofInt 64 (n : Int) &&& BitVec.ofInt 64 ((31 : Nat) : Int)).toNat = n
      rw [BitVec.ofInt_natCast, BitVec.ofInt_natCast, BitVec.toNat_and, BitVec.toNat_ofNat, BitVec.toNat_ofNat, Nat.mod_eq_of_lt (by omega), Nat.mod_eq_of_lt (by omega)]
      rw [show n &&& 31 = n % 32 from Nat.and_two_pow_sub_one_eq_mod n 5]
      omega
    rw [e2, wrap64u]
    omega
  have h2 : x / 2 ^ (32 - n) < 2 ^ 32 := Nat.lt_of_le_of_lt (Nat.div_le_self _ _) h
  have h3 : IntKind.u64.wrap ((32 : Int) - (n : Int)) = ((32 - n : Nat) : Int) := by rw [wrap64u]; omega
  rw [h0, if_neg (by omega), h3, ishl32 (by omega), ishr_nat (by show 32 - n ≤ 32; omega), ior32 (Nat.mod_lt _ (by decide)) h2]
  rfl
theorem ior_same {p q : Int} (hp : 0 ≤ p ∧ p < 4294967296) (hq : 0 ≤ q ∧ q < 4294967296) : ior .u32 p q = ior .i64 p q ∧ 0 ≤ ior .i64 p q ∧ ior .i64 p q < 4294967296 := by
  have e1 : p = (p.toNat : Int) := by omega
  have e2 : q = (q.toNat : Int) := by omega
  have h1 : p.toNat < 2 ^ 32 := by omega
  have h2 : q.toNat < 2 ^ 32 := by omega
  have h3 := Nat.or_lt_two_pow h1 h2
  rw [e1, e2, ior32 h1 h2, ior64 (by omega) (by omega)]
  generalize p.toNat ||| q.toNat = z at h3
  exact ⟨rfl, by omega, by omega⟩
theorem ishl_same (x : UInt8) (n : Nat) (hn : n ≤ 24) : ishl .u32 (IntKind.u32.wrap ((x.toNat : Nat) : Int)) (n : Int) = ishl .i64 (IntKind.i64.wrap ((x.toNat : Nat) : Int)) (n : Int) ∧ 0 ≤ ishl .i64 (IntKind.i64.wrap ((x.toNat : Nat) : Int)) (n : Int) ∧ ishl .i64 (IntKind.i64.wrap ((x.toNat : Nat) : Int)) (n : Int) < 4294967296 := by
  have hx := x.toNat_lt
  have w1 : IntKind.u32.wrap ((x.toNat : Nat) : Int) = ((x.toNat : Nat) : Int) := by rw [wrap32]; omega
  have w2 : IntKind.i64.wrap ((x.toNat : Nat) : Int) = ((x.toNat : Nat) : Int) := wrap_ok (by omega) (by omega)
  have hp : 2 ^ n ≤ 2 ^ 24 := Nat.pow_le_pow_right (by decide) hn
  have hm : x.toNat * 2 ^ n ≤ x.toNat * 2 ^ 24 := Nat.mul_le_mul_left _ hp
  rw [w1, w2, ishl32 (by omega), ishl64 (by omega) (by omega)]
  generalize x.toNat * 2 ^ n = z at hm
  have hz : z < 4294967296 := by omega
  rw [Nat.mod_eq_of_lt hz]
  exact ⟨rfl, by omega, by omega⟩
theorem ishl_samei (x : UInt8) (n : Int) (hn : 0 ≤ n ∧ n ≤ 24) : ishl .u32 (IntKind.u32.wrap ((x.toNat : Nat) : Int)) n = ishl .i64 (IntKind.i64.wrap ((x.toNat : Nat) : Int)) n ∧ 0 ≤ ishl .i64 (IntKind.i64.wrap ((x.toNat : Nat) : Int)) n ∧ ishl .i64 (IntKind.i64.wrap ((x.toNat : Nat) : Int)) n < 4294967296 := by
  have e : n = (n.toNat : Int) := by omega
  rw [e]
  exact ishl_same x n.toNat (by omega)
theorem bind_same {α β : Type} {x : Option α} {f g : α → Option β} (h : ∀ a, f a = g a) : x.bind f = x.bind g := by
  cases x with
  | none => rfl
  | some a => exact h a
theorem little_val (a b c d : UInt8) : ior .u32 (ior .u32 (ior .u32 (IntKind.u32.wrap ((a.toNat : Nat) : Int)) (ishl .u32 (IntKind.u32.wrap ((b.toNat : Nat) : Int)) (8 : Int))) (ishl .u32 (IntKind.u32.wrap ((c.toNat : Nat) : Int)) (16 : Int))) (ishl .u32 (IntKind.u32.wrap ((d.toNat : Nat) : Int)) (24 : Int)) =
      ior .i64 (ior .i64 (ior .i64 (IntKind.i64.wrap ((a.toNat : Nat) : Int)) (ishl .i64 (IntKind.i64.wrap ((b.toNat : Nat) : Int)) (8 : Int))) (ishl .i64 (IntKind.i64.wrap ((c.toNat : Nat) : Int)) (16 : Int))) (ishl .i64 (IntKind.i64.wrap ((d.toNat : Nat) : Int)) (24 : Int)) ∧
      0 ≤ ior .i64 (ior .i64 (ior .i64 (IntKind.i64.wrap ((a.toNat : Nat) : Int)) (ishl .i64 (IntKind.i64.wrap ((b.toNat : Nat) : Int)) (8 : Int))) (ishl .i64 (IntKind.i64.wrap ((c.toNat : Nat) : Int)) (16 : Int))) (ishl .i64 (IntKind.i64.wrap ((d.toNat : Nat) : Int)) (24 : Int)) ∧
      ior .i64 (ior .i64 (ior .i64 (IntKind.i64.wrap ((a.toNat : Nat) : Int)) (ishl .i64 (IntKind.i64.wrap ((b.toNat : Nat) : Int)) (8 : Int))) (ishl .i64 (IntKind.i64.wrap ((c.toNat : Nat) : Int)) (16 : Int))) (ishl .i64 (IntKind.i64.wrap ((d.toNat : Nat) : Int)) (24 : Int)) < 4294967296 := by
  have ha := a.toNat_lt
  have a1 : IntKind.u32.wrap ((a.toNat : Nat) : Int) = IntKind.i64.wrap ((a.toNat : Nat) : Int) := by rw [wrap32, wrap_ok (by omega) (by omega)]; omega
  have a2 : 0 ≤ IntKind.i64.wrap ((a.toNat : Nat) : Int) ∧ IntKind.i64.wrap ((a.toNat : Nat) : Int) < 4294967296 := by rw [wrap_ok (by omega) (by omega)]; omega
  obtain ⟨b1, b2⟩ := ishl_samei b 8 (by omega)
  obtain ⟨c1, c2⟩ := ishl_samei c 16 (by omega)
  obtain ⟨d1, d2⟩ := ishl_samei d 24 (by omega)
  obtain ⟨o1, o2⟩ := ior_same a2 b2
  obtain ⟨p1, p2⟩ := ior_same o2 c2
  obtain ⟨q1, q2⟩ := ior_same p2 d2
  refine ⟨?_, q2⟩
  rw [a1, b1, c1, d1, o1, p1, q1]
/-- a word of four bytes -/
theorem little_eq (s : List UInt8) (at_ : Int) : impl_little s at_ = spec_l3Little s at_ := by
  unfold impl_little spec_l3Little
  exact bind_same fun a => bind_same fun b => bind_same fun c => bind_same fun d => congrArg some (little_val a b c d).1
theorem little_range (s : List UInt8) (at_ r : Int) (h : spec_l3Little s at_ = some r) : 0 ≤ r ∧ r < 4294967296 := by
  unfold spec_l3Little at h
  obtain ⟨a, _, h⟩ := Option.bind_eq_some_iff.1 h
  obtain ⟨b, _, h⟩ := Option.bind_eq_some_iff.1 h
  obtain ⟨c, _, h⟩ := Option.bind_eq_some_iff.1 h
  obtain ⟨d, _, h⟩ := Option.bind_eq_some_iff.1 h
  rw [← Option.some.inj h]
  exact (little_val a b c d).2
theorem sidx_nat (s : List UInt8) (i : Nat) (h : i < s.length) : sidx s (i : Int) = some s[i] := by
  unfold sidx
  rw [if_pos (by omega), Int.toNat_natCast, List.getElem?_eq_getElem h]
theorem little_some (s : List UInt8) (i : Nat) (h : i + 3 < s.length) (hs : s.length ≤ 1048576) : ∃ n : Nat, spec_l3Little s (i : Int) = some (n : Int) ∧ impl_little s (i : Int) = some (n : Int) ∧ n < 4294967296 := by
  have h1 := little_eq s (i : Int)
  have h2 := little_range s (i : Int)
  have hs' : ∃ r, spec_l3Little s (i : Int) = some r := by
    unfold spec_l3Little
    have w : ∀ d : Nat, d ≤ 3 → IntKind.i64.wrap ((i : Int) + (d : Int)) = ((i + d : Nat) : Int) := fun d hd => by rw [wrap_ok (by omega) (by omega)]; omega
    have w1 : IntKind.i64.wrap ((i : Int) + (1 : Int)) = ((i + 1 : Nat) : Int) := w 1 (by omega)
    have w2 : IntKind.i64.wrap ((i : Int) + (2 : Int)) = ((i + 2 : Nat) : Int) := w 2 (by omega)
    have w3 : IntKind.i64.wrap ((i : Int) + (3 : Int)) = ((i + 3 : Nat) : Int) := w 3 (by omega)
    rw [w1, w2, w3, sidx_nat s i (by omega), sidx_nat s (i + 1) (by omega), sidx_nat s (i + 2) (by omega), sidx_nat s (i + 3) (by omega)]
    exact ⟨_, rfl⟩
  obtain ⟨r, hr⟩ := hs'
  obtain ⟨p, q⟩ := h2 r hr
  refine ⟨r.toNat, ?_, ?_, by omega⟩
  · rw [hr]; congr 1; omega
  · rw [h1, hr]; congr 1; omega
/-- words of 32 bits -/
def okW (l : List Wrd) : Prop := ∀ x ∈ l, 0 ≤ x.v ∧ x.v < 4294967296
theorem okW_set {l : List Wrd} {i : Nat} {x : Wrd} (h : okW l) (hx : 0 ≤ x.v ∧ x.v < 4294967296) : okW (l.set i x) := by
  intro y hy
  rcases List.mem_or_eq_of_mem_set hy with h1 | h1
  · exact h y h1
  · rw [h1]; exact hx
/-- half of a step: one word added to another, and a third one changed and turned -/
noncomputable def qi (l : List Wrd) (x y z : Int) (r : Int) : Option (List Wrd) :=
  (idx l x).bind fun E1 => (idx l y).bind fun E3 => (idx (l.set x.toNat (Wrd.mk (IntKind.u32.wrap (E1.v + E3.v)))) z).bind fun E7 => (idx (l.set x.toNat (Wrd.mk (IntKind.u32.wrap (E1.v + E3.v)))) x).bind fun E9 =>
  (math_bits_RotateLeft32 (ixor .u32 E7.v E9.v) r).bind fun R11 => some ((l.set x.toNat (Wrd.mk (IntKind.u32.wrap (E1.v + E3.v)))).set z.toNat (Wrd.mk R11))
noncomputable def qs (l : List Int) (x y z : Int) (r : Int) : Option (List Int) :=
  (idx l x).bind fun E1 => (idx l y).bind fun E3 => (spec_l3Word (IntKind.i64.wrap (E1 + E3))).bind fun R5 => (idx (l.set x.toNat R5) z).bind fun E10 => (idx (l.set x.toNat R5) x).bind fun E12 =>
  (spec_l3Left (ixor .i64 E10 E12) r).bind fun R14 => some ((l.set x.toNat R5).set z.toNat R14)
theorem impl_quarter_steps (l : List Wrd) (a b c d : Int) : impl_quarter l a b c d = (qi l a b d 16).bind fun l2 => (qi l2 c d b 12).bind fun l3 => (qi l3 a b d 8).bind fun l4 => qi l4 c d b 7 := by
  unfold impl_quarter qi
  simp only [Option.bind_assoc, Option.bind_some]
theorem spec_quarter_steps (l : List Int) (a b c d : Int) : spec_l3Quarter l a b c d = (qs l a b d 16).bind fun l2 => (qs l2 c d b 12).bind fun l3 => (qs l3 a b d 8).bind fun l4 => qs l4 c d b 7 := by
  unfold spec_l3Quarter qs
  simp only [Option.bind_assoc, Option.bind_some]
theorem okW_nat {l : List Wrd} (h : okW l) (k : Nat) (hk : k < l.length) : ∃ n : Nat, l[k].v = (n : Int) ∧ n < 4294967296 := by
  obtain ⟨h1, h2⟩ := h _ (List.getElem_mem hk)
  exact ⟨l[k].v.toNat, by omega, by omega⟩
theorem step_eq (l : List Wrd) (x y z r : Nat) (hl : l.length = 16) (hw : okW l) (hx : x < 16) (hy : y < 16) (hz : z < 16) (hr : r ≤ 16) :
    ∃ l', qi l (x : Int) (y : Int) (z : Int) (r : Int) = some l' ∧ qs (l.map Wrd.v) (x : Int) (y : Int) (z : Int) (r : Int) = some (l'.map Wrd.v) ∧ l'.length = 16 ∧ okW l' := by
  obtain ⟨nx, ex, hnx⟩ := okW_nat hw x (by omega)
  obtain ⟨ny, ey, hny⟩ := okW_nat hw y (by omega)
  have hsum : IntKind.u32.wrap ((nx : Int) + (ny : Int)) = (((nx + ny) % 4294967296 : Nat) : Int) := by rw [wrap32]; omega
  have hlt : (nx + ny) % 4294967296 < 4294967296 := Nat.mod_lt _ (by decide)
  have hl1 : (l.set x (Wrd.mk (((nx + ny) % 4294967296 : Nat) : Int))).length = 16 := by rw [List.length_set]; exact hl
  have hw1 : okW (l.set x (Wrd.mk (((nx + ny) % 4294967296 : Nat) : Int))) := okW_set hw ⟨by show (0 : Int) ≤ (((nx + ny) % 4294967296 : Nat) : Int); omega, by show (((nx + ny) % 4294967296 : Nat) : Int) < _; omega⟩
  obtain ⟨nz, ez, hnz⟩ := okW_nat hw1 z (by omega)
  obtain ⟨nw, ew, hnw⟩ := okW_nat hw1 x (by omega)
  have hxor := Nat.xor_lt_two_pow (n := 32) hnz hnw
  have hrl := rotN_lt (n := r) (show nz ^^^ nw < 4294967296 from hxor)
  refine ⟨(l.set x (Wrd.mk (((nx + ny) % 4294967296 : Nat) : Int))).set z (Wrd.mk (rotN (nz ^^^ nw) r : Int)), ?_, ?_, by rw [List.length_set]; exact hl1, okW_set hw1 ⟨by show (0 : Int) ≤ (rotN (nz ^^^ nw) r : Int); omega, by show (rotN (nz ^^^ nw) r : Int) < _; omega⟩⟩
  · unfold qi
    simp only [idx_nat l x (by omega), idx_nat l y (by omega), Option.bind_some, ex, ey, hsum, Int.toNat_natCast, idx_nat _ z (by omega : z < (l.set x (Wrd.mk (((nx + ny) % 4294967296 : Nat) : Int))).length), idx_nat _ x (by omega : x < (l.set x (Wrd.mk (((nx + ny) % 4294967296 : Nat) : Int))).length), ez, ew, ixor32 hnz hnw, rot32_eq hxor hr]
  · unfold qs
    have m1 : idx (l.map Wrd.v) (x : Int) = some (nx : Int) := by rw [idx_nat _ x (by simp; omega)]; simp [ex]
    have m2 : idx (l.map Wrd.v) (y : Int) = some (ny : Int) := by rw [idx_nat _ y (by simp; omega)]; simp [ey]
    have m3 : IntKind.i64.wrap ((nx : Int) + (ny : Int)) = ((nx + ny : Nat) : Int) := by rw [wrap_ok (by omega) (by omega)]; omega
    have m4 : (l.map Wrd.v).set x (((nx + ny) % 4294967296 : Nat) : Int) = (l.set x (Wrd.mk (((nx + ny) % 4294967296 : Nat) : Int))).map Wrd.v := by rw [List.map_set]
    simp only [m1, m2, Option.bind_some, m3, l3Word_eq (show nx + ny < 2 ^ 63 by omega), Int.toNat_natCast, m4]
    have m5 : idx ((l.set x (Wrd.mk (((nx + ny) % 4294967296 : Nat) : Int))).map Wrd.v) (z : Int) = some (nz : Int) := by rw [idx_nat _ z (by simp; omega)]; simp only [List.getElem_map, ez]
    have m6 : idx ((l.set x (Wrd.mk (((nx + ny) % 4294967296 : Nat) : Int))).map Wrd.v) (x : Int) = some (nw : Int) := by rw [idx_nat _ x (by simp; omega)]; simp only [List.getElem_map, ew]
    simp only [m5, m6, Option.bind_some, ixor64 (show nz < 2 ^ 63 by omega) (show nw < 2 ^ 63 by omega), l3Left_eq hxor hr]
    exact congrArg some List.map_set.symm
theorem quarter_eq (l : List Wrd) (a b c d : Nat) (hl : l.length = 16) (hw : okW l) (ha : a < 16) (hb : b < 16) (hc : c < 16) (hd : d < 16) :
    ∃ l', impl_quarter l (a : Int) (b : Int) (c : Int) (d : Int) = some l' ∧ spec_l3Quarter (l.map Wrd.v) (a : Int) (b : Int) (c : Int) (d : Int) = some (l'.map Wrd.v) ∧ l'.length = 16 ∧ okW l' := by
  obtain ⟨l1, p1, q1, r1, w1⟩ := step_eq l a b d 16 hl hw ha hb hd (by omega)
  obtain ⟨l2, p2, q2, r2, w2⟩ := step_eq l1 c d b 12 r1 w1 hc hd hb (by omega)
  obtain ⟨l3, p3, q3, r3, w3⟩ := step_eq l2 a b d 8 r2 w2 ha hb hd (by omega)
  obtain ⟨l4, p4, q4, r4, w4⟩ := step_eq l3 c d b 7 r3 w3 hc hd hb (by omega)
  refine ⟨l4, ?_, ?_, r4, w4⟩
  · rw [impl_quarter_steps, show (16 : Int) = ((16 : Nat) : Int) from rfl, p1]
    simp only [Option.bind_some]
    rw [show (12 : Int) = ((12 : Nat) : Int) from rfl, p2]
    simp only [Option.bind_some]
    rw [show (8 : Int) = ((8 : Nat) : Int) from rfl, p3]
    simp only [Option.bind_some]
    exact p4
  · rw [spec_quarter_steps, show (16 : Int) = ((16 : Nat) : Int) from rfl, q1]
    simp only [Option.bind_some]
    rw [show (12 : Int) = ((12 : Nat) : Int) from rfl, q2]
    simp only [Option.bind_some]
    rw [show (8 : Int) = ((8 : Nat) : Int) from rfl, q3]
    simp only [Option.bind_some]
    exact q4

/-- sixteen words -/
def goodW (l : List Wrd) : Prop := l.length = 16 ∧ okW l
noncomputable def qv (l : List Wrd) (a b c d : Nat) : List Wrd := (impl_quarter l (a : Int) (b : Int) (c : Int) (d : Int)).getD []
theorem qv_ok {l : List Wrd} (h : goodW l) (a b c d : Nat) (ha : a < 16) (hb : b < 16) (hc : c < 16) (hd : d < 16) :
    impl_quarter l (a : Int) (b : Int) (c : Int) (d : Int) = some (qv l a b c d) ∧ spec_l3Quarter (l.map Wrd.v) (a : Int) (b : Int) (c : Int) (d : Int) = some ((qv l a b c d).map Wrd.v) ∧ goodW (qv l a b c d) := by
  obtain ⟨l', h1, h2, h3, h4⟩ := quarter_eq l a b c d h.1 h.2 ha hb hc hd
  unfold qv
  rw [h1, h2]
  exact ⟨rfl, rfl, h3, h4⟩
noncomputable def colW (l : List Wrd) : Nat → List Wrd
  | 0 => l
  | k + 1 => qv (colW l k) k (4 + k) (8 + k) (12 + k)
noncomputable def diagW (l : List Wrd) : Nat → List Wrd
  | 0 => l
  | k + 1 => qv (diagW l k) k (4 + (k + 1) % 4) (8 + (k + 2) % 4) (12 + (k + 3) % 4)
noncomputable def roundW (l : List Wrd) : List Wrd := diagW (colW l 4) 4
noncomputable def roundsW (l : List Wrd) : Nat → List Wrd
  | 0 => l
  | k + 1 => roundW (roundsW l k)
theorem colW_good {l : List Wrd} (h : goodW l) : ∀ k, k ≤ 4 → goodW (colW l k)
  | 0, _ => h
  | k + 1, hk => (qv_ok (colW_good h k (by omega)) k (4 + k) (8 + k) (12 + k) (by omega) (by omega) (by omega) (by omega)).2.2
theorem diagW_good {l : List Wrd} (h : goodW l) : ∀ k, k ≤ 4 → goodW (diagW l k)
  | 0, _ => h
  | k + 1, hk => (qv_ok (diagW_good h k (by omega)) k (4 + (k + 1) % 4) (8 + (k + 2) % 4) (12 + (k + 3) % 4) (by omega) (by omega) (by omega) (by omega)).2.2
theorem roundW_good {l : List Wrd} (h : goodW l) : goodW (roundW l) := diagW_good (colW_good h 4 (by omega)) 4 (by omega)
theorem roundsW_good {l : List Wrd} (h : goodW l) : ∀ k, goodW (roundsW l k)
  | 0 => h
  | k + 1 => roundW_good (roundsW_good h k)
theorem col_loop {ρ : Type} {l : List Wrd} (h : goodW l) : loopO (ρ := Ctl (List Wrd) ρ) (fun (S17 : Int × List Wrd) => if (decide (S17.1 < (4 : Int))) = true then ((impl_quarter S17.2 S17.1 (IntKind.i64.wrap ((4 : Int) + S17.1)) (IntKind.i64.wrap ((8 : Int) + S17.1)) (IntKind.i64.wrap ((12 : Int) + S17.1))).bind fun R22 =>
  some (.go (IntKind.i64.wrap (S17.1 + (1 : Int)), R22)))
  else (some (.done (.go S17.2))))
  ((0 : Int), l) = some (.go (colW l 4)) := by
  rw [loopO_count (fun k => ((k : Int), colW l k)) 4 (r := Ctl.go (colW l 4)) ?h0]
  case h0 => rfl
  · intro k hk
    have e4 : IntKind.i64.wrap ((4 : Int) + (k : Int)) = ((4 + k : Nat) : Int) := by rw [wrap_ok (by omega) (by omega)]; omega
    have e8 : IntKind.i64.wrap ((8 : Int) + (k : Int)) = ((8 + k : Nat) : Int) := by rw [wrap_ok (by omega) (by omega)]; omega
    have e12 : IntKind.i64.wrap ((12 : Int) + (k : Int)) = ((12 + k : Nat) : Int) := by rw [wrap_ok (by omega) (by omega)]; omega
    simp only [e4, e8, e12, (qv_ok (colW_good h k (by omega)) k (4 + k) (8 + k) (12 + k) (by omega) (by omega) (by omega) (by omega)).1, Option.bind_some]
    rw [if_pos (by simp only [decide_eq_true_eq]; omega), wrap_ok (by omega) (by omega)]
    rfl
  · simp
theorem diag_loop {ρ : Type} {l : List Wrd} (h : goodW l) : loopO (ρ := Ctl (List Wrd) ρ) (fun (S25 : Int × List Wrd) => if (decide (S25.1 < (4 : Int))) = true then ((impl_quarter S25.2 S25.1 (IntKind.i64.wrap ((4 : Int) + (Int.tmod (IntKind.i64.wrap (S25.1 + (1 : Int))) (4 : Int)))) (IntKind.i64.wrap ((8 : Int) + (Int.tmod (IntKind.i64.wrap (S25.1 + (2 : Int))) (4 : Int)))) (IntKind.i64.wrap ((12 : Int) + (Int.tmod (IntKind.i64.wrap (S25.1 + (3 : Int))) (4 : Int))))).bind fun R30 =>
  some (.go (IntKind.i64.wrap (S25.1 + (1 : Int)), R30)))
  else (some (.done (.go S25.2))))
  ((0 : Int), l) = some (.go (diagW l 4)) := by
  rw [loopO_count (fun k => ((k : Int), diagW l k)) 4 (r := Ctl.go (diagW l 4)) ?h0]
  case h0 => rfl
  · intro k hk
    have e : ∀ (a d : Nat), a ≤ 12 → d ≤ 3 → IntKind.i64.wrap ((a : Int) + (Int.tmod (IntKind.i64.wrap ((k : Int) + (d : Int))) (4 : Int))) = ((a + (k + d) % 4 : Nat) : Int) := by
      intro a d ha hd
      rw [wrap_ok (n := (k : Int) + (d : Int)) (by omega) (by omega), show (k : Int) + (d : Int) = ((k + d : Nat) : Int) by omega, show (4 : Int) = ((4 : Nat) : Int) from rfl, ← Int.ofNat_tmod, wrap_ok (by omega) (by omega)]
      omega
    have e4 : IntKind.i64.wrap ((4 : Int) + (Int.tmod (IntKind.i64.wrap ((k : Int) + (1 : Int))) (4 : Int))) = _ := e 4 1 (by omega) (by omega)
    have e8 : IntKind.i64.wrap ((8 : Int) + (Int.tmod (IntKind.i64.wrap ((k : Int) + (2 : Int))) (4 : Int))) = _ := e 8 2 (by omega) (by omega)
    have e12 : IntKind.i64.wrap ((12 : Int) + (Int.tmod (IntKind.i64.wrap ((k : Int) + (3 : Int))) (4 : Int))) = _ := e 12 3 (by omega) (by omega)
    simp only [e4, e8, e12, (qv_ok (diagW_good h k (by omega)) k (4 + (k + 1) % 4) (8 + (k + 2) % 4) (12 + (k + 3) % 4) (by omega) (by omega) (by omega) (by omega)).1, Option.bind_some]
    rw [if_pos (by simp only [decide_eq_true_eq]; omega), wrap_ok (by omega) (by omega)]
    rfl
  · simp
theorem spec_round {l : List Wrd} (h : goodW l) {β : Type} (f : List Int → Option β) : ((spec_l3Quarter (l.map Wrd.v) (0 : Int) (4 : Int) (8 : Int) (12 : Int)).bind fun R36 =>
  (spec_l3Quarter R36 (1 : Int) (5 : Int) (9 : Int) (13 : Int)).bind fun R39 =>
  (spec_l3Quarter R39 (2 : Int) (6 : Int) (10 : Int) (14 : Int)).bind fun R42 =>
  (spec_l3Quarter R42 (3 : Int) (7 : Int) (11 : Int) (15 : Int)).bind fun R45 =>
  (spec_l3Quarter R45 (0 : Int) (5 : Int) (10 : Int) (15 : Int)).bind fun R48 =>
  (spec_l3Quarter R48 (1 : Int) (6 : Int) (11 : Int) (12 : Int)).bind fun R51 =>
  (spec_l3Quarter R51 (2 : Int) (7 : Int) (8 : Int) (13 : Int)).bind fun R54 =>
  (spec_l3Quarter R54 (3 : Int) (4 : Int) (9 : Int) (14 : Int)).bind fun R57 => f R57) = f ((roundW l).map Wrd.v) := by
  have c0 : spec_l3Quarter (l.map Wrd.v) (0 : Int) (4 : Int) (8 : Int) (12 : Int) = some ((colW l 1).map Wrd.v) := (qv_ok h 0 4 8 12 (by omega) (by omega) (by omega) (by omega)).2.1
  have c1 : spec_l3Quarter ((colW l 1).map Wrd.v) (1 : Int) (5 : Int) (9 : Int) (13 : Int) = some ((colW l 2).map Wrd.v) := (qv_ok (colW_good h 1 (by omega)) 1 5 9 13 (by omega) (by omega) (by omega) (by omega)).2.1
  have c2 : spec_l3Quarter ((colW l 2).map Wrd.v) (2 : Int) (6 : Int) (10 : Int) (14 : Int) = some ((colW l 3).map Wrd.v) := (qv_ok (colW_good h 2 (by omega)) 2 6 10 14 (by omega) (by omega) (by omega) (by omega)).2.1
  have c3 : spec_l3Quarter ((colW l 3).map Wrd.v) (3 : Int) (7 : Int) (11 : Int) (15 : Int) = some ((colW l 4).map Wrd.v) := (qv_ok (colW_good h 3 (by omega)) 3 7 11 15 (by omega) (by omega) (by omega) (by omega)).2.1
  have g := colW_good h 4 (by omega)
  have d0 : spec_l3Quarter ((colW l 4).map Wrd.v) (0 : Int) (5 : Int) (10 : Int) (15 : Int) = some ((diagW (colW l 4) 1).map Wrd.v) := (qv_ok g 0 5 10 15 (by omega) (by omega) (by omega) (by omega)).2.1
  have d1 : spec_l3Quarter ((diagW (colW l 4) 1).map Wrd.v) (1 : Int) (6 : Int) (11 : Int) (12 : Int) = some ((diagW (colW l 4) 2).map Wrd.v) := (qv_ok (diagW_good g 1 (by omega)) 1 6 11 12 (by omega) (by omega) (by omega) (by omega)).2.1
  have d2 : spec_l3Quarter ((diagW (colW l 4) 2).map Wrd.v) (2 : Int) (7 : Int) (8 : Int) (13 : Int) = some ((diagW (colW l 4) 3).map Wrd.v) := (qv_ok (diagW_good g 2 (by omega)) 2 7 8 13 (by omega) (by omega) (by omega) (by omega)).2.1
  have d3 : spec_l3Quarter ((diagW (colW l 4) 3).map Wrd.v) (3 : Int) (4 : Int) (9 : Int) (14 : Int) = some ((diagW (colW l 4) 4).map Wrd.v) := (qv_ok (diagW_good g 3 (by omega)) 3 4 9 14 (by omega) (by omega) (by omega) (by omega)).2.1
  simp only [c0, c1, c2, c3, d0, d1, d2, d3, Option.bind_some]
  rfl
/-- the words of a string -/
noncomputable def kN (s : List UInt8) (i : Nat) : Nat := ((spec_l3Little s ((4 * i : Nat) : Int)).getD 0).toNat
theorem kN_ok (s : List UInt8) (i : Nat) (h : 4 * i + 3 < s.length) (hs : s.length ≤ 1048576) : spec_l3Little s ((4 * i : Nat) : Int) = some (kN s i : Int) ∧ impl_little s ((4 * i : Nat) : Int) = some (kN s i : Int) ∧ kN s i < 4294967296 := by
  obtain ⟨n, h1, h2, h3⟩ := little_some s (4 * i) h hs
  have e : kN s i = n := by unfold kN; rw [h1]; rfl
  rw [e]
  exact ⟨h1, h2, h3⟩
noncomputable def selW (k : Nat) (i : Nat) (n : Nat) : Wrd := bif Nat.blt i k then Wrd.mk (n : Int) else Wrd.mk 0
noncomputable def firstK (key : List UInt8) (k : Nat) : List Wrd := [Wrd.mk 1634760805, Wrd.mk 857760878, Wrd.mk 2036477234, Wrd.mk 1797285236, selW k 0 (kN key 0), selW k 1 (kN key 1), selW k 2 (kN key 2), selW k 3 (kN key 3), selW k 4 (kN key 4), selW k 5 (kN key 5), selW k 6 (kN key 6), selW k 7 (kN key 7), Wrd.mk 0, Wrd.mk 0, Wrd.mk 0, Wrd.mk 0]
noncomputable def firstN (key : List UInt8) (counter : Int) (nonce : List UInt8) (k : Nat) : List Wrd := [Wrd.mk 1634760805, Wrd.mk 857760878, Wrd.mk 2036477234, Wrd.mk 1797285236, Wrd.mk (kN key 0 : Int), Wrd.mk (kN key 1 : Int), Wrd.mk (kN key 2 : Int), Wrd.mk (kN key 3 : Int), Wrd.mk (kN key 4 : Int), Wrd.mk (kN key 5 : Int), Wrd.mk (kN key 6 : Int), Wrd.mk (kN key 7 : Int), Wrd.mk counter, selW k 0 (kN nonce 0), selW k 1 (kN nonce 1), selW k 2 (kN nonce 2)]
theorem firstWords_eq (key : List UInt8) (counter : Int) (nonce : List UInt8) (hk : key.length = 32) (hc : 0 ≤ counter ∧ counter ≤ 4294967295) (hn : nonce.length = 12) : impl_firstWords key counter nonce = some (firstN key counter nonce 3) := by
  unfold impl_firstWords
  have hw : IntKind.u32.wrap counter = counter := by rw [wrap32]; omega
  have hl : ∀ l : List Wrd, l.length = 16 → lenIs 16 l = some () := fun l h => by unfold lenIs; rw [if_pos h]
  rw [hl _ rfl]
  simp only [Option.bind_some]
  rw [loopO_count (fun k => ((k : Int), firstK key k)) 8 (r := Ctl.go (firstK key 8)) ?h0]
  case h0 => rfl
  · simp only [bindC_go]
    rw [show (12 : Int) = ((12 : Nat) : Int) from rfl, idx_nat (firstK key 8) 12 (by show 12 < 16; omega)]
    simp only [Option.bind_some, Int.toNat_natCast, hw]
    rw [loopO_count (fun k => ((k : Int), firstN key counter nonce k)) 3 (r := Ctl.go (firstN key counter nonce 3)) ?h1]
    case h1 => rfl
    · simp only [bindC_go]
      rw [hl _ rfl]
      rfl
    · intro k h3
      have e4 : IntKind.i64.wrap ((4 : Int) * (k : Int)) = ((4 * k : Nat) : Int) := by rw [wrap_ok (by omega) (by omega)]; omega
      have e13 : IntKind.i64.wrap ((13 : Int) + (k : Int)) = ((13 + k : Nat) : Int) := by rw [wrap_ok (by omega) (by omega)]; omega
      simp only [e4, e13, (kN_ok nonce k (by omega) (by omega)).2.1, Option.bind_some, idx_nat (firstN key counter nonce k) (13 + k) (by show 13 + k < 16; omega), Int.toNat_natCast]
      rw [if_pos (by simp only [decide_eq_true_eq]; omega), wrap_ok (by omega) (by omega)]
      have h4 : k = 0 ∨ k = 1 ∨ k = 2 := by omega
      rcases h4 with rfl | rfl | rfl <;> rfl
    · rfl
  · intro k h8
    have e4 : IntKind.i64.wrap ((4 : Int) * (k : Int)) = ((4 * k : Nat) : Int) := by rw [wrap_ok (by omega) (by omega)]; omega
    have e44 : IntKind.i64.wrap ((4 : Int) + (k : Int)) = ((4 + k : Nat) : Int) := by rw [wrap_ok (by omega) (by omega)]; omega
    simp only [e4, e44, (kN_ok key k (by omega) (by omega)).2.1, Option.bind_some, idx_nat (firstK key k) (4 + k) (by show 4 + k < 16; omega), Int.toNat_natCast]
    rw [if_pos (by simp only [decide_eq_true_eq]; omega), wrap_ok (by omega) (by omega)]
    have h4 : k = 0 ∨ k = 1 ∨ k = 2 ∨ k = 3 ∨ k = 4 ∨ k = 5 ∨ k = 6 ∨ k = 7 := by omega
    rcases h4 with rfl | rfl | rfl | rfl | rfl | rfl | rfl | rfl <;> rfl
  · rfl
theorem firstN_good (key : List UInt8) (counter : Int) (nonce : List UInt8) (hk : key.length = 32) (hc : 0 ≤ counter ∧ counter ≤ 4294967295) (hn : nonce.length = 12) : goodW (firstN key counter nonce 3) := by
  refine ⟨rfl, ?_⟩
  have a : ∀ i, i < 8 → kN key i < 4294967296 := fun i hi => (kN_ok key i (by omega) (by omega)).2.2
  have b : ∀ i, i < 3 → kN nonce i < 4294967296 := fun i hi => (kN_ok nonce i (by omega) (by omega)).2.2
  have a0 := a 0 (by omega)
  have a1 := a 1 (by omega)
  have a2 := a 2 (by omega)
  have a3 := a 3 (by omega)
  have a4 := a 4 (by omega)
  have a5 := a 5 (by omega)
  have a6 := a 6 (by omega)
  have a7 := a 7 (by omega)
  have b0 := b 0 (by omega)
  have b1 := b 1 (by omega)
  have b2 := b 2 (by omega)
  have s0 : selW 3 0 (kN nonce 0) = Wrd.mk (kN nonce 0 : Int) := rfl
  have s1 : selW 3 1 (kN nonce 1) = Wrd.mk (kN nonce 1 : Int) := rfl
  have s2 : selW 3 2 (kN nonce 2) = Wrd.mk (kN nonce 2 : Int) := rfl
  intro x hx
  unfold firstN at hx
  rw [s0, s1, s2] at hx
  simp only [List.mem_cons, List.not_mem_nil, or_false] at hx
  rcases hx with rfl | rfl | rfl | rfl | rfl | rfl | rfl | rfl | rfl | rfl | rfl | rfl | rfl | rfl | rfl | rfl <;> simp only <;> omega
def bytes4 (n : Nat) : List UInt8 := [toU8 (n : Int), toU8 ((n / 256 : Nat) : Int), toU8 ((n / 65536 : Nat) : Int), toU8 ((n / 16777216 : Nat) : Int)]
/-- the bytes of the first k words -/
noncomputable def outW (w s : List Wrd) : Nat → List UInt8
  | 0 => []
  | k + 1 => outW w s k ++ (match w[k]?, s[k]? with | some x, some y => bytes4 ((x.v + y.v).toNat % 4294967296) | _, _ => [])
theorem outW_succ (w s : List Wrd) (k : Nat) (hw : k < w.length) (hs : k < s.length) : outW w s (k + 1) = outW w s k ++ bytes4 ((w[k].v + s[k].v).toNat % 4294967296) := by
  show outW w s k ++ (match w[k]?, s[k]? with | some x, some y => _ | _, _ => _) = _
  rw [List.getElem?_eq_getElem hw, List.getElem?_eq_getElem hs]
theorem outW_len (w s : List Wrd) (hw : w.length = 16) (hs : s.length = 16) : ∀ k, k ≤ 16 → (outW w s k).length = 4 * k
  | 0, _ => rfl
  | k + 1, hk => by
    rw [outW_succ w s k (by omega) (by omega), List.length_append, outW_len w s hw hs k (by omega)]
    show 4 * k + 4 = _
    omega
theorem toU8_mod (n : Nat) : toU8 ((n % 256 : Nat) : Int) = toU8 (n : Int) := by
  unfold toU8
  congr 1
  omega
noncomputable def chaR (key : List UInt8) (counter : Int) (nonce : List UInt8) : List UInt8 := outW (roundsW (firstN key counter nonce 3) 10) (firstN key counter nonce 3) 16
def chaOk (key : List UInt8) (counter : Int) (nonce : List UInt8) : Bool := decide (key.length = 32) && (decide (nonce.length = 12) && decide (0 ≤ counter ∧ counter ≤ 4294967295))
noncomputable def chaV (key : List UInt8) (counter : Int) (nonce : List UInt8) : List UInt8 := bif chaOk key counter nonce then chaR key counter nonce else []
theorem chaOk_iff {key : List UInt8} {counter : Int} {nonce : List UInt8} (h : chaOk key counter nonce = true) : key.length = 32 ∧ nonce.length = 12 ∧ 0 ≤ counter ∧ counter ≤ 4294967295 := by
  unfold chaOk at h
  simp only [Bool.and_eq_true, decide_eq_true_eq] at h
  exact h
theorem chaV_len (key : List UInt8) (counter : Int) (nonce : List UInt8) (h : chaOk key counter nonce = true) : (chaV key counter nonce).length = 64 := by
  obtain ⟨h1, h2, h3⟩ := chaOk_iff h
  have g := firstN_good key counter nonce h1 h3 h2
  unfold chaV chaR
  rw [h]
  exact outW_len _ _ (roundsW_good g 10).1 g.1 16 (Nat.le_refl _)
theorem impl_isCha_eq (key : List UInt8) (counter : Int) (nonce : List UInt8) : impl_isCha key counter nonce = some (chaOk key counter nonce) := by
  unfold impl_isCha chaOk
  have e1 : decide (((key.length : Nat) : Int) = 32) = decide (key.length = 32) := decide_eq_decide.2 (by omega)
  have e2 : decide (((nonce.length : Nat) : Int) = 12) = decide (nonce.length = 12) := decide_eq_decide.2 (by omega)
  rw [e1, e2, inRange_eq]
  cases decide (key.length = 32) <;> cases decide (nonce.length = 12) <;> cases decide (0 ≤ counter ∧ counter ≤ 4294967295) <;> rfl
theorem impl_ChaBlock_eq (key : List UInt8) (counter : Int) (nonce : List UInt8) : impl_ChaBlock key counter nonce = some (chaV key counter nonce) := by
  unfold impl_ChaBlock chaV
  rw [impl_isCha_eq]
  cases hok : chaOk key counter nonce with
  | false => rfl
  | true =>
    obtain ⟨h1, h2, h3⟩ := chaOk_iff hok
    have g := firstN_good key counter nonce h1 h3 h2
    have hl : ∀ l : List Wrd, l.length = 16 → lenIs 16 l = some () := fun l h => by unfold lenIs; rw [if_pos h]
    simp only [Option.bind_some, Bool.not_true, Bool.false_eq_true, if_false, cond_true, firstWords_eq key counter nonce h1 h3 h2, hl _ g.1]
    unfold chaR
    generalize firstN key counter nonce 3 = s at g
    rw [loopO_count (fun k => ((k : Int), roundsW s k)) 10 (r := Ctl.go (roundsW s 10)) ?h0]
    case h0 => rfl
    · have gw := roundsW_good g 10
      simp only [bindC_go, show mkLen 1 (64 : Int) = some 64 from rfl, Option.bind_some]
      rw [loopO_count (fun k => ((k : Int), outW (roundsW s 10) s k)) 16 (r := Ctl.go (outW (roundsW s 10) s 16)) ?h1]
      case h1 => rfl
      · rfl
      · intro k hk
        obtain ⟨n, en, hn⟩ := okW_nat gw.2 k (by rw [gw.1]; exact hk)
        obtain ⟨m, em, hm⟩ := okW_nat g.2 k (by rw [g.1]; exact hk)
        have ho := outW_len (roundsW s 10) s gw.1 g.1 k (by omega)
        simp only [hl _ gw.1, idx_nat (roundsW s 10) k (by rw [gw.1]; exact hk), idx_nat s k (by rw [g.1]; exact hk), Option.bind_some, en, em]
        have e0 : IntKind.u32.wrap ((n : Int) + (m : Int)) = (((n + m) % 4294967296 : Nat) : Int) := by rw [wrap32]; omega
        rw [e0, show (8 : Int) = ((8 : Nat) : Int) from rfl, show (24 : Int) = ((24 : Nat) : Int) from rfl, ishr_nat (by decide), ishr_nat (by decide)]
        rw [show ishr .u32 (((n + m) % 4294967296 : Nat) : Int) (16 : Int) = _ from ishr_nat (n := 16) (by decide)]
        rw [if_pos (by simp only [decide_eq_true_eq]; omega), wrap_ok (by omega) (by omega), app_ok (by rw [ho]; simp; omega) (by rw [ho]; simp; omega)]
        simp only [Option.bind_some]
        rw [outW_succ _ _ k (by rw [gw.1]; exact hk) (by rw [g.1]; exact hk), en, em]
        rfl
      · simp
    · intro k hk
      have gk := roundsW_good g k
      simp only [col_loop gk, bindC_go, diag_loop (colW_good gk 4 (by omega))]
      rw [if_pos (by simp only [decide_eq_true_eq]; omega), wrap_ok (by omega) (by omega)]
      rfl
    · simp
theorem bind_of {α β : Type} {x : Option α} {a : α} {f : α → Option β} {r : Option β} (h : x = some a) (h2 : f a = r) : x.bind f = r := by rw [h]; exact h2
theorem spec_ChaBlock_eq (key : List UInt8) (counter : Int) (nonce : List UInt8) : spec_ChaBlock key counter nonce = some (chaV key counter nonce) := by
  unfold spec_ChaBlock chaV
  have e1 : decide (((key.length : Nat) : Int) = 32) = decide (key.length = 32) := decide_eq_decide.2 (by omega)
  have e2 : decide (((nonce.length : Nat) : Int) = 12) = decide (nonce.length = 12) := decide_eq_decide.2 (by omega)
  rw [e1, e2, l1In_eq]
  cases hok : chaOk key counter nonce with
  | false =>
    unfold chaOk at hok
    cases a1 : decide (key.length = 32) with
    | false => rfl
    | true =>
      cases a2 : decide (nonce.length = 12) with
      | false => rfl
      | true =>
        rw [a1, a2] at hok
        cases a3 : decide (0 ≤ counter ∧ counter ≤ 4294967295) with
        | false => rfl
        | true => rw [a3] at hok; cases hok
  | true =>
    obtain ⟨h1, h2, h3⟩ := chaOk_iff hok
    have g := firstN_good key counter nonce h1 h3 h2
    rw [decide_eq_true h1, decide_eq_true h2, decide_eq_true h3]
    simp only [Option.bind_some, Bool.not_true, Bool.false_eq_true, if_false, cond_true]
    unfold spec_l3Block chaR
    rw [loopO_count (fun k => ((k : Int), ((firstN key counter nonce 3).map Wrd.v).take (4 + k))) 8 (r := Ctl.go (((firstN key counter nonce 3).map Wrd.v).take 12)) ?h0]
    case h0 => rfl
    · have n0 : spec_l3Little nonce (0 : Int) = some (kN nonce 0 : Int) := (kN_ok nonce 0 (by omega) (by omega)).1
      have n1 : spec_l3Little nonce (4 : Int) = some (kN nonce 1 : Int) := (kN_ok nonce 1 (by omega) (by omega)).1
      have n2 : spec_l3Little nonce (8 : Int) = some (kN nonce 2 : Int) := (kN_ok nonce 2 (by omega) (by omega)).1
      have t1 : app 8 (((firstN key counter nonce 3).map Wrd.v).take 12) [counter, (kN nonce 0 : Int), (kN nonce 1 : Int), (kN nonce 2 : Int)] = some ((firstN key counter nonce 3).map Wrd.v) := by
        rw [app_ok (by show (12 + 4) * 8 ≤ _; omega) (by show 12 + 4 ≤ _; omega)]
        unfold firstN
        generalize kN nonce 0 = x0
        generalize kN nonce 1 = x1
        generalize kN nonce 2 = x2
        generalize kN key 0 = y0
        generalize kN key 1 = y1
        generalize kN key 2 = y2
        generalize kN key 3 = y3
        generalize kN key 4 = y4
        generalize kN key 5 = y5
        generalize kN key 6 = y6
        generalize kN key 7 = y7
        rfl
      have t2 : app 8 ([] : List Int) ((firstN key counter nonce 3).map Wrd.v) = some ((firstN key counter nonce 3).map Wrd.v) := by
        rw [app_ok (by show (0 + 16) * 8 ≤ _; omega) (by show 0 + 16 ≤ _; omega)]
        rfl
      simp only [bindC_go, n0, n1, n2, Option.bind_some, t1, t2]
      generalize firstN key counter nonce 3 = s at g
      rw [loopO_count (fun k => ((k : Int), (roundsW s k).map Wrd.v)) 10 (r := Ctl.go ((roundsW s 10).map Wrd.v)) ?h1]
      case h1 => rfl
      · have gw := roundsW_good g 10
        simp only [bindC_go]
        generalize roundsW s 10 = w at gw
        rw [loopO_count (fun k => ((k : Int), outW (w) s k)) 16 (r := Ctl.go (outW (w) s 16)) ?h2]
        case h2 => rfl
        · rfl
        · intro k hk
          have hkw : k < (w).length := by rw [gw.1]; exact hk
          have hks : k < s.length := by rw [g.1]; exact hk
          obtain ⟨n, en, hn⟩ := okW_nat gw.2 k hkw
          obtain ⟨m, em, hm⟩ := okW_nat g.2 k hks
          have ho := outW_len (w) s gw.1 g.1 k (by omega)
          have i1 : idx ((w).map Wrd.v) (k : Int) = some (n : Int) := by rw [idx_nat _ k (by simpa using hkw)]; simp only [List.getElem_map, en]
          have i2 : idx (s.map Wrd.v) (k : Int) = some (m : Int) := by rw [idx_nat _ k (by simpa using hks)]; simp only [List.getElem_map, em]
          have e0 : IntKind.i64.wrap ((n : Int) + (m : Int)) = ((n + m : Nat) : Int) := by rw [wrap_ok (by omega) (by omega)]; omega
          have hx : (n + m) % 4294967296 < 4294967296 := Nat.mod_lt _ (by decide)
          have hw : spec_l3Word (IntKind.i64.wrap ((n : Int) + (m : Int))) = some (((n + m) % 4294967296 : Nat) : Int) := by rw [e0]; exact l3Word_eq (by omega)
          generalize hxe : (n + m) % 4294967296 = x at hx hw
          rw [if_pos (by simp only [decide_eq_true_eq]; omega)]
          refine bind_of i1 (bind_of i2 (bind_of hw ?_))
          have a0 : toU8 (iand .i64 (x : Int) (255 : Int)) = toU8 (x : Int) := by
            rw [show (255 : Int) = ((255 : Nat) : Int) from rfl, iand64 (by omega) (by decide), show x &&& 255 = x % 256 from Nat.and_two_pow_sub_one_eq_mod x 8, toU8_mod]
          have a1 : toU8 (iand .i64 (ishr .i64 (x : Int) (8 : Int)) (255 : Int)) = toU8 ((x / 256 : Nat) : Int) := by
            rw [show ishr .i64 (x : Int) (8 : Int) = ((x / 256 : Nat) : Int) from ishr_nat (n := 8) (by decide), show (255 : Int) = ((255 : Nat) : Int) from rfl, iand64 (by omega) (by decide), show x / 256 &&& 255 = x / 256 % 256 from Nat.and_two_pow_sub_one_eq_mod _ 8, toU8_mod]
          have a2 : toU8 (iand .i64 (ishr .i64 (x : Int) (16 : Int)) (255 : Int)) = toU8 ((x / 65536 : Nat) : Int) := by
            rw [show ishr .i64 (x : Int) (16 : Int) = ((x / 65536 : Nat) : Int) from ishr_nat (n := 16) (by decide), show (255 : Int) = ((255 : Nat) : Int) from rfl, iand64 (by omega) (by decide), show x / 65536 &&& 255 = x / 65536 % 256 from Nat.and_two_pow_sub_one_eq_mod _ 8, toU8_mod]
          have a3 : ishr .i64 (x : Int) (24 : Int) = ((x / 16777216 : Nat) : Int) := ishr_nat (n := 24) (by decide)
          rw [a0, a1, a2, a3, wrap_ok (by omega) (by omega), app_ok (by rw [ho]; simp; omega) (by rw [ho]; simp; omega)]
          simp only [Option.bind_some]
          rw [outW_succ _ _ k hkw hks, en, em, show ((n : Int) + (m : Int)).toNat = n + m by omega, hxe]
          rfl
        · simp
      · intro k hk
        simp only
        rw [if_pos (by simp only [decide_eq_true_eq]; omega), wrap_ok (n := (k : Int) + 1) (by omega) (by omega)]
        exact spec_round (roundsW_good g k) (fun R57 => some (Ctl.go ((k : Int) + 1, R57)))
      · simp
    · intro k hk
      have e4 : IntKind.i64.wrap ((4 : Int) * (k : Int)) = ((4 * k : Nat) : Int) := by rw [wrap_ok (by omega) (by omega)]; omega
      simp only [e4, (kN_ok key k (by omega) (by omega)).1, Option.bind_some]
      rw [if_pos (by simp only [decide_eq_true_eq]; omega), wrap_ok (by omega) (by omega), app_ok (by rw [List.length_take]; simp; omega) (by rw [List.length_take]; simp; omega)]
      have h4 : k = 0 ∨ k = 1 ∨ k = 2 ∨ k = 3 ∨ k = 4 ∨ k = 5 ∨ k = 6 ∨ k = 7 := by omega
      unfold firstN
      rcases h4 with rfl | rfl | rfl | rfl | rfl | rfl | rfl | rfl
      · generalize kN nonce 0 = x0
        generalize kN nonce 1 = x1
        generalize kN nonce 2 = x2
        generalize kN key 0 = y0
        generalize kN key 1 = y1
        generalize kN key 2 = y2
        generalize kN key 3 = y3
        generalize kN key 4 = y4
        generalize kN key 5 = y5
        generalize kN key 6 = y6
        generalize kN key 7 = y7
        rfl
      · generalize kN nonce 0 = x0
        generalize kN nonce 1 = x1
        generalize kN nonce 2 = x2
        generalize kN key 0 = y0
        generalize kN key 1 = y1
        generalize kN key 2 = y2
        generalize kN key 3 = y3
        generalize kN key 4 = y4
        generalize kN key 5 = y5
        generalize kN key 6 = y6
        generalize kN key 7 = y7
        rfl
      · generalize kN nonce 0 = x0
        generalize kN nonce 1 = x1
        generalize kN nonce 2 = x2
        generalize kN key 0 = y0
        generalize kN key 1 = y1
        generalize kN key 2 = y2
        generalize kN key 3 = y3
        generalize kN key 4 = y4
        generalize kN key 5 = y5
        generalize kN key 6 = y6
        generalize kN key 7 = y7
        rfl
      · generalize kN nonce 0 = x0
        generalize kN nonce 1 = x1
        generalize kN nonce 2 = x2
        generalize kN key 0 = y0
        generalize kN key 1 = y1
        generalize kN key 2 = y2
        generalize kN key 3 = y3
        generalize kN key 4 = y4
        generalize kN key 5 = y5
        generalize kN key 6 = y6
        generalize kN key 7 = y7
        rfl
      · generalize kN nonce 0 = x0
        generalize kN nonce 1 = x1
        generalize kN nonce 2 = x2
        generalize kN key 0 = y0
        generalize kN key 1 = y1
        generalize kN key 2 = y2
        generalize kN key 3 = y3
        generalize kN key 4 = y4
        generalize kN key 5 = y5
        generalize kN key 6 = y6
        generalize kN key 7 = y7
        rfl
      · generalize kN nonce 0 = x0
        generalize kN nonce 1 = x1
        generalize kN nonce 2 = x2
        generalize kN key 0 = y0
        generalize kN key 1 = y1
        generalize kN key 2 = y2
        generalize kN key 3 = y3
        generalize kN key 4 = y4
        generalize kN key 5 = y5
        generalize kN key 6 = y6
        generalize kN key 7 = y7
        rfl
      · generalize kN nonce 0 = x0
        generalize kN nonce 1 = x1
        generalize kN nonce 2 = x2
        generalize kN key 0 = y0
        generalize kN key 1 = y1
        generalize kN key 2 = y2
        generalize kN key 3 = y3
        generalize kN key 4 = y4
        generalize kN key 5 = y5
        generalize kN key 6 = y6
        generalize kN key 7 = y7
        rfl
      · generalize kN nonce 0 = x0
        generalize kN nonce 1 = x1
        generalize kN nonce 2 = x2
        generalize kN key 0 = y0
        generalize kN key 1 = y1
        generalize kN key 2 = y2
        generalize kN key 3 = y3
        generalize kN key 4 = y4
        generalize kN key 5 = y5
        generalize kN key 6 = y6
        generalize kN key 7 = y7
        rfl
    · simp

/-- bytes of a number, the highest first -/
def fixV (n : Nat) : Nat → List UInt8
  | 0 => []
  | j + 1 => toU8 ((n / 256 ^ j : Nat) : Int) :: fixV n j
theorem fixV_len (n : Nat) : ∀ j, (fixV n j).length = j
  | 0 => rfl
  | j + 1 => by rw [fixV, List.length_cons, fixV_len n j]
theorem div_pow_succ (n b j : Nat) : n / b ^ j / b = n / b ^ (j + 1) := by rw [Nat.div_div_eq_div_mul, Nat.pow_succ]
def fixedV (n w : Int) : List UInt8 := bif decide (1 ≤ w ∧ w ≤ 7) && (decide (0 ≤ n) && decide (n.toNat / 256 ^ w.toNat = 0)) then fixV n.toNat w.toNat else []
theorem spec_Fixed_eq (n w : Int) (hn : n ≤ 4611686018427387904) : spec_Fixed n w = some (fixedV n w) := by
  unfold spec_Fixed fixedV
  rw [l1In_eq]
  by_cases h1 : 1 ≤ w ∧ w ≤ 7
  · rw [decide_eq_true h1]
    by_cases h2 : 0 ≤ n
    · obtain ⟨m, rfl⟩ : ∃ m : Nat, n = (m : Int) := ⟨n.toNat, by omega⟩
      obtain ⟨u, rfl⟩ : ∃ u : Nat, w = (u : Int) := ⟨w.toNat, by omega⟩
      rw [decide_eq_true h2, decide_eq_false (by omega : ¬ (m : Int) < 0)]
      simp only [Option.bind_some, Bool.not_true, Bool.false_eq_true, if_false, Int.toNat_natCast]
      rw [loopO_count (fun j => (((m / 256 ^ j : Nat) : Int), fixV m j, (j : Int))) u (r := Ctl.go (((m / 256 ^ u : Nat) : Int), fixV m u)) ?h0]
      case h0 => simp [fixV]
      · simp only [bindC_go]
        by_cases h3 : m / 256 ^ u = 0
        · rw [decide_eq_true h3, decide_eq_false (by rw [h3]; decide : ¬ ((m / 256 ^ u : Nat) : Int) > 0)]; rfl
        · have h4 : ((m / 256 ^ u : Nat) : Int) > 0 := Int.ofNat_lt.2 (Nat.pos_of_ne_zero h3)
          rw [decide_eq_false h3, decide_eq_true h4]; rfl
      · intro j hj
        have e1 : Int.tmod ((m / 256 ^ j : Nat) : Int) (256 : Int) = ((m / 256 ^ j % 256 : Nat) : Int) := by rw [show (256 : Int) = ((256 : Nat) : Int) from rfl, ← Int.ofNat_tmod]
        have e2 : Int.tdiv ((m / 256 ^ j : Nat) : Int) (256 : Int) = ((m / 256 ^ (j + 1) : Nat) : Int) := by rw [show (256 : Int) = ((256 : Nat) : Int) from rfl, ← Int.ofNat_tdiv, div_pow_succ]
        have e3 : ((m / 256 ^ (j + 1) : Nat) : Int) ≤ (m : Int) := Int.ofNat_le.2 (Nat.div_le_self _ _)
        have e4 : (0 : Int) ≤ ((m / 256 ^ (j + 1) : Nat) : Int) := Int.natCast_nonneg _
        have hl := fixV_len m j
        simp only [e1, e2, toU8_mod]
        rw [if_pos (by simp only [decide_eq_true_eq]; omega), wrap_ok (n := (j : Int) + 1) (by omega) (by omega), wrap_ok (by omega) (by omega)]
        rw [cat_ok (by rw [hl]; simp; omega)]
        rfl
      · simp
    · rw [decide_eq_false h2, decide_eq_true (by omega : n < 0)]
      rfl
  · rw [decide_eq_false h1]
    rfl
theorem impl_Fixed_eq (n w : Int) (hn : n ≤ 4611686018427387904) : impl_Fixed n w = some (fixedV n w) := by
  unfold impl_Fixed fixedV
  rw [inRange_eq]
  by_cases h1 : 1 ≤ w ∧ w ≤ 7
  · rw [decide_eq_true h1]
    by_cases h2 : 0 ≤ n
    · obtain ⟨m, rfl⟩ : ∃ m : Nat, n = (m : Int) := ⟨n.toNat, by omega⟩
      obtain ⟨u, rfl⟩ : ∃ u : Nat, w = (u : Int) := ⟨w.toNat, by omega⟩
      have e0 : IntKind.u64.wrap (IntKind.i64.wrap ((8 : Int) * (u : Int))) = ((8 * u : Nat) : Int) := by rw [wrap_ok (by omega) (by omega), wrap64u]; omega
      have e5 : ishr .i64 (m : Int) ((8 * u : Nat) : Int) = ((m / 256 ^ u : Nat) : Int) := by
        rw [ishr_nat (by show 8 * u ≤ 64; omega), Nat.pow_mul]
      have e6 : decide (((m / 256 ^ u : Nat) : Int) = 0) = decide (m / 256 ^ u = 0) := decide_eq_decide.2 (by omega)
      rw [decide_eq_true h2, decide_eq_false (by omega : ¬ (m : Int) < 0)]
      simp only [Option.bind_some, Bool.not_true, Bool.false_eq_true, if_false, Int.toNat_natCast, e0, e5, e6]
      by_cases h3 : m / 256 ^ u = 0
      · rw [decide_eq_true h3]
        simp only [Bool.not_true, Bool.false_eq_true, if_false, Bool.true_and, cond_true]
        rw [mkLen_ok (by omega) (by omega)]
        simp only [Option.bind_some]
        rw [loopO_count (fun j => (((m / 256 ^ j : Nat) : Int), (u : Int) - 1 - (j : Int), List.replicate (u - j) (0 : UInt8) ++ fixV m j)) u (r := Ctl.go (fixV m u)) ?h0]
        case h0 => rw [wrap_ok (by omega) (by omega)]; simp [fixV]
        · rfl
        · intro j hj
          have e1 : ishr .i64 ((m / 256 ^ j : Nat) : Int) (8 : Int) = ((m / 256 ^ (j + 1) : Nat) : Int) := by
            rw [show ishr .i64 ((m / 256 ^ j : Nat) : Int) (8 : Int) = ((m / 256 ^ j / 256 : Nat) : Int) from ishr_nat (n := 8) (by decide), div_pow_succ]
          have hl := fixV_len m j
          have hi : (u : Int) - 1 - (j : Int) = ((u - 1 - j : Nat) : Int) := by omega
          have hlen : u - 1 - j < (List.replicate (u - j) (0 : UInt8) ++ fixV m j).length := by simp; omega
          have hset : (List.replicate (u - j) (0 : UInt8) ++ fixV m j).set (u - 1 - j) (toU8 ((m / 256 ^ j : Nat) : Int)) = List.replicate (u - (j + 1)) (0 : UInt8) ++ fixV m (j + 1) := by
            rw [show u - j = (u - (j + 1)) + 1 by omega, List.replicate_succ', List.append_assoc, show u - 1 - j = u - (j + 1) by omega, List.set_append_right _ _ (by simp)]
            simp [fixV]
          simp only [hi, e1, idx_nat _ _ hlen, Option.bind_some, Int.toNat_natCast, hset]
          rw [if_pos (by simp only [decide_eq_true_eq]; omega), wrap_ok (by omega) (by omega)]
          rw [show ((u - 1 - j : Nat) : Int) - 1 = (u : Int) - 1 - ((j + 1 : Nat) : Int) by omega]
        · rw [if_neg (by simp only [decide_eq_true_eq]; omega)]
          simp
      · rw [decide_eq_false h3]
        rfl
    · rw [decide_eq_false h2, decide_eq_true (by omega : n < 0)]
      rfl
  · rw [decide_eq_false h1]
    rfl
def nonceV (kind n : Int) : List UInt8 := bif decide (0 ≤ kind ∧ kind ≤ 255) && decide (0 ≤ n ∧ n ≤ 562949953421311) then [toU8 kind, 0, 0, 0, 0] ++ fixedV n 7 else []
theorem fixedV_len7 (n : Int) (h : 0 ≤ n ∧ n ≤ 562949953421311) : (fixedV n 7).length = 7 := by
  unfold fixedV
  have h1 : n.toNat / 256 ^ (7 : Int).toNat = 0 := Nat.div_eq_of_lt (by show n.toNat < 256 ^ 7; omega)
  rw [decide_eq_true h.1, decide_eq_true h1]
  show (fixV n.toNat 7).length = 7
  exact fixV_len _ 7
theorem spec_NonceOf_eq (kind n : Int) : spec_NonceOf kind n = some (nonceV kind n) := by
  unfold spec_NonceOf nonceV
  rw [l1In_eq, l1In_eq]
  by_cases h1 : 0 ≤ kind ∧ kind ≤ 255
  · by_cases h2 : 0 ≤ n ∧ n ≤ 562949953421311
    · rw [decide_eq_true h1, decide_eq_true h2]
      simp only [Option.bind_some, Bool.not_true, Bool.false_eq_true, if_false, Bool.and_self, cond_true, spec_Fixed_eq n 7 (by omega)]
      rw [cat_ok (by rw [fixedV_len7 n h2]; show 5 + 7 ≤ 9223372036854775807; decide)]
      rfl
    · rw [decide_eq_true h1, decide_eq_false h2]
      rfl
  · rw [decide_eq_false h1]
    rfl
theorem impl_NonceOf_eq (kind n : Int) : impl_NonceOf kind n = some (nonceV kind n) := by
  unfold impl_NonceOf nonceV
  rw [inRange_eq, inRange_eq]
  by_cases h1 : 0 ≤ kind ∧ kind ≤ 255
  · by_cases h2 : 0 ≤ n ∧ n ≤ 562949953421311
    · rw [decide_eq_true h1, decide_eq_true h2]
      simp only [Option.bind_some, Bool.not_true, Bool.false_eq_true, if_false, Bool.and_self, cond_true, impl_Fixed_eq n 7 (by omega)]
      rw [cat_ok (by rw [fixedV_len7 n h2]; show 5 + 7 ≤ 9223372036854775807; decide)]
      rfl
    · rw [decide_eq_true h1, decide_eq_false h2]
      rfl
  · rw [decide_eq_false h1]
    rfl
/-! draws -/
/-! draws of files and edits -/
/-! reservations: what fits -/
/-! rows of a log -/
/-! streams -/
noncomputable def strB (key : List UInt8) (counter : Int) (nonce : List UInt8) (i : Nat) : UInt8 := (chaV key (counter + ((i / 64 : Nat) : Int)) nonce).getD (i % 64) 0
noncomputable def xorV (key : List UInt8) (counter : Int) (nonce text : List UInt8) : List UInt8 := text.mapIdx fun i x => x ^^^ strB key counter nonce i
def streamOk (key : List UInt8) (counter : Int) (nonce : List UInt8) (n : Nat) : Bool := chaOk key counter nonce && decide (n = 0 ∨ counter + (((n - 1) / 64 : Nat) : Int) ≤ 4294967295)
noncomputable def streamV (key : List UInt8) (counter : Int) (nonce text : List UInt8) : List UInt8 := bif streamOk key counter nonce text.length then xorV key counter nonce text else []
theorem xorV_len (key : List UInt8) (counter : Int) (nonce text : List UInt8) : (xorV key counter nonce text).length = text.length := by unfold xorV; rw [List.length_mapIdx]
theorem xorV_at (key : List UInt8) (counter : Int) (nonce text : List UInt8) (i : Nat) (h : i < text.length) : (xorV key counter nonce text)[i]'(by rw [xorV_len]; exact h) = text[i] ^^^ strB key counter nonce i := by
  unfold xorV
  rw [List.getElem_mapIdx]
theorem chaOk_at {key : List UInt8} {counter : Int} {nonce : List UInt8} (h : chaOk key counter nonce = true) (k : Nat) (hk : counter + (k : Int) ≤ 4294967295) : chaOk key (counter + (k : Int)) nonce = true := by
  obtain ⟨h1, h2, h3, h4⟩ := chaOk_iff h
  unfold chaOk
  rw [decide_eq_true h1, decide_eq_true h2, decide_eq_true (by omega)]
  rfl
theorem chaV_no {key : List UInt8} {counter : Int} {nonce : List UInt8} (h : chaOk key counter nonce = false) : chaV key counter nonce = [] := by unfold chaV; rw [h]; rfl
theorem chaV_ne {key : List UInt8} {counter : Int} {nonce : List UInt8} (h : chaOk key counter nonce = true) : chaV key counter nonce ≠ [] := by
  intro e
  have := chaV_len key counter nonce h
  rw [e] at this
  cases this
theorem strB_at {key : List UInt8} {counter : Int} {nonce : List UInt8} (k j : Nat) (hj : j < 64) (h : chaOk key (counter + (k : Int)) nonce = true) : strB key counter nonce (64 * k + j) = (chaV key (counter + (k : Int)) nonce)[j]'(by rw [chaV_len _ _ _ h]; exact hj) := by
  unfold strB
  have e1 : (64 * k + j) / 64 = k := by omega
  have e2 : (64 * k + j) % 64 = j := by omega
  rw [e1, e2, List.getD_eq_getElem?_getD, List.getElem?_eq_getElem (by rw [chaV_len _ _ _ h]; exact hj)]
  rfl
theorem take_next {α : Type} (z : List α) (m : Nat) (h : m < z.length) : z.take (m + 1) = z.take m ++ [z[m]] := by
  rw [List.take_add_one, List.getElem?_eq_getElem h]; rfl
/-- one block of a stream, written behind -/
theorem spec_inner {ρ : Type} (key : List UInt8) (counter : Int) (nonce text : List UInt8) (ht : text.length ≤ 1099511627776) (k : Nat) (hk : 64 * k < text.length) (h : chaOk key (counter + (k : Int)) nonce = true) :
    loopO (ρ := Ctl (List UInt8) ρ) (fun (S15 : Int × List UInt8) => (if (decide (S15.1 < ((text.length : Nat) : Int))) = true then (some (decide (S15.1 < ((64 * k + 64 : Nat) : Int))))
      else (some false)).bind (fun (T19 : Bool) =>
      if T19 = true then ((sidx text S15.1).bind fun E23 =>
      (sidx (chaV key (counter + (k : Int)) nonce) (IntKind.i64.wrap (S15.1 - ((64 * k : Nat) : Int)))).bind fun E25 =>
      (app 1 S15.2 ([(E23 ^^^ E25)])).bind fun E29 =>
      some (.go (IntKind.i64.wrap (S15.1 + (1 : Int)), E29)))
      else (some (.done (.go S15.2))))) (((64 * k : Nat) : Int), (xorV key counter nonce text).take (64 * k)) = some (.go ((xorV key counter nonce text).take (64 * (k + 1)))) := by
  have hz := xorV_len key counter nonce text
  refine loopO_is (fun j S => S = (((64 * k + j : Nat) : Int), (xorV key counter nonce text).take (64 * k + j))) (min 64 (text.length - 64 * k)) _ rfl ?_ ?_
  · rintro j _ hj rfl
    left
    have hi : 64 * k + j < text.length := by omega
    simp only
    rw [decide_eq_true (by omega : ((64 * k + j : Nat) : Int) < ((text.length : Nat) : Int)), decide_eq_true (by omega : ((64 * k + j : Nat) : Int) < ((64 * k + 64 : Nat) : Int))]
    have e1 : ((64 * k + j : Nat) : Int) - ((64 * k : Nat) : Int) = (j : Int) := by omega
    have hl : ((xorV key counter nonce text).take (64 * k + j)).length = 64 * k + j := by rw [List.length_take]; omega
    rw [e1, wrap_ok (n := (j : Int)) (by omega) (by omega)]
    simp only [if_true, Option.bind_some]
    rw [sidx_nat text _ hi]
    simp only [Option.bind_some]
    rw [sidx_nat _ j (by rw [chaV_len _ _ _ h]; omega)]
    simp only [Option.bind_some]
    rw [app_ok (by simp only [List.length_singleton]; omega) (by simp only [List.length_singleton]; omega), wrap_ok (by omega) (by omega)]
    refine ⟨_, rfl, ?_⟩
    rw [show 64 * k + (j + 1) = (64 * k + j) + 1 from rfl, take_next _ _ (by rw [hz]; exact hi), xorV_at _ _ _ _ _ hi, strB_at k j (by omega) h]
    rfl
  · rintro _ rfl
    simp only
    by_cases c : 64 * k + 64 ≤ text.length
    · have e : 64 * k + min 64 (text.length - 64 * k) = 64 * k + 64 := by omega
      rw [e, decide_eq_false (by omega : ¬ ((64 * k + 64 : Nat) : Int) < ((64 * k + 64 : Nat) : Int)), show 64 * (k + 1) = 64 * k + 64 from rfl]
      split <;> rfl
    · have e : 64 * k + min 64 (text.length - 64 * k) = text.length := by omega
      rw [e, decide_eq_false (by omega : ¬ ((text.length : Nat) : Int) < ((text.length : Nat) : Int)), List.take_of_length_le (by omega), List.take_of_length_le (by omega)]
      rfl
theorem spec_ChaStream_eq (key : List UInt8) (counter : Int) (nonce text : List UInt8) (ht : text.length ≤ 1099511627776) : spec_ChaStream key counter nonce text = some (streamV key counter nonce text) := by
  unfold spec_ChaStream streamV streamOk
  rw [spec_ChaBlock_eq]
  simp only [Option.bind_some]
  cases h0 : chaOk key counter nonce with
  | false => rw [chaV_no h0]; rfl
  | true =>
    rw [decide_eq_false (chaV_ne h0)]
    simp only [Bool.false_eq_true, if_false, Bool.true_and]
    obtain ⟨_, _, hc1, hc2⟩ := chaOk_iff h0
    obtain ⟨r, hr, hq⟩ := loopO_total (ρ := Ctl (List UInt8) (List UInt8)) (s0 := ((0 : Int), ([] : List UInt8))) (body := fun (S6 : Int × List UInt8) => if (decide (S6.1 < ((text.length : Nat) : Int))) = true then ((spec_ChaBlock key (IntKind.i64.wrap (counter + (IntKind.i64.wrap (Int.tdiv S6.1 (64 : Int))))) nonce).bind fun R11 =>
      if (decide (R11 = ([]))) = true then (some (.done (.done ([]))))
      else (bindC (loopO (fun (S15 : Int × List UInt8) => (if (decide (S15.1 < ((text.length : Nat) : Int))) = true then (some (decide (S15.1 < IntKind.i64.wrap (S6.1 + (64 : Int)))))
      else (some false)).bind (fun (T19 : Bool) =>
      if T19 = true then ((sidx text S15.1).bind fun E23 =>
      (sidx R11 (IntKind.i64.wrap (S15.1 - S6.1))).bind fun E25 =>
      (app 1 S15.2 ([(E23 ^^^ E25)])).bind fun E29 =>
      some (.go (IntKind.i64.wrap (S15.1 + (1 : Int)), E29)))
      else (some (.done (.go S15.2)))))
      (S6.1, S6.2))
      (fun (T17 : List UInt8) => some (.go (IntKind.i64.wrap (S6.1 + (64 : Int)), T17)))))
      else (some (.done (.go S6.2))))
      (fun k S => S = (((64 * k : Nat) : Int), (xorV key counter nonce text).take (64 * k)) ∧ (k = 0 ∨ counter + ((k - 1 : Nat) : Int) ≤ 4294967295)) ((text.length + 63) / 64)
      (fun r => r = bif decide (text.length = 0 ∨ counter + (((text.length - 1) / 64 : Nat) : Int) ≤ 4294967295) then .go (xorV key counter nonce text) else .done []) ⟨rfl, .inl rfl⟩ (by
      rintro k _ hk ⟨rfl, hb⟩
      have hlt : 64 * k < text.length := by omega
      have e1 : Int.tdiv ((64 * k : Nat) : Int) 64 = (k : Int) := by rw [Int.tdiv_eq_ediv_of_nonneg (by omega)]; omega
      simp only
      rw [e1, wrap_ok (n := (k : Int)) (by omega) (by omega), wrap_ok (n := counter + (k : Int)) (by omega) (by omega), wrap_ok (n := ((64 * k : Nat) : Int) + 64) (by omega) (by omega), decide_eq_true (by omega : ((64 * k : Nat) : Int) < ((text.length : Nat) : Int)), spec_ChaBlock_eq]
      simp only [if_true, Option.bind_some]
      by_cases hm : counter + (k : Int) ≤ 4294967295
      · left
        have hk2 := chaOk_at h0 k hm
        rw [decide_eq_false (chaV_ne hk2)]
        simp only [Bool.false_eq_true, if_false]
        have e2 : ((64 * k : Nat) : Int) + 64 = ((64 * k + 64 : Nat) : Int) := by omega
        rw [e2, spec_inner key counter nonce text ht k hlt hk2]
        exact ⟨_, rfl, rfl, .inr (by simpa using hm)⟩
      · right
        have hk2 : chaOk key (counter + (k : Int)) nonce = false := by
          unfold chaOk
          rw [decide_eq_false (by omega : ¬ (0 ≤ counter + (k : Int) ∧ counter + (k : Int) ≤ 4294967295)), Bool.and_false, Bool.and_false]
        rw [chaV_no hk2]
        refine ⟨_, rfl, ?_⟩
        rw [decide_eq_false (by omega)]
        rfl) (by
      rintro _ ⟨rfl, hb⟩
      simp only
      rw [decide_eq_false (by omega : ¬ ((64 * ((text.length + 63) / 64) : Nat) : Int) < ((text.length : Nat) : Int)), List.take_of_length_le (by rw [xorV_len]; omega), decide_eq_true (by omega)]
      exact ⟨_, rfl, rfl⟩)
    rw [hr, hq]
    cases decide (text.length = 0 ∨ counter + (((text.length - 1) / 64 : Nat) : Int) ≤ 4294967295) <;> rfl
/-- one block of a stream, in place -/
theorem impl_inner {ρ : Type} (key : List UInt8) (counter : Int) (nonce text : List UInt8) (ht : text.length ≤ 1099511627776) (k : Nat) (hk : 64 * k < text.length) (h : chaOk key (counter + (k : Int)) nonce = true) :
    loopO (ρ := Ctl (List UInt8) ρ) (fun (S20 : Int × List UInt8) => (if (decide (S20.1 < (64 : Int))) = true then (some (decide (IntKind.i64.wrap (((64 * k : Nat) : Int) + S20.1) < ((S20.2.length : Nat) : Int))))
      else (some false)).bind (fun (T24 : Bool) =>
      if T24 = true then ((sidx (chaV key (counter + (k : Int)) nonce) S20.1).bind fun E28 =>
      (idx S20.2 (IntKind.i64.wrap (((64 * k : Nat) : Int) + S20.1))).bind fun E30 =>
      some (.go (IntKind.i64.wrap (S20.1 + (1 : Int)), (S20.2.set ((IntKind.i64.wrap (((64 * k : Nat) : Int) + S20.1)).toNat) (E30 ^^^ E28)))))
      else (some (.done (.go S20.2))))) ((0 : Int), (xorV key counter nonce text).take (64 * k) ++ text.drop (64 * k)) = some (.go ((xorV key counter nonce text).take (64 * (k + 1)) ++ text.drop (64 * (k + 1)))) := by
  have hz := xorV_len key counter nonce text
  refine loopO_is (fun j S => S = ((j : Int), (xorV key counter nonce text).take (64 * k + j) ++ text.drop (64 * k + j))) (min 64 (text.length - 64 * k)) _ rfl ?_ ?_
  · rintro j _ hj rfl
    left
    have hi : 64 * k + j < text.length := by omega
    have e1 : ((64 * k : Nat) : Int) + (j : Int) = ((64 * k + j : Nat) : Int) := by omega
    have hl : ((xorV key counter nonce text).take (64 * k + j)).length = 64 * k + j := by rw [List.length_take]; omega
    have hll : ((xorV key counter nonce text).take (64 * k + j) ++ text.drop (64 * k + j)).length = text.length := by rw [List.length_append, hl, List.length_drop]; omega
    simp only
    rw [e1, wrap_ok (n := ((64 * k + j : Nat) : Int)) (by omega) (by omega), decide_eq_true (by omega : (j : Int) < 64), hll, decide_eq_true (by omega : ((64 * k + j : Nat) : Int) < ((text.length : Nat) : Int))]
    simp only [if_true, Option.bind_some]
    rw [sidx_nat _ j (by rw [chaV_len _ _ _ h]; omega)]
    simp only [Option.bind_some]
    rw [idx_nat _ (64 * k + j) (by rw [hll]; exact hi)]
    simp only [Option.bind_some]
    rw [wrap_ok (by omega) (by omega), Int.toNat_natCast]
    refine ⟨_, rfl, ?_⟩
    have e2 : ((xorV key counter nonce text).take (64 * k + j) ++ text.drop (64 * k + j))[64 * k + j]'(by rw [hll]; exact hi) = text[64 * k + j] := by
      rw [List.getElem_append_right (by omega)]
      simp only [List.getElem_drop]
      congr 1
      omega
    rw [e2, show 64 * k + (j + 1) = (64 * k + j) + 1 from rfl, take_next _ _ (by rw [hz]; exact hi), xorV_at _ _ _ _ _ hi, strB_at k j (by omega) h, List.set_append_right _ _ (by omega), hl, Nat.sub_self, List.drop_eq_getElem_cons hi, List.append_assoc]
    rfl
  · rintro _ rfl
    simp only
    by_cases c : 64 * k + 64 ≤ text.length
    · have e : min 64 (text.length - 64 * k) = 64 := by omega
      rw [e, decide_eq_false (by omega : ¬ ((64 : Nat) : Int) < 64)]
      rfl
    · have e : 64 * k + min 64 (text.length - 64 * k) = text.length := by omega
      have e3 : (xorV key counter nonce text).take (64 * k + min 64 (text.length - 64 * k)) ++ text.drop (64 * k + min 64 (text.length - 64 * k)) = xorV key counter nonce text := by
        rw [e, List.take_of_length_le (by omega), List.drop_of_length_le (Nat.le_refl _), List.append_nil]
      rw [e3, hz, List.take_of_length_le (by omega), List.drop_of_length_le (by omega), List.append_nil]
      have e1 : ((64 * k : Nat) : Int) + ((min 64 (text.length - 64 * k) : Nat) : Int) = ((text.length : Nat) : Int) := by omega
      rw [e1, wrap_ok (by omega) (by omega), decide_eq_false (by omega : ¬ ((text.length : Nat) : Int) < ((text.length : Nat) : Int))]
      split <;> rfl
theorem impl_ChaStream_eq (key : List UInt8) (counter : Int) (nonce text : List UInt8) (ht : text.length ≤ 1099511627776) : impl_ChaStream key counter nonce text = some (streamV key counter nonce text) := by
  unfold impl_ChaStream streamV streamOk
  rw [impl_isCha_eq]
  simp only [Option.bind_some]
  cases h0 : chaOk key counter nonce with
  | false => rfl
  | true =>
    obtain ⟨_, _, hc1, hc2⟩ := chaOk_iff h0
    have hbr : byteRoom text = some () := by unfold byteRoom; rw [if_pos (by omega)]
    have e0 : Int.tdiv (((text.length : Nat) : Int) + 63) 64 = (((text.length + 63) / 64 : Nat) : Int) := by rw [Int.tdiv_eq_ediv_of_nonneg (by omega)]; omega
    simp only [Bool.not_true, Bool.false_eq_true, if_false, hbr, Option.bind_some, Bool.true_and]
    rw [wrap_ok (n := ((text.length : Nat) : Int) + 63) (by omega) (by omega), e0, wrap_ok (n := (((text.length + 63) / 64 : Nat) : Int)) (by omega) (by omega), wrap_ok (n := counter + (((text.length + 63) / 64 : Nat) : Int)) (by omega) (by omega), wrap_ok (n := counter + (((text.length + 63) / 64 : Nat) : Int) - 1) (by omega) (by omega)]
    have hg : (if decide ((((text.length + 63) / 64 : Nat) : Int) > 0) = true then (some (decide (counter + (((text.length + 63) / 64 : Nat) : Int) - 1 > 4294967295))) else (some false)) = some (!decide (text.length = 0 ∨ counter + (((text.length - 1) / 64 : Nat) : Int) ≤ 4294967295)) := by
      by_cases c : text.length = 0
      · rw [decide_eq_false (by omega), decide_eq_true (show text.length = 0 ∨ counter + (((text.length - 1) / 64 : Nat) : Int) ≤ 4294967295 from .inl c)]; rfl
      · rw [decide_eq_true (by omega)]
        by_cases c2 : counter + (((text.length - 1) / 64 : Nat) : Int) ≤ 4294967295
        · rw [decide_eq_false (by omega), decide_eq_true (by omega)]; rfl
        · rw [decide_eq_true (by omega), decide_eq_false (by omega)]; rfl
    rw [hg]
    cases hd : decide (text.length = 0 ∨ counter + (((text.length - 1) / 64 : Nat) : Int) ≤ 4294967295) with
    | false => rfl
    | true =>
      have hd' := of_decide_eq_true hd
      simp only [Option.bind_some, Bool.not_true, Bool.false_eq_true, if_false, cond_true]
      rw [loopO_is (ρ := Ctl (List UInt8) (List UInt8)) (s0 := (counter, (0 : Int), text)) (fun k S => S = (counter + (k : Int), ((64 * k : Nat) : Int), (xorV key counter nonce text).take (64 * k) ++ text.drop (64 * k))) ((text.length + 63) / 64) (.go (xorV key counter nonce text)) (by simp) ?_ ?_]
      · rfl
      · rintro k _ hk rfl
        left
        have hlt : 64 * k < text.length := by omega
        have hk2 := chaOk_at h0 k (by omega)
        have hl : ((xorV key counter nonce text).take (64 * k) ++ text.drop (64 * k)).length = text.length := by rw [List.length_append, List.length_take, List.length_drop, xorV_len]; omega
        simp only
        rw [hl, decide_eq_true (by omega : ((64 * k : Nat) : Int) < ((text.length : Nat) : Int)), impl_ChaBlock_eq]
        simp only [if_true, Option.bind_some]
        rw [impl_inner key counter nonce text ht k hlt hk2]
        simp only [bindC_go]
        rw [wrap_ok (n := counter + (k : Int) + 1) (by omega) (by omega), wrap_ok (n := ((64 * k : Nat) : Int) + 64) (by omega) (by omega)]
        exact ⟨_, rfl, by rw [show counter + (k : Int) + 1 = counter + ((k + 1 : Nat) : Int) by omega, show ((64 * k : Nat) : Int) + 64 = ((64 * (k + 1) : Nat) : Int) by omega]⟩
      · rintro _ rfl
        simp only
        rw [List.take_of_length_le (by rw [xorV_len]; omega), List.drop_of_length_le (by omega), List.append_nil, xorV_len, decide_eq_false (by omega)]
        rfl

/-! files sealed -/
/-! a known block -/
/-! all that an iterator meets -/
/-! compaction keeps what is seen -/
/-! draws of entries -/
/-! stable order: lists in order, class by class -/
/-! two elements change places -/
/-! the merge of two parts beside each other -/
/-! the first of each class, in order -/
/-! an engine's tables merged into one -/
/-! the merge and the flush that follow a put -/
/-! all entries of an engine -/
/-! the map of an engine -/
/-- the stream of a row -/
noncomputable def streamOfV (key : List UInt8) (x : LogRow) : List UInt8 :=
  if key.length = 32 ∧ (0 ≤ x.Boot ∧ x.Boot ≤ 1000) ∧ (0 ≤ x.Seq ∧ x.Seq ≤ 999999) then streamV key 0 (nonceV 3 (IntKind.i64.wrap (IntKind.i64.wrap (x.Boot * 1000000) + x.Seq))) (List.replicate x.Text.length 0) else []
theorem spec_StreamOf_eq (key : List UInt8) (x : LogRow) (h : x.Text.length ≤ 1099511627776) : spec_StreamOf key x = some (streamOfV key x) := by
  unfold spec_StreamOf spec_l8At streamOfV
  by_cases h1 : key.length = 32
  · have e1 : decide (((key.length : Nat) : Int) = 32) = true := decide_eq_true (by omega)
    simp only [e1, Bool.not_true, Bool.false_eq_true, if_false, l1In_eq, Option.bind_some, decide_eq_true_eq]
    by_cases h2 : 0 ≤ x.Boot ∧ x.Boot ≤ 1000
    · by_cases h3 : 0 ≤ x.Seq ∧ x.Seq ≤ 999999
      · simp only [h2, h3, h1, and_self, if_true, Option.bind_some, decide_true, Bool.not_true, Bool.false_eq_true, if_false, spec_NonceOf_eq]
        rw [mkLen_ok (by omega) (by omega)]
        simp only [Option.bind_some]
        rw [spec_ChaStream_eq _ _ _ _ (by simpa using h)]
        rfl
      · simp only [h2, h3, and_self, and_false, if_true, if_false, Option.bind_some, decide_false, Bool.not_false]
    · simp only [h2, false_and, and_false, if_false, Option.bind_some, Bool.not_false, if_true]
  · have e1 : decide (((key.length : Nat) : Int) = 32) = false := decide_eq_false (by omega)
    simp only [e1, h1, Bool.not_false, if_true, Option.bind_some, false_and, if_false]
theorem repeat_zeros (k : Nat) (h : k ≤ 140737488355328) : strings_Repeat [0] (k : Int) = some (List.replicate k 0) := by
  unfold strings_Repeat
  rw [if_pos ⟨by omega, by simpa using h, by omega⟩]
  have := Lib.repeatL_replicate (0 : UInt8) 1 k
  simpa using this
theorem impl_StreamOf_eq (key : List UInt8) (x : LogRow) (h : x.Text.length ≤ 1099511627776) : impl_StreamOf key x = some (streamOfV key x) := by
  unfold impl_StreamOf impl_isPlace impl_rowNonce streamOfV
  by_cases h1 : key.length = 32
  · have e1 : decide (((key.length : Nat) : Int) = 32) = true := decide_eq_true (by omega)
    simp only [e1, Bool.not_true, Bool.false_eq_true, if_false, inRange_eq, Option.bind_some, decide_eq_true_eq]
    by_cases h2 : 0 ≤ x.Boot ∧ x.Boot ≤ 1000
    · by_cases h3 : 0 ≤ x.Seq ∧ x.Seq ≤ 999999
      · simp only [h2, h3, h1, and_self, if_true, Option.bind_some, decide_true, Bool.not_true, Bool.false_eq_true, if_false, impl_NonceOf_eq]
        rw [repeat_zeros _ (by omega)]
        simp only [Option.bind_some]
        rw [impl_ChaStream_eq _ _ _ _ (by simpa using h)]
        rfl
      · simp only [h2, h3, and_self, and_false, if_true, if_false, Option.bind_some, decide_false, Bool.not_false]
    · simp only [h2, false_and, and_false, if_false, Option.bind_some, Bool.not_false, if_true]
  · have e1 : decide (((key.length : Nat) : Int) = 32) = false := decide_eq_false (by omega)
    simp only [e1, h1, Bool.not_false, if_true, Option.bind_some, false_and, if_false]
theorem toLogRow_eq (x : LogRow) : laws_toLogRow x = some x := rfl
theorem FnExactStreamOf_pure (key : List UInt8) (x : LogRow) (h : x.Text.length ≤ 9223372036854775807) : laws_FnExactStreamOf key x = some true := by
  unfold laws_FnExactStreamOf
  by_cases hk : ((key.length : Nat) : Int) > 1048576
  · rw [decide_eq_true hk]; rfl
  rw [decide_eq_false hk, szLogRow_eq x 1048576 (by omega) (by omega) h]
  simp only [Bool.false_eq_true, if_false, Option.bind_some]
  by_cases hl : szV 1048576 x.Text.length < 0
  · rw [if_pos (by simpa using hl)]
  · have hn := szV_nonneg hl
    rw [if_neg (by simpa using hl), toLogRow_eq x]
    simp only [Option.bind_some, spec_StreamOf_eq key x (by omega), impl_StreamOf_eq key x (by omega), decide_true, Bool.not_true, Bool.false_eq_true, if_false]
theorem FnExactStreamOf_proved : Rows.FnExactStreamOfSaid := FnExactStreamOf_over fun key x _ h => FnExactStreamOf_pure key x h.2.2.2.1

end Go.Proofs.Ytablbamlbfgfpaa
