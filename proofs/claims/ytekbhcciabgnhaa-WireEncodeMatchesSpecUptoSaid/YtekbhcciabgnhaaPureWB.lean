import Derived.Test.YtekbhcciabgnhaaPP0
-- NEEDS
import Derived.Test.YtekbhcciabgnhaaPureW
import Derived.Laws.Bits64
import Derived.Laws.Bits64b
import Derived.Laws.BitsLemmas
set_option linter.unusedVariables false
namespace Go.Proofs.Ytekbhcciabgnhaa.PureW
open Go.RowKit Go.Proofs.YtekbhcciabgnhaaW.PrintWords Go.Proofs.YtekbhcciabgnhaaW.PrintLast

theorem nat_xor_ones (a : Nat) (h : a < 2 ^ 64) : a ^^^ 18446744073709551615 = 18446744073709551615 - a := by
  have e := congrArg BitVec.toNat (BitVec.xor_allOnes (x := BitVec.ofNat 64 a))
  rw [BitVec.toNat_xor, BitVec.toNat_not, BitVec.toNat_allOnes, BitVec.toNat_ofNat, Nat.mod_eq_of_lt h] at e
  have : (2 : Nat) ^ 64 - 1 = 18446744073709551615 := by decide
  rw [this] at e
  omega
theorem wraps_u64 (n : Int) (h₀ : 0 ≤ n) (h₁ : n < 2 ^ 64) : IntKind.u64.wrap n = n := by rw [IntKind.wrap_u64]; omega
theorem xor_zz {n : Int} (h : W64 n) : Go.bits .xor .u64 (IntKind.u64.wrap ((IntKind.u64.wrap n) * 2)) (IntKind.u64.wrap (n / 9223372036854775808)) = (zz n : Int) := by
  obtain ⟨h0, h1⟩ := h
  simp only [IntKind.wrap_u64]
  by_cases c : n < 0
  · have e1 : n / 9223372036854775808 % 18446744073709551616 = ((18446744073709551615 : Nat) : Int) := by omega
    have e2 : n % 18446744073709551616 * 2 % 18446744073709551616 = ((2 * n + 18446744073709551616).toNat : Int) := by omega
    rw [e1, e2, bits_xor_u64_nat _ _ (by omega) (by omega), nat_xor_ones _ (by omega)]
    unfold zz
    rw [if_pos c]
    omega
  · have e1 : n / 9223372036854775808 % 18446744073709551616 = ((0 : Nat) : Int) := by omega
    have e2 : n % 18446744073709551616 * 2 % 18446744073709551616 = ((2 * n).toNat : Int) := by omega
    rw [e1, e2, bits_xor_u64_nat _ _ (by omega) (by omega), Nat.xor_zero]
    unfold zz
    rw [if_neg c]
theorem and_one {z : Nat} (h : z < 2 ^ 64) : Go.bits .and .u64 (z : Int) 1 = ((z % 2 : Nat) : Int) := by
  have := bits_mask .u64 64 (by decide) wraps_u64 1 (by decide) (z : Int) (by omega) (by omega)
  rw [show ((2 : Int) ^ 1 - 1) = 1 from rfl] at this
  rw [this]
  omega
theorem wrap64_id {a : Int} (h0 : -9223372036854775808 ≤ a) (h1 : a ≤ 9223372036854775807) : wrap64 a = a := by unfold wrap64; omega
theorem xor_uz {z : Nat} (h : z < 2 ^ 64) : Go.bits .xor .i64 (wrap64 ((z : Int) / 2)) (wrap64 (-(wrap64 (Go.bits .and .u64 (z : Int) 1)))) = uz z := by
  rw [and_one h, wrap64_id (a := (z : Int) / 2) (by omega) (by omega), wrap64_id (a := ((z % 2 : Nat) : Int)) (by omega) (by omega), wrap64_id (by omega) (by omega)]
  have e2 : ((z : Int) / 2) = ((z / 2 : Nat) : Int) := by omega
  rw [e2]
  have hz : (BitVec.ofInt 64 ((z / 2 : Nat) : Int)).toNat = z / 2 := by
    rw [BitVec.ofInt_natCast, BitVec.toNat_ofNat]; exact Nat.mod_eq_of_lt (by omega)
  unfold uz
  by_cases c : z % 2 = 1
  · rw [if_pos c, c]
    show IntKind.i64.wrap ((BitVec.ofInt 64 ((z / 2 : Nat) : Int) ^^^ BitVec.ofInt 64 (-1)).toNat : Int) = _
    rw [BitVec.toNat_xor, hz, show (BitVec.ofInt 64 (-1)).toNat = 18446744073709551615 by decide, nat_xor_ones _ (by omega), IntKind.wrap_i64]
    omega
  · rw [if_neg c, show z % 2 = 0 by omega]
    show IntKind.i64.wrap ((BitVec.ofInt 64 ((z / 2 : Nat) : Int) ^^^ BitVec.ofInt 64 0).toNat : Int) = _
    rw [BitVec.toNat_xor, hz, show (BitVec.ofInt 64 0).toNat = 0 by decide, Nat.xor_zero, IntKind.wrap_i64]
    omega
theorem nat_or128 : ∀ a : Nat, a < 256 → a ||| 128 = a % 128 + 128 := by decide +kernel
theorem or128 (z : Nat) : Go.bits .or .u8 ((z : Int) % 256) 128 = ((z % 128 + 128 : Nat) : Int) := by
  have e : ((z : Int) % 256) = ((z % 256 : Nat) : Int) := by omega
  rw [e]
  have := (bits_nat .u8 8 (by decide) wraps_u8 (z % 256) 128 (by omega) (by decide)).2
  rw [show (((128 : Nat) : Int)) = 128 from rfl] at this
  rw [this, nat_or128 _ (by omega)]
  omega
theorem and127 {c : Int} (h0 : 0 ≤ c) (h1 : c < 256) : Go.bits .and .u8 c 127 = c % 128 := bits_mask .u8 8 (by decide) wraps_u8 7 (by decide) c h0 h1
theorem or_shift {x k : Nat} {d : Int} (hx : x < 2 ^ (7 * k)) (hk : k ≤ 9) (h0 : 0 ≤ d) (h1 : d < 128) (h9 : k = 9 → d ≤ 1) :
    Go.bits .or .u64 (x : Int) (shl .u64 (IntKind.u64.wrap d) (wrap64 (7 * (k : Int)))) = ((x + 2 ^ (7 * k) * d.toNat : Nat) : Int) := by
  have e1 : wrap64 (7 * (k : Int)) = ((7 * k : Nat) : Int) := by rw [wrap64_id (by omega) (by omega)]; omega
  have e2 : IntKind.u64.wrap d = (d.toNat : Int) := by rw [IntKind.wrap_u64]; omega
  have hb : 2 ^ (7 * k) * d.toNat < 2 ^ 64 := by
    by_cases c : k = 9
    · subst c
      have := h9 rfl
      have : d.toNat ≤ 1 := by omega
      have := Nat.mul_le_mul_left (2 ^ (7 * 9)) this
      omega
    · have h2 : 2 ^ (7 * k) ≤ 2 ^ 56 := Nat.pow_le_pow_right (by omega) (by omega)
      have h3 : d.toNat ≤ 127 := by omega
      have := Nat.mul_le_mul h2 h3
      omega
  have hx64 : x < 2 ^ 64 := Nat.lt_of_lt_of_le hx (Nat.pow_le_pow_right (by omega) (by omega))
  unfold shl
  rw [e1, e2, Int.toNat_natCast, Nat.min_eq_left (show 7 * k ≤ IntKind.u64.bits by show 7 * k ≤ 64; omega)]
  have e3 : ((d.toNat : Int) * 2 ^ (7 * k)) = ((2 ^ (7 * k) * d.toNat : Nat) : Int) := by
    rw [Int.natCast_mul, Int.natCast_pow, Int.mul_comm]; rfl
  have e4 : x ||| 2 ^ (7 * k) * d.toNat = x + 2 ^ (7 * k) * d.toNat := by rw [Nat.or_comm, ← Nat.two_pow_add_eq_or_of_lt hx, Nat.add_comm]
  rw [e3, wraps_u64 _ (Int.natCast_nonneg _) (by exact_mod_cast hb), bits_or_u64_nat _ _ (by omega) (by omega), e4]
end Go.Proofs.Ytekbhcciabgnhaa.PureW
