/- Bytes in which bits of a burst are turned, one by one: plain numbers. -/
import Derived.Test.YtogplkochcalpaaCrc
set_option linter.unusedVariables false
namespace Go.Proofs.Ytogplkochcalpaa.Burst
theorem mul_xor (n a b : Nat) : 2 ^ n * (a ^^^ b) = 2 ^ n * a ^^^ 2 ^ n * b := by
  apply Nat.eq_of_testBit_eq
  intro i
  rw [Nat.testBit_xor, Nat.testBit_two_pow_mul, Nat.testBit_two_pow_mul, Nat.testBit_two_pow_mul, Nat.testBit_xor]
  by_cases h : n ≤ i <;> simp [h]
theorem num_set (l : List Nat) (q d : Nat) (hl : ∀ x ∈ l, x < 256) (hq : q < l.length) (hd : d < 256) : Crc.num (l.set q (l.getD q 0 ^^^ d)) = Crc.num l ^^^ 2 ^ (8 * q) * d := by
  induction l generalizing q with
  | nil => simp at hq
  | cons x l ih =>
    have hx := hl x (by simp)
    cases q with
    | zero =>
      have h1 : x ^^^ d < 256 := Nat.xor_lt_two_pow (n := 8) hx hd
      show Crc.num ((x ^^^ d) :: l) = _
      rw [Crc.num_cons _ _ h1, Crc.num_cons _ _ hx, show 2 ^ (8 * 0) * d = d from by simp, Nat.xor_assoc, Nat.xor_assoc, Nat.xor_comm d]
    | succ q =>
      have h1 := ih q (fun y hy => hl y (by simp [hy])) (by simpa using hq)
      show Crc.num (x :: l.set q (l.getD q 0 ^^^ d)) = _
      rw [Crc.num_cons _ _ hx, h1, Crc.num_cons _ _ hx, show (256 : Nat) = 2 ^ 8 from rfl, mul_xor, ← Nat.mul_assoc, ← Nat.pow_add, show 8 + 8 * q = 8 * (q + 1) from by omega, Nat.xor_assoc]
theorem low_step (b k : Nat) (h : b / 2 ^ k % 2 = 1) : b % 2 ^ (k + 1) = b % 2 ^ k ^^^ 2 ^ k := by
  have h1 := Crc.split k (b % 2 ^ (k + 1))
  have h2 : b % 2 ^ (k + 1) / 2 ^ k = b / 2 ^ k % 2 := by
    rw [Nat.pow_succ, Nat.mod_mul_right_div_self]
  have h3 : b % 2 ^ (k + 1) % 2 ^ k = b % 2 ^ k := by
    rw [Nat.pow_succ, Nat.mod_mul_right_mod]
  rw [h2, h3, h, Nat.mul_one, Nat.xor_comm] at h1
  exact h1
theorem low_same (b k : Nat) (h : b / 2 ^ k % 2 = 0) : b % 2 ^ (k + 1) = b % 2 ^ k := by
  have h1 := Crc.split k (b % 2 ^ (k + 1))
  have h2 : b % 2 ^ (k + 1) / 2 ^ k = b / 2 ^ k % 2 := by
    rw [Nat.pow_succ, Nat.mod_mul_right_div_self]
  have h3 : b % 2 ^ (k + 1) % 2 ^ k = b % 2 ^ k := by
    rw [Nat.pow_succ, Nat.mod_mul_right_mod]
  rw [h2, h3, h, Nat.mul_zero, Nat.zero_xor] at h1
  exact h1
/-- One more bit of the burst is turned. -/
theorem turned (l0 l : List Nat) (p b k q r : Nat) (hl : ∀ x ∈ l, x < 256) (hq : q < l.length) (hr : r < 8) (hqr : 8 * q + r = p + k) (hb : b / 2 ^ k % 2 = 1) (h : Crc.num l0 ^^^ Crc.num l = 2 ^ p * (b % 2 ^ k)) :
    Crc.num l0 ^^^ Crc.num (l.set q (l.getD q 0 ^^^ 2 ^ r)) = 2 ^ p * (b % 2 ^ (k + 1)) := by
  have hr2 : 2 ^ r < 256 := by
    have : 2 ^ r < 2 ^ 8 := Nat.pow_lt_pow_right (by omega) hr
    omega
  rw [num_set l q _ hl hq hr2, ← Nat.xor_assoc, h, low_step b k hb, mul_xor, ← Nat.pow_add, ← Nat.pow_add, hqr]
/-- The sums differ. -/
theorem sums (c : Nat) (l0 l : List Nat) (p b : Nat) (h0 : ∀ x ∈ l0, x < 256) (hl : ∀ x ∈ l, x < 256) (hlen : l.length = l0.length) (hp : p / 8 < l0.length) (hb0 : b ≠ 0) (hb : b < 4294967296) (h : Crc.num l0 ^^^ Crc.num l = 2 ^ p * (b % 2 ^ 32)) :
    Crc.run c l0 ≠ Crc.run c l := by
  rw [Nat.mod_eq_of_lt (a := b) (by omega)] at h
  exact Crc.burst c l0 l h0 hl hlen.symm p b hb0 hb (by omega) h
end Go.Proofs.Ytogplkochcalpaa.Burst
