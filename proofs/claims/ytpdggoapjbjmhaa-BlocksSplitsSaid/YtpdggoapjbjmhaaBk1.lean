/- Blocks: words, what is stored: plain; the program's and the document's Parts, Word: what is printed of them. -/
import Derived.Test.YtpdggoapjbjmhaaKA
import Derived.Test.YtpdggoapjbjmhaaPBlocksWordsx1
import Derived.Laws.BitsAllLaws
set_option linter.unusedVariables false
set_option linter.unusedSimpArgs false
namespace Go.Proofs.Ytpdggoapjbjmhaa.Bk
open Go.RowKit Go.Proofs.Ytpdggoapjbjmhaa.Fd Go.Proofs.Ytpdggoapjbjmhaa.Bg Go.Proofs.Ytpdggoapjbjmhaa.PBlocksWords Go.Proofs.YtpdggoapjbjmhaaW.PrintWords Go.Proofs.YtpdggoapjbjmhaaW.PrintLast Go.Proofs.YtpdggoapjbjmhaaW.PrintMore
/-- What a word tells. -/
def prt (a : Int) : Int × Bool × Int := if 1 ≤ a ∧ a ≤ 1048576 then (a, true, 0) else if 2147483649 ≤ a ∧ a ≤ 2148532224 then (a - 2147483648, false, 0) else (0, false, 1)
/-- How a block is stored. -/
def wrd (n : Int) (p : Bool) : Int × Int := if n < 1 ∨ 1048576 < n then (0, 1) else if p = true then (n, 0) else (n + 2147483648, 0)
theorem wrap_small (n : Nat) (h : n < 9223372036854775808) : IntKind.i64.wrap (n : Int) = (n : Int) := by
  have e : (n : Int) % 2 ^ 64 = n := Int.emod_eq_of_lt (by omega) (by omega)
  simp only [IntKind.wrap, IntKind.bits, IntKind.signed, e]
  rw [if_neg]
  simp
  omega
theorem mask_nat (a : Nat) (h : a < 9223372036854775808) : a &&& 18446744071562067967 = 2 ^ 32 * (a / 2 ^ 32) + a % 2 ^ 31 := by
  apply Nat.eq_of_testBit_eq
  intro i
  rw [Nat.testBit_and, show (18446744071562067967 : Nat) = 2 ^ 64 - (2 ^ 31 + 1) by decide, Nat.testBit_two_pow_sub_succ (by decide), Nat.testBit_two_pow_mul_add _ (Nat.lt_of_lt_of_le (Nat.mod_lt _ (by decide)) (by decide)), Nat.testBit_mod_two_pow, Nat.testBit_two_pow, Nat.testBit_div_two_pow]
  by_cases h1 : i < 32
  · rw [if_pos h1]
    by_cases h2 : i = 31
    · subst h2; simp
    · have e1 : decide (31 = i) = false := decide_eq_false (by omega)
      have e2 : decide (i < 31) = true := decide_eq_true (by omega)
      have e3 : decide (i < 64) = true := decide_eq_true (by omega)
      rw [e1, e2, e3]; simp
  · rw [if_neg h1, show i - 32 + 32 = i by omega]
    have e1 : decide (31 = i) = false := decide_eq_false (by omega)
    rw [e1]
    by_cases h3 : i < 64
    · simp [h3]
    · have : a.testBit i = false := Nat.testBit_lt_two_pow (Nat.lt_of_lt_of_le h (Nat.le_trans (by decide : 9223372036854775808 ≤ 2 ^ 63) (Nat.pow_le_pow_right (by decide) (by omega))))
      rw [this]; simp
theorem andNot31 (a : Nat) (h : a < 9223372036854775808) : bits .andNot .i64 (a : Int) 2147483648 = ((2 ^ 32 * (a / 2 ^ 32) + a % 2 ^ 31 : Nat) : Int) := by
  show IntKind.i64.wrap ((BitVec.ofInt 64 (a : Int) &&& ~~~BitVec.ofInt 64 ((2147483648 : Nat) : Int)).toNat : Int) = _
  rw [BitVec.toNat_and, BitVec.toNat_not, ofInt_u64 a (by omega), ofInt_u64 2147483648 (by omega), show 2 ^ 64 - 1 - 2147483648 = 18446744071562067967 by decide, mask_nat a h]
  refine wrap_small _ ?_
  omega
theorem and_pow31 (a : Nat) : a &&& 2 ^ 31 = a / 2 ^ 31 % 2 * 2 ^ 31 := by
  rw [show a / 2 ^ 31 % 2 * 2 ^ 31 = 2 ^ 31 * (a / 2 ^ 31 % 2) + 0 by omega]
  apply Nat.eq_of_testBit_eq
  intro i
  rw [Nat.testBit_and, Nat.testBit_two_pow_mul_add _ (by decide), Nat.testBit_two_pow]
  by_cases h1 : i < 31
  · rw [if_pos h1, decide_eq_false (by omega : ¬ 31 = i)]; simp
  · rw [if_neg h1]
    by_cases h2 : i = 31
    · subst h2
      rw [Nat.testBit_eq_decide_div_mod_eq, Nat.sub_self, Nat.testBit_zero]
      simp
    · rw [decide_eq_false (by omega : ¬ 31 = i), Bool.and_false]
      have h3 : a / 2 ^ 31 % 2 < 2 ^ (i - 31) := Nat.lt_of_lt_of_le (Nat.mod_lt _ (by decide)) (show 2 ^ 1 ≤ 2 ^ (i - 31) from Nat.pow_le_pow_right (by decide) (by omega))
      rw [Nat.testBit_lt_two_pow h3]
theorem and31 (a : Nat) (h : a < 9223372036854775808) : bits .and .i64 (a : Int) 2147483648 = ((a / 2 ^ 31 % 2 * 2 ^ 31 : Nat) : Int) := by
  show IntKind.i64.wrap ((BitVec.ofInt 64 (a : Int) &&& BitVec.ofInt 64 ((2147483648 : Nat) : Int)).toNat : Int) = _
  rw [BitVec.toNat_and, ofInt_u64 a (by omega), ofInt_u64 2147483648 (by omega), show (2147483648 : Nat) = 2 ^ 31 by decide, and_pow31]
  refine wrap_small _ ?_
  omega
theorem or31 (n : Nat) (h : n < 2147483648) : bits .or .i64 (n : Int) 2147483648 = ((n + 2147483648 : Nat) : Int) := by
  show IntKind.i64.wrap ((BitVec.ofInt 64 (n : Int) ||| BitVec.ofInt 64 ((2147483648 : Nat) : Int)).toNat : Int) = _
  have e := Nat.two_pow_add_eq_or_of_lt (i := 31) (b := n) (by omega) 1
  rw [Nat.mul_one] at e
  rw [BitVec.toNat_or, ofInt_u64 n (by omega), ofInt_u64 2147483648 (by omega), Nat.or_comm, show (2147483648 : Nat) = 2 ^ 31 by decide, ← e, Nat.add_comm]
  refine wrap_small _ ?_
  omega
theorem parts_f (a : Int) (h1 : -9223372036854775808 ≤ a) (h2 : a ≤ 9223372036854775807) : blocks_Parts.f a = some ((prt a).1, (prt a).2.1, (prt a).2.2) := by
  unfold blocks_Parts.f
  by_cases hn : a < 0
  · rw [if_pos hn, show prt a = (0, false, 1) by unfold prt; rw [if_neg (by omega), if_neg (by omega)]]
  · obtain ⟨n, rfl⟩ := Int.eq_ofNat_of_zero_le (show 0 ≤ a by omega)
    rw [if_neg hn, andNot31 n (by omega), and31 n (by omega)]
    by_cases c1 : 1 ≤ n ∧ n ≤ 1048576
    · rw [if_neg (by omega), if_neg (by omega), show prt (n : Int) = ((n : Int), true, 0) by unfold prt; rw [if_pos (by omega)]]
      have e1 : 2 ^ 32 * (n / 2 ^ 32) + n % 2 ^ 31 = n := by omega
      have e2 : n / 2 ^ 31 % 2 * 2 ^ 31 = 0 := by omega
      rw [e1, e2]; rfl
    · by_cases c2 : 2147483649 ≤ n ∧ n ≤ 2148532224
      · rw [if_neg (by omega), if_neg (by omega), show prt (n : Int) = ((n : Int) - 2147483648, false, 0) by unfold prt; rw [if_neg (by omega), if_pos (by omega)]]
        have e1 : ((2 ^ 32 * (n / 2 ^ 32) + n % 2 ^ 31 : Nat) : Int) = (n : Int) - 2147483648 := by omega
        have e2 : n / 2 ^ 31 % 2 * 2 ^ 31 = 2147483648 := by omega
        rw [e1, e2]; rfl
      · rw [show prt (n : Int) = (0, false, 1) by unfold prt; rw [if_neg (by omega), if_neg (by omega)]]
        by_cases c3 : ((2 ^ 32 * (n / 2 ^ 32) + n % 2 ^ 31 : Nat) : Int) < 1
        · rw [if_pos c3]
        · rw [if_neg c3, if_pos (by omega)]
theorem rparts_f (a : Int) (h1 : -9223372036854775808 ≤ a) (h2 : a ≤ 9223372036854775807) : portmanteauref18_Parts.f a = some ((prt a).1, (prt a).2.1, (prt a).2.2) := by
  unfold portmanteauref18_Parts.f
  by_cases hn : a ≥ 2147483648
  · rw [if_pos hn, show wrap64 (a - 2147483648) = a - 2147483648 by unfold wrap64; omega]
    by_cases c2 : 2147483649 ≤ a ∧ a ≤ 2148532224
    · rw [if_neg (by omega), if_neg (by omega), show prt a = (a - 2147483648, false, 0) by unfold prt; rw [if_neg (by omega), if_pos c2]]
    · rw [show prt a = (0, false, 1) by unfold prt; rw [if_neg (by omega), if_neg c2]]
      by_cases c3 : a - 2147483648 < 1
      · rw [if_pos c3]
      · rw [if_neg c3, if_pos (by omega)]
  · rw [if_neg hn]
    by_cases c1 : 1 ≤ a ∧ a ≤ 1048576
    · rw [if_neg (by omega), if_neg (by omega), show prt a = (a, true, 0) by unfold prt; rw [if_pos c1]]
    · rw [show prt a = (0, false, 1) by unfold prt; rw [if_neg c1, if_neg (by omega)]]
      by_cases c3 : a < 1
      · rw [if_pos c3]
      · rw [if_neg c3, if_pos (by omega)]
theorem word_j (n : Int) (p b : Bool) : blocks_Word.j0 1 n p b = if b = true then some (0, 1) else if p = true then some (n, 0) else some (Go.bits .or .i64 n 2147483648, 0) := rfl
theorem word_f (n : Int) (p : Bool) : blocks_Word.f 1 n p = some ((wrd n p).1, (wrd n p).2) := by
  unfold blocks_Word.f wrd
  rw [word_j, word_j]
  by_cases c1 : n < 1
  · rw [if_pos c1, if_pos (Or.inl c1), if_pos rfl]
  · rw [if_neg c1]
    by_cases c2 : n > 1048576
    · rw [decide_eq_true c2, if_pos (Or.inr c2), if_pos rfl]
    · rw [decide_eq_false c2, if_neg (by omega : ¬ (n < 1 ∨ 1048576 < n))]
      obtain ⟨m, rfl⟩ := Int.eq_ofNat_of_zero_le (show 0 ≤ n by omega)
      cases p with
      | true => rfl
      | false =>
        rw [or31 m (by omega)]
        rfl
theorem prt_wrd (n : Int) (p : Bool) (h : 1 ≤ n) (h2 : n ≤ 1048576) : prt (wrd n p).1 = (n, p, 0) := by
  unfold wrd
  rw [if_neg (by omega : ¬ (n < 1 ∨ 1048576 < n))]
  cases p with
  | true =>
    show prt n = _
    unfold prt
    rw [if_pos ⟨h, h2⟩]
  | false =>
    show prt (n + 2147483648) = _
    unfold prt
    rw [if_neg (by omega), if_pos (by omega), show n + 2147483648 - 2147483648 = n by omega]
theorem parts_any (a : Int) (h1 : -9223372036854775808 ≤ a) (h2 : a ≤ 9223372036854775807) (w : World) : Calls Try.prog 15 #[.int .i64 a] w fun e w' => e = .returned (.tuple #[.int .i64 (prt a).1, .bool (prt a).2.1, .int .i64 (prt a).2.2]) ∧ Below w.heap.size w w' :=
  (blocks_Parts.calls a _ _ _ w (parts_f a h1 h2)).mono fun e w' ⟨he, ⟨nd, h⟩⟩ => ⟨he, by rw [h]; exact pw_below_drewN (Below.refl _ _) _⟩
theorem rparts_any (a : Int) (h1 : -9223372036854775808 ≤ a) (h2 : a ≤ 9223372036854775807) (w : World) : Calls Try.prog 16 #[.int .i64 a] w fun e w' => e = .returned (.tuple #[.int .i64 (prt a).1, .bool (prt a).2.1, .int .i64 (prt a).2.2]) ∧ Below w.heap.size w w' :=
  (portmanteauref18_Parts.calls a _ _ _ w (rparts_f a h1 h2)).mono fun e w' ⟨he, ⟨nd, h⟩⟩ => ⟨he, by rw [h]; exact pw_below_drewN (Below.refl _ _) _⟩
theorem word_any (n : Int) (p : Bool) (w : World) : Calls Try.prog 18 #[.int .i64 n, .bool p] w fun e w' => e = .returned (.tuple #[.int .i64 (wrd n p).1, .int .i64 (wrd n p).2]) ∧ Below w.heap.size w w' :=
  (blocks_Word.calls 1 n p _ _ w (word_f n p)).mono fun e w' ⟨he, ⟨nd, h⟩⟩ => ⟨he, by rw [h]; exact pw_below_drewN (Below.refl _ _) _⟩
end Go.Proofs.Ytpdggoapjbjmhaa.Bk
