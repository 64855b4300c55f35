/- An image's head: bytes with their own sum behind them leave one number; no bytes of what is no head. -/
import Derived.Test.YtepmgkmbmejkjaaSu6
import Derived.Test.YtepmgkmbmejkjaaSu5
import Derived.Test.YtepmgkmbmejkjaaBurst
set_option linter.unusedVariables false
set_option linter.unusedSimpArgs false
namespace Go.Proofs.Ytepmgkmbmejkjaa.Su
open Go.RowKit Go.Proofs.Ytepmgkmbmejkjaa.Fd Go.Proofs.YtepmgkmbmejkjaaW.PrintWords Go.Proofs.YtepmgkmbmejkjaaW.PrintLast Go.Proofs.YtepmgkmbmejkjaaW.PrintMore
theorem xor_not (r : Nat) (h : r < 4294967296) : r ^^^ (4294967295 - r) = 4294967295 := by
  apply Nat.eq_of_testBit_eq
  intro i
  rw [Nat.testBit_xor, show 4294967295 - r = 2 ^ 32 - (r + 1) by omega, Nat.testBit_two_pow_sub_succ (by omega), show (4294967295 : Nat) = 2 ^ 32 - (0 + 1) by omega, Nat.testBit_two_pow_sub_succ (by omega)]
  by_cases hi : i < 32
  · simp [hi]
  · have : r.testBit i = false := Nat.testBit_lt_two_pow ((by have h2 : 2 ^ 32 ≤ 2 ^ i := Nat.pow_le_pow_right (n := 2) (by decide) (by omega); omega))
    simp [hi, this]
theorem val_num : ∀ l : List Int, val l = Crc.num (l.map Int.toNat)
  | [] => rfl
  | x :: l => by rw [val, List.map_cons, Crc.num, val_num l]
theorem nat_of {l : List Int} (h : ∀ x ∈ l, 0 ≤ x ∧ x < 256) : ∀ x ∈ l.map Int.toNat, x < 256 := fun x hx => by
  obtain ⟨y, hy, rfl⟩ := List.mem_map.1 hx
  have := h y hy
  omega
/-- Bytes with their own sum behind them leave one number. -/
theorem resid (m t : List Int) (hm : ∀ x ∈ m, 0 ≤ x ∧ x < 256) (ht : ∀ x ∈ t, 0 ≤ x ∧ x < 256) (h4 : t.length = 4) (h : Sum.crc 0 m = val t) : Crc.run (4294967295 - 0) ((m ++ t).map Int.toNat) = Crc.iter 32 4294967295 := by
  rw [List.map_append, Crc.run_append, Crc.run_num _ _ (nat_of ht), List.length_map, h4, ← val_num, ← h]
  have hlt := Crc.run_lt (4294967295 - 0) (m.map Int.toNat) (by omega) (nat_of hm)
  unfold Sum.crc
  rw [xor_not _ hlt]
theorem resid_take {l : List Int} (hl : ∀ x ∈ l, 0 ≤ x ∧ x < 256) (h68 : l.length = 68) (h : Sum.crc 0 (l.take 64) = rdN l 64 4) : Crc.run (4294967295 - 0) (l.map Int.toNat) = Crc.iter 32 4294967295 := by
  have e : l.take 64 ++ (l.drop 64).take 4 = l := by
    rw [List.take_of_length_le (l := l.drop 64) (by rw [List.length_drop]; omega), List.take_append_drop]
  have h2 := resid (l.take 64) ((l.drop 64).take 4) (fun x hx => hl x (List.mem_of_mem_take hx)) (fun x hx => hl x (List.mem_of_mem_drop (List.mem_of_mem_take hx))) (by rw [List.length_take, List.length_drop]; omega) h
  rwa [e] at h2
theorem bytesB_resid (s : Sup) : Crc.run (4294967295 - 0) ((bytesB s).map Int.toNat) = Crc.iter 32 4294967295 :=
  resid (bodyB s) _ (bodyB_isB s) (le_isB _ _) (le_length _ _) (by rw [val_le _ _ (by have := crc_lt (bodyB s); omega)])
/-- Bits of a burst turned: the sum is another. -/
theorem burst_no (s : Sup) (zs : List Int) (p b : Nat) (hz : ∀ x ∈ zs, 0 ≤ x ∧ x < 256) (hlen : zs.length = 68) (hl : (bytesB s).length = 68) (hp : p < 544) (hb0 : b ≠ 0) (hb : b < 4294967296) (h : Crc.num ((bytesB s).map Int.toNat) ^^^ Crc.num (zs.map Int.toNat) = 2 ^ p * (b % 2 ^ 32)) : Sum.crc 0 (zs.take 64) ≠ rdN zs 64 4 := by
  intro he
  have h1 := resid_take hz hlen he
  have h2 := Burst.sums (4294967295 - 0) ((bytesB s).map Int.toNat) (zs.map Int.toNat) p b (nat_of (bytesB_isB s)) (nat_of hz) (by simp [hlen, hl]) (by simp [hl]; omega) hb0 hb h
  exact h2 (by rw [h1, bytesB_resid])
theorem encode_no (s : Sup) (hr : ¬ right s) (w : World) : Calls Try.prog 36 #[.agg #[.int .i64 s.log, .int .i64 s.ino, .int .i64 s.len, .int .i64 (s.a 0), .int .i64 (s.z 0), .int .i64 (s.a 1), .int .i64 (s.z 1), .int .i64 (s.a 2), .int .i64 (s.z 2), .int .i64 (s.a 3), .int .i64 (s.z 3), .int .i64 (s.a 4), .int .i64 (s.z 4), .int .i64 (s.a 5), .int .i64 (s.z 5)]] w fun e w' => e = .returned (.tuple #[.slice none 0 0, .int .i64 1]) ∧ Below w.heap.size w w' := by
  have hal : Below w.heap.size w (w.alloc (.cells #[.int .i64 s.log, .int .i64 s.ino, .int .i64 s.len, .int .i64 (s.a 0), .int .i64 (s.z 0), .int .i64 (s.a 1), .int .i64 (s.z 1), .int .i64 (s.a 2), .int .i64 (s.z 2), .int .i64 (s.a 3), .int .i64 (s.z 3), .int .i64 (s.a 4), .int .i64 (s.z 4), .int .i64 (s.a 5), .int .i64 (s.z 5)] 65)) := below_alloc (Below.refl _ _) _
  have KB0 : Aside0 (SB w s (w.alloc (.cells #[.int .i64 s.log, .int .i64 s.ino, .int .i64 s.len, .int .i64 (s.a 0), .int .i64 (s.z 0), .int .i64 (s.a 1), .int .i64 (s.z 1), .int .i64 (s.a 2), .int .i64 (s.z 2), .int .i64 (s.a 3), .int .i64 (s.z 3), .int .i64 (s.a 4), .int .i64 (s.z 4), .int .i64 (s.a 5), .int .i64 (s.z 5)] 65))) := ⟨heap_alloc_new _ _, hal⟩
  have KC := Aside0.mk (fun w1 => check_any s w1)
  unfold chk at KC
  rw [if_neg hr] at KC
  clear hal hr
  go_enter Try.func36, Try.ntmps36
  go_wp2_with (go_at_call 37; refine (KC.out _).mono ?_; rintro e w1 ⟨rfl, hb⟩; have KB1 : Aside0 (SB w s w1) := ⟨⟨blk_below KB0.out.1 hb, below_then KB0.out.2 KB0.out.2.size hb⟩⟩; clear hb)
  go_ret2
  exact ⟨rfl, KB1.out.2⟩
end Go.Proofs.Ytepmgkmbmejkjaa.Su
