/- Numbers in bytes: the document's Store; numbers of int kind: walks. -/
import Derived.Test.YtogplkochcalpaaFd2
set_option linter.unusedVariables false
set_option linter.unusedSimpArgs false
namespace Go.Proofs.Ytogplkochcalpaa.Fd
open Go.RowKit Go.Proofs.YtogplkochcalpaaW.PrintWords Go.Proofs.YtogplkochcalpaaW.PrintLast Go.Proofs.YtogplkochcalpaaW.PrintMore
theorem num_okI {w0 w : World} {base g : Nat} {most : Int} {v : Value} {xs : List Int} (h : FW w0 base g most w v xs) (n : Int) (k : Nat) (h0 : 0 ≤ n) (hk : wid k) (hn : n < 2 ^ (8 * k)) (hk2 : (k : Int) ≤ most - xs.length) (hm : most ≤ 100000000) : Calls Try.prog 41 #[.pointer (some ⟨g, 0, none⟩), .int .u64 n, .int .i64 k] w fun e w' => e = .returned (.tuple #[]) ∧ ∃ v', FW w0 base g most w' v' (xs ++ le n.toNat k) ∧ KeepBut w w' g v.ownBlock := by
  obtain ⟨m, rfl⟩ := Int.eq_ofNat_of_zero_le h0
  refine num_ok h m k hk ?_ hk2 hm
  have e : ((2 : Int) ^ (8 * k)) = ((2 ^ (8 * k) : Nat) : Int) := by push_cast; rfl
  rw [e] at hn
  exact Int.ofNat_lt.1 hn
theorem div_pow (n j : Nat) : n / 2 ^ (8 * j) / 256 = n / 2 ^ (8 * (j + 1)) := by
  rw [Nat.div_div_eq_div_mul, show 8 * (j + 1) = 8 * j + 8 by omega, Nat.pow_add]
set_option maxHeartbeats 1000000 in
/-- The document's bytes of a number. -/
theorem rstore_any (w : World) (n k : Nat) (hk : k ≤ 8) (hn : Aside0 (n < 18446744073709551616)) :
    Calls Try.prog 31 #[.int .u64 n, .int .i64 k] w fun e w' => ∃ v', e = .returned v' ∧ Row.OwnB w' w.heap.size v' (le n k) ∧ Below w.heap.size w w' := by
  have KG := Aside0.mk (Gr.refl (Row.OwnB.nil w w.heap.size) (Below.refl w.heap.size w))
  go_enter Try.func31, Try.ntmps31
  go_wp2
  go_loopw [0, 5, 6] (fun m u i wr => ∃ (j : Nat) (A : Option Addr) (c : Nat), j ≤ k ∧ i = .int .i64 j ∧ m = .int .u64 ((n / 2 ^ (8 * j) : Nat) : Int) ∧ u = .slice A j c ∧ w.heap.size ≤ wr.heap.size ∧ Aside0 (Gr w w w.heap.size (Value.slice none 0 0).ownBlock wr (.slice A j c) (le n j))) (fun _ _ i _ => k - (intOf i).toNat)
  case atStart => exact ⟨0, none, 0, by omega, rfl, by simp, rfl, Nat.le_refl _, KG⟩
  case round =>
    obtain ⟨j, A, c, hj, rfl, rfl, rfl, hbr, HG⟩ := hrel
    have hyl : Aside0 ((le n j).length = j) := ⟨le_length n j⟩
    obtain ⟨q, hq⟩ : ∃ q, q = n / 2 ^ (8 * j) := ⟨_, rfl⟩
    have Kq : Aside0 (le n (j + 1) = le n j ++ [((q % 256 : Nat) : Int)]) := ⟨by rw [le, ← hq]⟩
    have Kq3 : Aside0 (IntKind.u64.wrap ((q : Int) / 256) = ((q / 256 : Nat) : Int)) := ⟨by
      have h1 : q ≤ n := by rw [hq]; exact Nat.div_le_self _ _
      have h2 := hn.out
      rw [u64_small _ (by omega) (by omega)]
      rfl⟩
    have Kq2 : Aside0 (n / 2 ^ (8 * (j + 1)) = q / 256) := ⟨by rw [hq, div_pow]⟩
    rw [← hq]
    clear hq
    by_cases hlt : j < k
    · go_wp2_with ((with_reducible refine gate_builtin (b := .append) (xs := #[.tmp 12, .tmp 16]) rfl ?_); apply Aside0.out)
      refine ⟨?_⟩
      refine Kd.R_append (Kd.int .u8) (w0 := w) (W := wr) w.heap.size rfl (.tmp 12) (.tmp 16) 22 5 (.int .u8 0) 1 rfl Try.underlying22 Row.info8 rfl (by decide) (by decide) (.slice A j c) (le n j) ((q : Int) % 256) [.int .u8 ((q : Int) % 256)] (fun _ => True) (fun _ => False) rfl rfl rfl (fun _ h => h.elim) (fun _ _ => trivial) HG.out.own HG.out.below hbr (by rw [hyl.out]; omega) ?_
      intro v5 w5 h5 hb5 hg5 hat5
      have KG5 := Aside0.mk (HG.out.next h5 hb5 hg5 hat5)
      have hbr5 : w.heap.size ≤ w5.heap.size := Nat.le_trans hbr hg5.size
      obtain ⟨A5, c5, hv5⟩ := Kd.R_slice h5
      rw [List.length_append, List.length_singleton, hyl.out] at hv5
      subst hv5
      clear h5 hb5 hg5 hat5
      go_wp2
      refine ⟨⟨j + 1, A5, c5, by omega, by go_num, by rw [Kq2.out, Kq3.out], rfl, hbr5, ?_⟩, by simp [intOf]; omega⟩
      rw [Kq.out]
      exact KG5
    · obtain rfl : j = k := by omega
      go_wp2
      go_ret
      exact ⟨_, rfl, HG.out.own, HG.out.below⟩
theorem rstore_anyI (w : World) (n : Int) (k : Nat) (h0 : 0 ≤ n) (hk : k ≤ 8) (hn : Aside0 (n < 18446744073709551616)) :
    Calls Try.prog 31 #[.int .u64 n, .int .i64 k] w fun e w' => ∃ v', e = .returned v' ∧ Row.OwnB w' w.heap.size v' (le n.toNat k) ∧ Below w.heap.size w w' := by
  obtain ⟨m, rfl⟩ := Int.eq_ofNat_of_zero_le h0
  exact rstore_any w m k hk ⟨by have := hn.out; omega⟩
theorem le_isB (n : Nat) : ∀ k, ∀ x ∈ le n k, 0 ≤ x ∧ x < 256
  | 0, x, hx => by cases hx
  | k + 1, x, hx => by
    rw [le, List.mem_append, List.mem_singleton] at hx
    rcases hx with h | h
    · exact le_isB n k x h
    · have := Nat.mod_lt (n / 2 ^ (8 * k)) (by decide : 256 > 0); omega
/-- What is stored is loaded. -/
theorem val_le (n : Nat) : ∀ k, n < 2 ^ (8 * k) → val (le n k) = n
  | k, h => by
    have key : ∀ k, val (le n k) = n % 2 ^ (8 * k) := by
      intro k
      induction k with
      | zero => simp [le, val, Nat.mod_one]
      | succ k ih =>
        rw [le, val_snoc, ih, le_length, show 8 * (k + 1) = 8 * k + 8 by omega, Nat.pow_add]
        have e : (2 : Nat) ^ 8 = 256 := by decide
        rw [e, Int.toNat_natCast, Nat.mod_mul, Nat.mul_comm (n / 2 ^ (8 * k) % 256)]
    rw [key, Nat.mod_eq_of_lt h]
end Go.Proofs.Ytogplkochcalpaa.Fd
