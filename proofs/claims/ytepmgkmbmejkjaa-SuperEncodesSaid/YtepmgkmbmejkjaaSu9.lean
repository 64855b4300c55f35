/- An image's head: its bytes, and what stands behind, tell it again: plain. -/
import Derived.Test.YtepmgkmbmejkjaaSu8
set_option linter.unusedVariables false
set_option linter.unusedSimpArgs false
namespace Go.Proofs.Ytepmgkmbmejkjaa.Su
open Go.RowKit Go.Proofs.Ytepmgkmbmejkjaa.Fd Go.Proofs.YtepmgkmbmejkjaaW.PrintWords Go.Proofs.YtepmgkmbmejkjaaW.PrintLast Go.Proofs.YtepmgkmbmejkjaaW.PrintMore
theorem rd_mid (pre post : List Int) (n k p : Nat) (hp : pre.length = p) (hn : n < 2 ^ (8 * k)) (l : List Int) (hl : l = pre ++ le n k ++ post) : rdN l p k = n := by
  unfold rdN
  rw [hl, List.append_assoc, ← hp, List.drop_left, List.take_left' (le_length n k), val_le n k hn]
theorem spansB_split (s : Sup) : ∀ (m k : Nat), k < m → ∃ t, spansB s m = spansB s k ++ le (s.a k).toNat 4 ++ le (s.z k).toNat 4 ++ t
  | 0, k, h => by omega
  | m + 1, k, h => by
    by_cases he : k = m
    · subst he
      exact ⟨[], by rw [spansB, List.append_nil]⟩
    · obtain ⟨t, ht⟩ := spansB_split s m k (by omega)
      exact ⟨t ++ le (s.a m).toNat 4 ++ le (s.z m).toNat 4, by rw [spansB, ht]; simp only [List.append_assoc]⟩
theorem lt4 {x : Int} (h0 : 0 ≤ x) (h : x ≤ 16777216) : x.toNat < 2 ^ (8 * 4) := by
  have : x.toNat ≤ 16777216 := by omega
  exact Nat.lt_of_le_of_lt this (by decide)
theorem rd_a (s : Sup) (hr : right s) (more : List Int) (k : Nat) (hk : k < 6) : rdN (bytesB s ++ more) (16 + 8 * k) 4 = (s.a k).toNat ∧ rdN (bytesB s ++ more) (20 + 8 * k) 4 = (s.z k).toNat := by
  obtain ⟨b1, b2, b3, b4⟩ := span_bds hr hk
  obtain ⟨t, ht⟩ := spansB_split s 6 k hk
  refine ⟨rd_mid (headB s ++ spansB s k) (le (s.z k).toNat 4 ++ t ++ le (Sum.crc 0 (bodyB s)) 4 ++ more) _ 4 _ (by rw [List.length_append, headB_len, spansB_len]) (lt4 b1 (by omega)) _ ?_, rd_mid (headB s ++ spansB s k ++ le (s.a k).toNat 4) (t ++ le (Sum.crc 0 (bodyB s)) 4 ++ more) _ 4 _ (by rw [List.length_append, List.length_append, headB_len, spansB_len, le_length]; omega) (lt4 b3 b4) _ ?_⟩
  · rw [bytesB, show bodyB s = headB s ++ spansB s 6 from rfl, ht]
    simp only [List.append_assoc]
  · rw [bytesB, show bodyB s = headB s ++ spansB s 6 from rfl, ht]
    simp only [List.append_assoc]
theorem rd_head (s : Sup) (hr : right s) (more : List Int) : (bytesB s ++ more).take 4 = [80, 77, 83, 49] ∧ rdN (bytesB s ++ more) 4 2 = 1 ∧ rdN (bytesB s ++ more) 6 2 = s.log.toNat ∧ rdN (bytesB s ++ more) 8 4 = s.ino.toNat ∧ rdN (bytesB s ++ more) 12 4 = s.len.toNat := by
  obtain ⟨⟨a1, a2⟩, ⟨a3, a4⟩, ⟨a5, a6⟩⟩ := hr.1
  have e : bytesB s ++ more = [80, 77, 83, 49] ++ le 1 2 ++ le s.log.toNat 2 ++ le s.ino.toNat 4 ++ le s.len.toNat 4 ++ (spansB s 6 ++ le (Sum.crc 0 (bodyB s)) 4 ++ more) := by
    rw [bytesB, show bodyB s = headB s ++ spansB s 6 from rfl, headB]
    simp only [List.append_assoc]
  obtain ⟨R, hR⟩ : ∃ R, R = spansB s 6 ++ le (Sum.crc 0 (bodyB s)) 4 ++ more := ⟨_, rfl⟩
  rw [← hR] at e
  have hlog : s.log.toNat < 2 ^ (8 * 2) := Nat.lt_of_le_of_lt (by omega : s.log.toNat ≤ 20) (by decide)
  refine ⟨?_, rd_mid [80, 77, 83, 49] (le s.log.toNat 2 ++ le s.ino.toNat 4 ++ le s.len.toNat 4 ++ R) 1 2 4 rfl (by decide) _ ?_, rd_mid ([80, 77, 83, 49] ++ le 1 2) (le s.ino.toNat 4 ++ le s.len.toNat 4 ++ R) _ 2 6 rfl hlog _ ?_, rd_mid ([80, 77, 83, 49] ++ le 1 2 ++ le s.log.toNat 2) (le s.len.toNat 4 ++ R) _ 4 8 (by simp [le_length]) (lt4 (by omega) (by omega)) _ ?_, rd_mid ([80, 77, 83, 49] ++ le 1 2 ++ le s.log.toNat 2 ++ le s.ino.toNat 4) R _ 4 12 (by simp [le_length]) (lt4 (by omega) (by omega)) _ ?_⟩
  · rw [e]
    simp only [List.append_assoc]
    rfl
  all_goals (rw [e]; try simp only [List.append_assoc])
theorem rd_crc (s : Sup) (more : List Int) : (bytesB s ++ more).take 64 = bodyB s ∧ rdN (bytesB s ++ more) 64 4 = Sum.crc 0 (bodyB s) := by
  refine ⟨?_, rd_mid (bodyB s) more _ 4 64 (bodyB_len s) (by have := crc_lt (bodyB s); omega) _ rfl⟩
  rw [bytesB, List.append_assoc, List.take_left' (bodyB_len s)]
theorem right_same {s t : Sup} (h : right s) (h1 : t.log = s.log) (h2 : t.ino = s.ino) (h3 : t.len = s.len) (ha : ∀ k, k < 6 → t.a k = s.a k) (hz : ∀ k, k < 6 → t.z k = s.z k) : right t := by
  refine ⟨?_, fun k hk => ?_⟩
  · have := h.1
    unfold headOk at this ⊢
    rw [h1, h2, h3]
    exact this
  · have := h.2 k hk
    unfold spanOk at this ⊢
    have hl : lastOf t k = lastOf s k := by
      cases k with
      | zero => rfl
      | succ k => exact ha k (by omega)
    rw [hl, ha k hk, hz k hk, h3]
    exact this
/-- The head that its own bytes tell. -/
theorem told_again (s : Sup) (hr : right s) (more : List Int) : (supD (bytesB s ++ more) 6).log = s.log ∧ (supD (bytesB s ++ more) 6).ino = s.ino ∧ (supD (bytesB s ++ more) 6).len = s.len ∧ (∀ k, k < 6 → (supD (bytesB s ++ more) 6).a k = s.a k) ∧ (∀ k, k < 6 → (supD (bytesB s ++ more) 6).z k = s.z k) := by
  obtain ⟨-, -, h1, h2, h3⟩ := rd_head s hr more
  obtain ⟨⟨a1, a2⟩, ⟨a3, a4⟩, ⟨a5, a6⟩⟩ := hr.1
  refine ⟨?_, ?_, ?_, fun k hk => ?_, fun k hk => ?_⟩
  · show ((rdN (bytesB s ++ more) 6 2 : Nat) : Int) = s.log
    rw [h1]; omega
  · show ((rdN (bytesB s ++ more) 8 4 : Nat) : Int) = s.ino
    rw [h2]; omega
  · show ((rdN (bytesB s ++ more) 12 4 : Nat) : Int) = s.len
    rw [h3]; omega
  · show (if k < 6 then ((rdN (bytesB s ++ more) (16 + 8 * k) 4 : Nat) : Int) else 0) = s.a k
    rw [if_pos hk, (rd_a s hr more k hk).1]
    have := (span_bds hr hk).1
    omega
  · show (if k < 6 then ((rdN (bytesB s ++ more) (20 + 8 * k) 4 : Nat) : Int) else 0) = s.z k
    rw [if_pos hk, (rd_a s hr more k hk).2]
    have := (span_bds hr hk).2.2.1
    omega
/-- A right head's bytes, with whatever behind, are told. -/
theorem decode_back (s : Sup) (hr : right s) (more : List Int) (w : World) (A : Option Addr) (n c : Nat) (hn : n = (bytesB s ++ more).length) (hC : Kd.C (Kd.int .u8) w A n (bytesB s ++ more)) (hm : ∀ x ∈ more, 0 ≤ x ∧ x < 256) (hl : n ≤ 1000000) (hc : n ≤ c) :
    Calls Try.prog 40 #[.slice A n c] w fun e w' => e = .returned (.tuple #[.agg #[.int .i64 s.log, .int .i64 s.ino, .int .i64 s.len, .int .i64 (s.a 0), .int .i64 (s.z 0), .int .i64 (s.a 1), .int .i64 (s.z 1), .int .i64 (s.a 2), .int .i64 (s.z 2), .int .i64 (s.a 3), .int .i64 (s.z 3), .int .i64 (s.a 4), .int .i64 (s.z 4), .int .i64 (s.a 5), .int .i64 (s.z 5)], .int .i64 0]) ∧ Below w.heap.size w w' := by
  subst hn
  refine (decode_long w (bytesB s ++ more) A c hC (isB_app (bytesB_isB s) hm) (by rw [List.length_append, bytesB_len]; omega) hl hc).mono ?_
  rintro e w' ⟨hB, ⟨-, h1⟩ | ⟨-, h1⟩ | ⟨rfl, h1⟩⟩
  · exfalso
    obtain ⟨g1, g2, g3, g4, g5⟩ := rd_head s hr more
    obtain ⟨q1, q2, q3, q4, q5⟩ := told_again s hr more
    obtain ⟨⟨a1, a2⟩, -, -⟩ := hr.1
    rcases h1 with (h1 | h1 | h1) | h1
    · exact h1 g1
    · exact h1 g2
    · rw [g3] at h1; omega
    · exact h1 (right_same hr q1 q2 q3 q4 q5)
  · exfalso
    obtain ⟨g1, g2⟩ := rd_crc s more
    rw [g1, g2] at h1
    exact h1 rfl
  · obtain ⟨q1, q2, q3, q4, q5⟩ := told_again s hr more
    rw [q1, q2, q3, q4 0 (by decide), q4 1 (by decide), q4 2 (by decide), q4 3 (by decide), q4 4 (by decide), q4 5 (by decide), q5 0 (by decide), q5 1 (by decide), q5 2 (by decide), q5 3 (by decide), q5 4 (by decide), q5 5 (by decide)]
    exact ⟨rfl, hB⟩
end Go.Proofs.Ytepmgkmbmejkjaa.Su
