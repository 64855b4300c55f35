/- Boot records: plain: which are right, their bytes, what bytes tell. -/
import Derived.Test.YtgplpcjlemjabaaBg
set_option linter.unusedVariables false
set_option linter.unusedSimpArgs false
namespace Go.Proofs.Ytgplpcjlemjabaa.Bo
open Go.RowKit Go.Proofs.Ytgplpcjlemjabaa.Fd Go.Proofs.Ytgplpcjlemjabaa.Bg Go.Proofs.YtgplpcjlemjabaaW.PrintWords Go.Proofs.YtgplpcjlemjabaaW.PrintLast Go.Proofs.YtgplpcjlemjabaaW.PrintMore
structure Rec where
  seq : Int
  slot : Int
  len : Int
  sum : Int
def zero : Rec := ⟨0, 0, 0, 0⟩
def right (r : Rec) : Prop := r.seq ≤ 4611686018427387904 ∧ (r.slot = 0 ∨ r.slot = 1) ∧ 1 ≤ r.len ∧ r.len ≤ 8388608
instance (r : Rec) : Decidable (right r) := by unfold right; infer_instance
/-- Numbers without a sign are none below zero. -/
structure Wf (r : Rec) : Prop where
  s0 : 0 ≤ r.seq
  m0 : 0 ≤ r.sum
  m1 : r.sum < 18446744073709551616
def bodyB (r : Rec) : List Int := [80, 77, 66, 49] ++ le r.seq.toNat 8 ++ le r.slot.toNat 4 ++ le r.len.toNat 4 ++ le r.sum.toNat 8
/-- A right record's bytes. -/
def bytesB (r : Rec) : List Int := bodyB r ++ le (Sum.crc 0 (bodyB r)) 4
theorem bodyB_len (r : Rec) : (bodyB r).length = 28 := by simp [bodyB, le_length]
theorem bytesB_len (r : Rec) : (bytesB r).length = 32 := by rw [bytesB, List.length_append, bodyB_len, le_length]
theorem magic_isB : ∀ x ∈ ([80, 77, 66, 49] : List Int), 0 ≤ x ∧ x < 256 := by decide
theorem bodyB_isB (r : Rec) : ∀ x ∈ bodyB r, 0 ≤ x ∧ x < 256 := isB_app (isB_app (isB_app (isB_app magic_isB (le_isB _ _)) (le_isB _ _)) (le_isB _ _)) (le_isB _ _)
theorem bytesB_isB (r : Rec) : ∀ x ∈ bytesB r, 0 ≤ x ∧ x < 256 := isB_app (bodyB_isB r) (le_isB _ _)
/-- The record that bytes tell; the document's. -/
def recD (l : List Int) : Rec := ⟨rdN l 4 8, rdN l 12 4, rdN l 16 4, rdN l 20 8⟩
def recT (l : List Int) : Rec := ⟨rdN l 4 8, l.getD 12 0, rdN l 16 4, rdN l 20 8⟩
def isR (l : List Int) : Prop := 32 ≤ l.length ∧ right (recD l) ∧ bytesB (recD l) = l.take 32
instance (l : List Int) : Decidable (isR l) := by unfold isR; infer_instance
def dec (l : List Int) : Rec × Int := if isR l then (recD l, 0) else (zero, 6)
theorem p64 {n : Int} (h0 : 0 ≤ n) (h : n < 18446744073709551616) : n.toNat < 2 ^ (8 * 8) := by
  have : n.toNat < 18446744073709551616 := by omega
  exact this
theorem p32 {n : Int} (h0 : 0 ≤ n) (h : n ≤ 8388608) : n.toNat < 2 ^ (8 * 4) := by
  have : n.toNat ≤ 8388608 := by omega
  exact Nat.lt_of_le_of_lt this (by decide)
theorem parts (r : Rec) (more : List Int) : bytesB r ++ more = [80, 77, 66, 49] ++ le r.seq.toNat 8 ++ le r.slot.toNat 4 ++ le r.len.toNat 4 ++ le r.sum.toNat 8 ++ (le (Sum.crc 0 (bodyB r)) 4 ++ more) := by
  rw [bytesB, List.append_assoc]; rfl
theorem slot_bds {r : Rec} (hr : right r) : 0 ≤ r.slot ∧ r.slot ≤ 8388608 := by
  obtain ⟨-, h, -⟩ := hr
  rcases h with h | h <;> omega
theorem told_nums (r : Rec) (hr : right r) (hw : Wf r) (more : List Int) : rdN (bytesB r ++ more) 4 8 = r.seq.toNat ∧ rdN (bytesB r ++ more) 12 4 = r.slot.toNat ∧ rdN (bytesB r ++ more) 16 4 = r.len.toNat ∧ rdN (bytesB r ++ more) 20 8 = r.sum.toNat := by
  have hs := slot_bds hr
  obtain ⟨a1, a2, a3, a4⟩ := hr
  rw [parts]
  obtain ⟨R, hR⟩ : ∃ R, R = le (Sum.crc 0 (bodyB r)) 4 ++ more := ⟨_, rfl⟩
  rw [← hR]
  refine ⟨rd_mid [80, 77, 66, 49] (le r.slot.toNat 4 ++ le r.len.toNat 4 ++ le r.sum.toNat 8 ++ R) _ 8 4 rfl (p64 hw.s0 (by omega)) _ ?_, rd_mid ([80, 77, 66, 49] ++ le r.seq.toNat 8) (le r.len.toNat 4 ++ le r.sum.toNat 8 ++ R) _ 4 12 (by simp [le_length]) (p32 hs.1 hs.2) _ ?_, rd_mid ([80, 77, 66, 49] ++ le r.seq.toNat 8 ++ le r.slot.toNat 4) (le r.sum.toNat 8 ++ R) _ 4 16 (by simp [le_length]) (p32 (by omega) a4) _ ?_, rd_mid ([80, 77, 66, 49] ++ le r.seq.toNat 8 ++ le r.slot.toNat 4 ++ le r.len.toNat 4) R _ 8 20 (by simp [le_length]) (p64 hw.m0 hw.m1) _ ?_⟩
  all_goals (try simp only [List.append_assoc])
theorem told (r : Rec) (hr : right r) (hw : Wf r) (more : List Int) : recD (bytesB r ++ more) = r := by
  obtain ⟨h1, h2, h3, h4⟩ := told_nums r hr hw more
  have hs := slot_bds hr
  obtain ⟨a1, a2, a3, a4⟩ := hr
  have := hw.s0
  have := hw.m0
  unfold recD
  rw [h1, h2, h3, h4, Int.toNat_of_nonneg hw.s0, Int.toNat_of_nonneg hs.1, Int.toNat_of_nonneg (by omega), Int.toNat_of_nonneg hw.m0]
theorem slot_first (r : Rec) (hr : right r) (more : List Int) : (bytesB r ++ more).getD 12 0 = r.slot := by
  rw [parts, List.append_assoc, List.append_assoc, List.append_assoc, List.getD_eq_getElem?_getD, List.getElem?_append_right (by simp [le_length])]
  rw [show 12 - (([80, 77, 66, 49] : List Int) ++ le r.seq.toNat 8).length = 0 by simp [le_length]]
  rcases hr.2.1 with h | h <;> rw [h] <;> rfl
theorem toldT (r : Rec) (hr : right r) (hw : Wf r) (more : List Int) : recT (bytesB r ++ more) = r := by
  have h := told r hr hw more
  have h2 := slot_first r hr more
  have h3 : recT (bytesB r ++ more) = ⟨(recD (bytesB r ++ more)).seq, (bytesB r ++ more).getD 12 0, (recD (bytesB r ++ more)).len, (recD (bytesB r ++ more)).sum⟩ := rfl
  rw [h3, h, h2]
theorem wf_nums {l : List Int} (hl : ∀ x ∈ l, 0 ≤ x ∧ x < 256) (h32 : 32 ≤ l.length) : rdN l 20 8 < 18446744073709551616 ∧ rdN l 4 8 < 18446744073709551616 := ⟨rdN_lt hl 20 8 (by omega), rdN_lt hl 4 8 (by omega)⟩
theorem recD_wf {l : List Int} (hl : ∀ x ∈ l, 0 ≤ x ∧ x < 256) (h32 : 32 ≤ l.length) : Wf (recD l) := by
  obtain ⟨h1, h2⟩ := wf_nums hl h32
  refine ⟨?_, ?_, ?_⟩
  · show (0 : Int) ≤ (rdN l 4 8 : Int); omega
  · show (0 : Int) ≤ (rdN l 20 8 : Int); omega
  · show (rdN l 20 8 : Int) < 18446744073709551616; omega
theorem recT_wf {l : List Int} (hl : ∀ x ∈ l, 0 ≤ x ∧ x < 256) (h32 : 32 ≤ l.length) : Wf (recT l) := ⟨(recD_wf hl h32).s0, (recD_wf hl h32).m0, (recD_wf hl h32).m1⟩
theorem split32 (l : List Int) (x : List Int) (h : x = l.take 32) : l = x ++ l.drop 32 := by rw [h, List.take_append_drop]
theorem isT {l : List Int} (hl : ∀ x ∈ l, 0 ≤ x ∧ x < 256) (h32 : 32 ≤ l.length) : (right (recT l) ∧ bytesB (recT l) = l.take 32) ↔ isR l := by
  constructor
  · rintro ⟨h1, h2⟩
    have e := split32 l _ h2
    have h3 := told (recT l) h1 (recT_wf hl h32) (l.drop 32)
    rw [← e] at h3
    exact ⟨h32, by rw [h3]; exact h1, by rw [h3]; exact h2⟩
  · rintro ⟨-, h1, h2⟩
    have e := split32 l _ h2
    have h3 := toldT (recD l) h1 (recD_wf hl h32) (l.drop 32)
    rw [← e] at h3
    exact ⟨by rw [h3]; exact h1, by rw [h3]; exact h2⟩
theorem isT_same {l : List Int} (hl : ∀ x ∈ l, 0 ≤ x ∧ x < 256) (h : isR l) : recT l = recD l := by
  obtain ⟨h32, h1, h2⟩ := h
  have e := split32 l _ h2
  have h3 := toldT (recD l) h1 (recD_wf hl h32) (l.drop 32)
  rw [← e] at h3
  exact h3
theorem dec_back (r : Rec) (hr : right r) (hw : Wf r) (more : List Int) : dec (bytesB r ++ more) = (r, 0) := by
  have h := told r hr hw more
  unfold dec
  rw [if_pos, h]
  refine ⟨by rw [List.length_append, bytesB_len]; omega, by rw [h]; exact hr, ?_⟩
  rw [h, List.take_left' (bytesB_len r)]
theorem bytesB_own (r : Rec) : Sum.crc 0 ((bytesB r).take 28) = rdN (bytesB r) 28 4 := by
  have h2 := rd_mid (bodyB r) [] (Sum.crc 0 (bodyB r)) 4 28 (bodyB_len r) (by have := crc_lt (bodyB r); omega) (bytesB r) (by rw [List.append_nil]; rfl)
  rw [h2, bytesB, List.take_left' (bodyB_len r)]
/-- What is no record's bytes by its sum. -/
theorem dec_no {l : List Int} (h32 : l.length = 32) (h : Sum.crc 0 (l.take 28) ≠ rdN l 28 4) : dec l = (zero, 6) := by
  unfold dec
  rw [if_neg]
  rintro ⟨-, -, h2⟩
  rw [List.take_of_length_le (by omega)] at h2
  have := bytesB_own (recD l)
  rw [h2] at this
  exact h this
end Go.Proofs.Ytgplpcjlemjabaa.Bo
