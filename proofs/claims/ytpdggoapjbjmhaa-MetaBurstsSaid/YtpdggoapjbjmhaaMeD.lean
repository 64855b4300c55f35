/- Streams in chunks: bits of stored bytes are turned in place. -/
import Derived.Test.YtpdggoapjbjmhaaMeC
import Derived.Test.YtpdggoapjbjmhaaZB
set_option linter.unusedVariables false
set_option linter.unusedSimpArgs false
namespace Go.Proofs.Ytpdggoapjbjmhaa.Me
open Go.RowKit Go.Proofs.Ytpdggoapjbjmhaa.Fd Go.Proofs.Ytpdggoapjbjmhaa.Bg Go.Proofs.Ytpdggoapjbjmhaa.Lz Go.Proofs.Ytpdggoapjbjmhaa.Ma Go.Proofs.Ytpdggoapjbjmhaa.Bk Go.Proofs.YtpdggoapjbjmhaaW.PrintWords Go.Proofs.YtpdggoapjbjmhaaW.PrintLast Go.Proofs.YtpdggoapjbjmhaaW.PrintMore
/-- The stored bytes with some bits of a burst turned. -/
structure Hel2 (wr : World) (base : Nat) (v : Value) (pr D po : List Int) (p b k : Nat) (w : World) : Prop where
  mk :: (out : ∃ ds : List Int, Row.OwnB wr base v (pr ++ ds ++ po) ∧ ds.length = D.length ∧ (∀ x ∈ ds, 0 ≤ x ∧ x < 256) ∧ Crc.num (D.map Int.toNat) ^^^ Crc.num (ds.map Int.toNat) = 2 ^ p * (b % 2 ^ k) ∧ Below w.heap.size w wr)
theorem same2 {wr w : World} {base : Nat} {v : Value} {pr D po : List Int} {p b k : Nat} (h : Hel2 wr base v pr D po p b k w) (hb : b / 2 ^ k % 2 = 0) : Hel2 wr base v pr D po p b (k + 1) w := by
  obtain ⟨ds, h1, h2, h3, h4, h5⟩ := h
  exact ⟨⟨ds, h1, h2, h3, by rw [h4, Burst.low_same b k hb], h5⟩⟩
theorem turned2 {wr w : World} {base g n c : Nat} {pr D po : List Int} {p b k q r : Nat} (h : Hel2 wr base (.slice (some ⟨g, 0, none⟩) n c) pr D po p b k w) (hg : w.heap.size ≤ g) (hb : b / 2 ^ k % 2 = 1) (hq : q < D.length) (hr : r < 8) (hqr : 8 * q + r = p + k) :
    ∃ z : Nat, z < 256 ∧ wr.cell? ⟨g, pr.length + q, none⟩ = some (.int .u8 z) ∧ wr.frozen? ⟨g, pr.length + q, none⟩ = false ∧ Hel2 ((wr.drew).setCell ⟨g, pr.length + q, none⟩ (.int .u8 ((z ^^^ 2 ^ r : Nat) : Int))) base (.slice (some ⟨g, 0, none⟩) n c) pr D po p b (k + 1) w := by
  obtain ⟨ds, h1, h2, h3, h4, h5⟩ := h
  have hn := (Row.OwnB.reads h1).1
  have h1d : Row.OwnB wr.drew base (.slice (some ⟨g, 0, none⟩) n c) (pr ++ ds ++ po) := Row.OwnB.below h1 (below_drew (Below.refl _ _))
  have hq2 : q < ds.length := by omega
  have hln : pr.length + q < n := by rw [hn, List.length_append, List.length_append]; omega
  have hz := h3 ds[q] (List.getElem_mem _)
  have hzz : (pr ++ ds ++ po).getD (pr.length + q) 0 = ds[q] := by
    rw [List.getD_eq_getElem?_getD, List.append_assoc, List.getElem?_append_right (by omega), show pr.length + q - pr.length = q by omega, List.getElem?_append_left hq2, List.getElem?_eq_getElem hq2]
    rfl
  have hr2 : 2 ^ r < 256 := by
    have : 2 ^ r < 2 ^ 8 := Nat.pow_lt_pow_right (by omega) hr
    omega
  have hx : ds[q].toNat ^^^ 2 ^ r < 256 := Nat.xor_lt_two_pow (n := 8) (by omega) hr2
  have hc := Kd.R_celln (0 : Int) h1 ((pr.length + q : Nat) : Int) (by omega) (by omega)
  have hput := Kd.R_putn h1d ((pr.length + q : Nat) : Int) (((ds[q].toNat ^^^ 2 ^ r : Nat) : Int))
  rw [Int.toNat_natCast] at hc hput
  have hset : (pr ++ ds ++ po).set (pr.length + q) (((ds[q].toNat ^^^ 2 ^ r : Nat) : Int)) = pr ++ ds.set q (((ds[q].toNat ^^^ 2 ^ r : Nat) : Int)) ++ po := by
    rw [List.append_assoc, List.set_append_right _ _ (by omega), show pr.length + q - pr.length = q by omega, List.set_append_left _ _ hq2, List.append_assoc]
  rw [hset] at hput
  have hcell : rdOf 0 (pr ++ ds ++ po) ((pr.length + q : Nat) : Int) = ((ds[q].toNat : Nat) : Int) := by
    unfold rdOf
    rw [Int.toNat_natCast, hzz]; omega
  refine ⟨ds[q].toNat, by omega, ?_, hc.2, ⟨⟨ds.set q (((ds[q].toNat ^^^ 2 ^ r : Nat) : Int)), hput, by simp [h2], ?_, ?_, (below_drew h5).setCell hg _⟩⟩⟩
  · rw [hc.1, hcell]
  · intro x hx'
    rcases List.mem_or_eq_of_mem_set hx' with hx' | rfl
    · exact h3 x hx'
    · exact ⟨by omega, by omega⟩
  · have ht := Burst.turned (D.map Int.toNat) (ds.map Int.toNat) p b k q r (nat_of h3) (by simp; omega) hr hqr hb h4
    have he : (ds.map Int.toNat).getD q 0 = ds[q].toNat := by
      rw [List.getD_eq_getElem?_getD, List.getElem?_map, List.getElem?_eq_getElem (by omega)]; rfl
    rw [he] at ht
    rw [List.map_set, Int.toNat_natCast]
    exact ht
/-- Turned bytes have another sum. -/
theorem sum_no {D ds : List Int} {p b : Nat} (hD : isB D) (hd : ∀ x ∈ ds, 0 ≤ x ∧ x < 256) (hl : ds.length = D.length) (hp : p < 8 * D.length) (hb0 : b ≠ 0) (hb : b < 4294967296) (h : Crc.num (D.map Int.toNat) ^^^ Crc.num (ds.map Int.toNat) = 2 ^ p * (b % 2 ^ 32)) : Sum.crc 0 ds ≠ Sum.crc 0 D := by
  have h2 := Burst.sums (4294967295 - 0) (D.map Int.toNat) (ds.map Int.toNat) p b (nat_of hD) (nat_of hd) (by simp [hl]) (by rw [List.length_map]; omega) hb0 hb h
  intro he
  unfold Sum.crc at he
  exact h2 (by have h3 := Crc.run_lt (4294967295 - 0) (D.map Int.toNat) (by omega) (nat_of hD); have h4 := Crc.run_lt (4294967295 - 0) (ds.map Int.toNat) (by omega) (nat_of hd); omega)
end Go.Proofs.Ytpdggoapjbjmhaa.Me
