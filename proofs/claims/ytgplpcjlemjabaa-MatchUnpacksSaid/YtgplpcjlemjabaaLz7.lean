/- Blocks are unpacked: the document's lengths; rows of sequences. -/
import Derived.Test.YtgplpcjlemjabaaLawLz1
set_option linter.unusedVariables false
set_option linter.unusedSimpArgs false
namespace Go.Proofs.Ytgplpcjlemjabaa.Lz
open Go.RowKit Go.Proofs.YtgplpcjlemjabaaW.PrintWords Go.Proofs.YtgplpcjlemjabaaW.PrintLast Go.Proofs.YtgplpcjlemjabaaW.PrintMore
set_option maxHeartbeats 1000000 in
set_option maxRecDepth 100000 in
theorem reflen_any {w : World} {A : Option Addr} {c : Nat} {at_ : Nat} {b : List Int} (hC : Kd.C (Kd.int .u8) w A b.length b) (hb : isB b) (hN : b.length ≤ 4000000) (ha : at_ ≤ b.length) (n : Int) (hn0 : 0 ≤ n) (hn1 : n ≤ 15) :
    Calls Try.prog 59 #[.slice A b.length c, .int .i64 n, .int .i64 at_] w fun e w' => w' = w ∧ ((lenH n (b.drop at_) = none ∧ e = .returned (.tuple #[.int .i64 (-1), .int .i64 b.length])) ∨
      (∃ (m : Int) (at2 : Nat), lenH n (b.drop at_) = some (m, b.drop at2) ∧ at_ ≤ at2 ∧ at2 ≤ b.length ∧ 0 ≤ m ∧ m ≤ 15 + 255 * b.length ∧ e = .returned (.tuple #[.int .i64 m, .int .i64 at2]))) := by
  by_cases hlt : n < 15
  · clear hC
    go_enter Try.func59, Try.ntmps59
    go_wp2
    go_ret2
    exact ⟨rfl, Or.inr ⟨n, at_, by simp [lenH, hlt], Nat.le_refl _, ha, hn0, by omega, rfl⟩⟩
  have hL : lenH n (b.drop at_) = lenL n (b.drop at_) := by simp [lenH, hlt]
  rw [hL]
  have KC := Aside0.mk hC
  have Kb := Aside0.mk hb
  clear hC hb hL
  go_enter Try.func59, Try.ntmps59
  go_wp2
  go_loopw [1, 2] (fun v i wr => ∃ (k : Nat) (m : Int), at_ ≤ k ∧ k ≤ b.length ∧ 0 ≤ m ∧ m ≤ 15 + 255 * (k : Int) ∧ v = .int .i64 m ∧ i = .int .i64 k ∧ wr = w ∧ Aside0 (lenL n (b.drop at_) = lenL m (b.drop k))) (fun _ i _ => b.length - (intOf i).toNat)
  case atStart => exact ⟨at_, n, Nat.le_refl _, ha, hn0, by omega, rfl, rfl, rfl, ⟨rfl⟩⟩
  case round =>
    obtain ⟨k, m, hk0, hk, hm0, hm1, rfl, rfl, rfl, HL⟩ := hrel
    by_cases hlt2 : k < b.length
    · obtain ⟨ad, e, hx⟩ := Kd.at_int KC.out (k : Int) (by omega) (by omega)
      subst e
      obtain ⟨x, hxx⟩ : ∃ x, x = b[k] := ⟨_, rfl⟩
      rw [rd_at hlt2, ← hxx, Int.toNat_natCast] at hx
      have hxb := Kb.out x (by rw [hxx]; exact List.getElem_mem hlt2)
      have hdr : b.drop k = x :: b.drop (k + 1) := by rw [hxx]; exact drop_cons hlt2
      have Kdr := Aside0.mk hdr
      clear hxx hdr
      by_cases h255 : x = 255
      · subst h255
        go_wp2
        refine ⟨⟨k + 1, m + 255, by omega, by omega, by omega, by omega, rfl, by go_num, trivial, ⟨?_⟩⟩, ?_⟩
        · rw [HL.out, Kdr.out]
          conv => lhs; unfold lenL
          rw [if_neg (by omega)]
        · simp [intOf]
          omega
      · have hne : (x == 255) = false := by simpa using h255
        go_wp2
        go_ret2
        refine ⟨rfl, Or.inr ⟨m + x, k + 1, ?_, by omega, by omega, by omega, by omega, rfl⟩⟩
        rw [HL.out, Kdr.out]
        unfold lenL
        rw [if_pos (by omega)]
    · obtain rfl : k = b.length := by omega
      go_wp2
      go_ret2
      refine ⟨rfl, Or.inl ⟨?_, rfl⟩⟩
      rw [HL.out, List.drop_length]
      rfl
/-- A row of sequences, cell by cell. -/
inductive SC (w0 : World) (base : Nat) : List Sq → List Value → Prop
  | nil : SC w0 base [] []
  | snoc {acc : List Sq} {cells : List Value} {lit : List Int} {off len : Int} {A : Option Addr} {c : Nat} (h : SC w0 base acc cells) (hC : ∀ w', Below base w0 w' → Kd.C (Kd.int .u8) w' A lit.length lit) (hc : lit.length ≤ c) : SC w0 base (acc ++ [(lit, off, len)]) (cells ++ [.slice A lit.length c, .int .i64 off, .int .i64 len])
/-- A row of sequences of the call's own. -/
def RowL (w0 : World) (base : Nat) (wr : World) (v : Value) (acc : List Sq) : Prop := ∃ cells, wr.ownsRow base 67 3 v acc.length cells ∧ SC w0 base acc cells
section
variable {w0 w wr w1 : World} {base sb : Nat} {u8 u9 : Value} {acc : List Sq} {ys : List Int}
theorem RowL.nil (w0 w : World) (base : Nat) : RowL w0 base w (.slice none 0 0) [] := ⟨[], World.ownsRow_nil _ _ _ _, .nil⟩
theorem RowL.lt (h : RowL w0 base wr u9 acc) : ∀ k, u9.ownBlock = some k → k < wr.heap.size := fun k hk => by obtain ⟨cells, h1, _⟩ := h; exact (h1.lt k hk).2
theorem RowL.frame (h : RowL w0 base wr u9 acc) (hb : ∀ k, u9.ownBlock = some k → w1.heap[k]? = wr.heap[k]?) : RowL w0 base w1 u9 acc := by
  obtain ⟨cells, h0, hs⟩ := h
  refine ⟨cells, ?_, hs⟩
  obtain ⟨hl, h1 | ⟨g, cap, cur, hv, hg, hh, r1⟩⟩ := h0
  · exact ⟨hl, Or.inl h1⟩
  · exact ⟨hl, Or.inr ⟨g, cap, cur, hv, hg, (hb g (by rw [hv]; rfl)).trans hh, r1⟩⟩
theorem RowL.below (h : RowL w0 base wr u9 acc) (hb : Below wr.heap.size wr w1) : RowL w0 base w1 u9 acc := h.frame fun k hk => hb.block k (h.lt k hk)
theorem RowL.grown (h : RowL w0 base wr u9 acc) (ho : Row.OwnB wr base u8 ys) (hg : wr.grownBy w1 u8.ownBlock) : RowL w0 base w1 u9 acc := by
  obtain ⟨cells, h0, hs⟩ := h
  exact ⟨cells, own_other h0 hg (own_type_ne h0 (Kd.own_of_R ho) (by decide)), hs⟩
theorem own_grown_l (h : RowL w0 base wr u9 acc) (ho : Row.OwnB wr base u8 ys) (hg : wr.grownBy w1 u9.ownBlock) : Row.OwnB w1 base u8 ys := by
  obtain ⟨cells, h0, hs⟩ := h
  exact ho.grown hg (own_type_ne (Kd.own_of_R ho) h0 (by decide))
theorem box_ne (ho : Row.OwnB wr base u8 ys) {cs : Array Value} (hs : wr.heap[sb]? = some (.cells cs 67 (0, 0))) : u8.ownBlock ≠ some sb := fun e => own_ne (Kd.own_of_R ho) hs (by decide) e.symm
end
end Go.Proofs.Ytgplpcjlemjabaa.Lz
