/- Blocks are unpacked: what a block tells, in plain words; the reader's small parts. -/
import Derived.Test.YtgplpcjlemjabaaArr
import Derived.Test.YtgplpcjlemjabaaWMore
import Derived.Test.YtgplpcjlemjabaaRows
import Derived.OpenShut
set_option linter.unusedVariables false
set_option linter.unusedSimpArgs false
namespace Go.Proofs.Ytgplpcjlemjabaa.Lz
open Go.RowKit Go.Proofs.YtgplpcjlemjabaaW.PrintWords Go.Proofs.YtgplpcjlemjabaaW.PrintLast Go.Proofs.YtgplpcjlemjabaaW.PrintMore
/-- A length's further bytes; what stands behind them. -/
def lenL (n : Int) : List Int → Option (Int × List Int)
  | [] => none
  | x :: r => if x < 255 then some (n + x, r) else lenL (n + x) r
def lenH (n : Int) (r : List Int) : Option (Int × List Int) := if n < 15 then some (n, r) else lenL n r
inductive Step where
  | fail (e p : Int)
  | last (lit : List Int)
  | seq (lit : List Int) (off len : Int) (rest : List Int)
/-- What stands behind the literals. -/
def tailS (N : Nat) (most size t : Int) (rl : Nat) (n : Int) (lit : List Int) : List Int → Step
  | [] => .last lit
  | [_] => .fail 6 N
  | x :: y :: r3 =>
    if x + y * 256 = 0 ∨ size + n < x + y * 256 then .fail 9 ((N : Int) - (r3.length + 2))
    else match lenH (t % 16) r3 with
      | none => .fail 6 N
      | some (m, r4) => if most - (size + n) < m + 4 then .fail 2 ((N : Int) - (rl + 1)) else .seq lit (x + y * 256) (m + 4) r4
/-- One sequence, N bytes in all, 'size' unpacked so far. -/
def step (N : Nat) (most size : Int) : List Int → Step
  | [] => .fail 6 N
  | t :: r => match lenH (t / 16) r with
    | none => .fail 6 N
    | some (n, r1) =>
      if most - size < n then .fail 2 ((N : Int) - (r.length + 1))
      else if (r1.length : Int) < n then .fail 6 N
      else tailS N most size t r.length n (r1.take n.toNat) (r1.drop n.toNat)
theorem step_d {N : Nat} {most size t : Int} {r r1 : List Int} {nn : Nat} (hL : lenH (t / 16) r = some ((nn : Int), r1)) (h3 : (nn : Int) ≤ most - size) (h4 : (nn : Int) ≤ r1.length) : step N most size (t :: r) = tailS N most size t r.length nn (r1.take nn) (r1.drop nn) := by
  simp only [step, hL]
  rw [if_neg (by omega), if_neg (by omega), Int.toNat_natCast]
def isB (l : List Int) : Prop := ∀ x ∈ l, 0 ≤ x ∧ x < 256
theorem lenL_spec : ∀ (r : List Int) (n m : Int) (r2 : List Int), isB r → 0 ≤ n → lenL n r = some (m, r2) → r2.length < r.length ∧ n ≤ m ∧ m ≤ n + 255 * r.length ∧ ∃ k, r2 = r.drop k
  | [], n, m, r2, _, _, h => by simp [lenL] at h
  | x :: r, n, m, r2, hb, hn, h => by
    have hx := hb x (by simp)
    unfold lenL at h
    by_cases h0 : x < 255
    · rw [if_pos h0] at h
      simp only [Option.some.injEq, Prod.mk.injEq] at h
      obtain ⟨rfl, rfl⟩ := h
      exact ⟨by simp, by omega, by simp; omega, 1, rfl⟩
    · rw [if_neg h0] at h
      obtain ⟨h1, h2, h3, k, h4⟩ := lenL_spec r (n + x) m r2 (fun y hy => hb y (by simp [hy])) (by omega) h
      exact ⟨by simp; omega, by omega, by simp; omega, k + 1, by simpa using h4⟩
/-- A reader in memory. -/
def RD (w : World) (g : Nat) (A : Option Addr) (N c : Nat) (at_ size most e bad : Int) : Prop :=
  w.heap[g]? = some (.cells #[.slice A N c, .int .i64 at_, .int .i64 size, .int .i64 most, .int .i64 e, .int .i64 bad] 105 (0, 0))
/-- Nothing but block g has turned. -/
def Only (w w' : World) (g : Nat) : Prop := Below g w w' ∧ w'.heap.size = w.heap.size ∧ ∀ k, k ≠ g → w'.heap[k]? = w.heap[k]?
theorem Only.refl (w : World) (g : Nat) : Only w w g := ⟨Below.refl _ _, rfl, fun _ _ => rfl⟩
theorem Only.set {w w1 : World} {g : Nat} (h : Only w w1 g) (j : Nat) (u : Value) : Only w (w1.setCell ⟨g, j, none⟩ u) g :=
  ⟨h.1.setCell (Nat.le_refl _) u, by simp [h.2.1], fun k hk => (Below.heap_setCell w1 ⟨g, j, none⟩ u k hk).trans (h.2.2 k hk)⟩
theorem Only.trans {w w1 w2 : World} {g : Nat} (h : Only w w1 g) (h2 : Only w1 w2 g) : Only w w2 g :=
  ⟨h.1.trans h2.1, h2.2.1.trans h.2.1, fun k hk => (h2.2.2 k hk).trans (h.2.2 k hk)⟩
theorem Only.drewN {w w1 : World} {g : Nat} (h : Only w w1 g) (q : Nat) : Only w (w1.drewN q) g := ⟨pw_below_drewN h.1 q, h.2.1, h.2.2⟩
theorem Only.below {w0 w w1 : World} {base g : Nat} (h : Only w w1 g) (hB : Below base w0 w) (hg : base ≤ g) : Below base w0 w1 := hB.trans (h.1.mono hg)
section
variable {w : World} {g : Nat} {A : Option Addr} {N c : Nat} {at_ size most err bad : Int}
theorem RD_cells (h : RD w g A N c at_ size most err bad) : w.cell? ⟨g, 0, none⟩ = some (.slice A N c) ∧ w.cell? ⟨g, 1, none⟩ = some (.int .i64 at_) ∧ w.cell? ⟨g, 2, none⟩ = some (.int .i64 size) ∧ w.cell? ⟨g, 3, none⟩ = some (.int .i64 most) ∧ w.cell? ⟨g, 4, none⟩ = some (.int .i64 err) ∧ w.cell? ⟨g, 5, none⟩ = some (.int .i64 bad) :=
  ⟨(cell_of_row _ _ _ _ _ _ h).trans rfl, (cell_of_row _ _ _ _ _ _ h).trans rfl, (cell_of_row _ _ _ _ _ _ h).trans rfl, (cell_of_row _ _ _ _ _ _ h).trans rfl, (cell_of_row _ _ _ _ _ _ h).trans rfl, (cell_of_row _ _ _ _ _ _ h).trans rfl⟩
theorem RD_frz (h : RD w g A N c at_ size most err bad) (j : Nat) : w.frozen? ⟨g, j, none⟩ = false := blk_frozen h j
theorem RD_drewN (h : RD w g A N c at_ size most err bad) (q : Nat) : RD (w.drewN q) g A N c at_ size most err bad := h
theorem RD_set1 (h : RD w g A N c at_ size most err bad) {v : Int} : (w.setCell ⟨g, 1, none⟩ (.int .i64 v)).cell? ⟨g, 1, none⟩ = some (.int .i64 v) := (cell_of_row _ _ _ _ _ _ (blk_set h 1 _)).trans rfl
theorem fail_any (h : RD w g A N c at_ size most err bad) (e1 p1 : Int) :
    Calls Try.prog 77 #[.pointer (some ⟨g, 0, none⟩), .int .i64 e1, .int .i64 p1] w fun e w' => e = .returned (.bool false) ∧ RD w' g A N c at_ size most e1 p1 ∧ Only w w' g := by
  obtain ⟨h0, h1, h2, h3, h4, h5⟩ := RD_cells h
  have f4 := RD_frz h 4
  have f5 := RD_frz h 5
  have K := Aside0.mk h
  clear h
  go_enter Try.func77, Try.ntmps77
  go_wp2
  go_ret
  exact ⟨rfl, blk_set (blk_set K.out 4 (.int .i64 e1)) 5 (.int .i64 p1), ((Only.refl w g).set 4 _).set 5 _⟩
theorem room_any (h : RD w g A N c at_ size most err bad) (n tok : Int) (hn : 0 ≤ n) (hn2 : n ≤ 4000000000) (hs : 0 ≤ size) (hm : size ≤ most) (hm2 : most ≤ 4000000000) :
    Calls Try.prog 79 #[.pointer (some ⟨g, 0, none⟩), .int .i64 n, .int .i64 tok] w fun e w' => Only w w' g ∧ ((n ≤ most - size ∧ e = .returned (.bool true) ∧ RD w' g A N c at_ (size + n) most err bad) ∨ (most - size < n ∧ e = .returned (.bool false) ∧ RD w' g A N c at_ size most 2 tok)) := by
  obtain ⟨h0, h1, h2, h3, h4, h5⟩ := RD_cells h
  have f2 := RD_frz h 2
  have K := Aside0.mk h
  clear h
  by_cases hfit : most - size < n
  · go_enter Try.func79, Try.ntmps79
    go_wp2
    go_quiet (fail)
    go_wp2_with (go_at_call 77; refine (fail_any (RD_drewN K.out _) 2 tok).mono ?_; rintro e w1 ⟨rfl, hr, ho⟩; have KR1 := Aside0.mk hr; have KO1 := Aside0.mk ho; clear hr ho)
    go_ret
    exact ⟨((Only.refl w g).drewN _).trans KO1.out, Or.inr ⟨hfit, rfl, KR1.out⟩⟩
  · go_enter Try.func79, Try.ntmps79
    go_wp2
    go_quiet (fail)
    go_wp2
    go_ret
    exact ⟨((Only.refl w g).drewN _).set 2 _, Or.inl ⟨by omega, rfl, blk_set K.out 2 _⟩⟩
end
theorem drop_cons {b : List Int} {k : Nat} (h : k < b.length) : b.drop k = b[k] :: b.drop (k + 1) := List.drop_eq_getElem_cons h
theorem rd_at {b : List Int} {k : Nat} (h : k < b.length) : rd b (k : Int) = b[k] := by
  unfold rd
  rw [Int.toNat_natCast, List.getD_eq_getElem?_getD, List.getElem?_eq_getElem h]
  rfl
set_option maxHeartbeats 1000000 in
set_option maxRecDepth 100000 in
/-- A length told by a token's four bits. -/
theorem length_any {w0 w : World} {base g : Nat} {A : Option Addr} {c : Nat} {at_ : Nat} {size most err bad : Int} {b : List Int} (h : RD w g A b.length c at_ size most err bad) (HB : Below base w0 w) (hg : base ≤ g) (hC : ∀ w', Below base w0 w' → Kd.C (Kd.int .u8) w' A b.length b) (hb : isB b) (hN : b.length ≤ 4000000) (ha : at_ ≤ b.length) (n : Int) (hn0 : 0 ≤ n) (hn1 : n ≤ 15) :
    Calls Try.prog 78 #[.pointer (some ⟨g, 0, none⟩), .int .i64 n] w fun e w' => Only w w' g ∧ ((lenH n (b.drop at_) = none ∧ e = .returned (.tuple #[.int .i64 0, .bool false]) ∧ ∃ at2, RD w' g A b.length c at2 size most 6 b.length) ∨
      (∃ m at2, lenH n (b.drop at_) = some (m, b.drop at2) ∧ at_ ≤ at2 ∧ at2 ≤ b.length ∧ 0 ≤ m ∧ m ≤ 15 + 255 * b.length ∧ e = .returned (.tuple #[.int .i64 m, .bool true]) ∧ RD w' g A b.length c at2 size most err bad)) := by
  by_cases hlt : n < 15
  · clear hC
    go_enter Try.func78, Try.ntmps78
    go_wp2
    go_ret2
    exact ⟨Only.refl _ _, Or.inr ⟨n, at_, by simp [lenH, hlt], Nat.le_refl _, ha, hn0, by omega, rfl, h⟩⟩
  have hL : lenH n (b.drop at_) = lenL n (b.drop at_) := by simp [lenH, hlt]
  rw [hL]
  have K := Aside0.mk h
  have KC := Aside0.mk hC
  have KB := Aside0.mk HB
  have Kb := Aside0.mk hb
  clear h hC HB hb hL
  go_enter Try.func78, Try.ntmps78
  go_wp2
  go_loopw [1] (fun v wr => ∃ (k : Nat) (m : Int), at_ ≤ k ∧ k ≤ b.length ∧ 0 ≤ m ∧ m ≤ 15 + 255 * (k : Int) ∧ v = .int .i64 m ∧ Aside0 (RD wr g A b.length c k size most err bad) ∧ Aside0 (Only w wr g) ∧ Aside0 (lenL n (b.drop at_) = lenL m (b.drop k))) (fun _ wr => b.length - (match wr.cell? ⟨g, 1, none⟩ with | some v => (intOf v).toNat | none => 0))
  case atStart => exact ⟨at_, n, Nat.le_refl _, ha, hn0, by omega, rfl, K, ⟨Only.refl _ _⟩, ⟨rfl⟩⟩
  case round =>
    obtain ⟨k, m, hk0, hk, hm0, hm1, rfl, HR, HO, HL⟩ := hrel
    obtain ⟨h0, h1, h2, h3, h4, h5⟩ := RD_cells HR.out
    have f1 := RD_frz HR.out 1
    by_cases hlt2 : k < b.length
    · have hCr := KC.out wr (HO.out.below KB.out hg)
      obtain ⟨ad, e, hx⟩ := Kd.at_int hCr (k : Int) (by omega) (by omega)
      subst e
      obtain ⟨x, hxx⟩ : ∃ x, x = b[k] := ⟨_, rfl⟩
      rw [rd_at hlt2, ← hxx, Int.toNat_natCast] at hx
      have hxb := Kb.out x (by rw [hxx]; exact List.getElem_mem hlt2)
      have hdr : b.drop k = x :: b.drop (k + 1) := by rw [hxx]; exact drop_cons hlt2
      have Kdr := Aside0.mk hdr
      have hne : ((k : Int) == (b.length : Int)) = false := by simp; omega
      clear hCr hxx hdr
      by_cases h255 : x < 255
      · go_wp2
        go_quiet (fail)
        go_wp2
        go_quiet (fail)
        go_wp2
        go_ret2
        refine ⟨(HO.out.drewN _).set 1 _, Or.inr ⟨m + x, k + 1, ?_, by omega, by omega, by omega, by omega, rfl, ?_⟩⟩
        · rw [HL.out, Kdr.out]
          unfold lenL
          rw [if_pos h255]
        · exact blk_set (RD_drewN HR.out _) 1 _
      · go_wp2
        go_quiet (fail)
        go_wp2
        go_quiet (fail)
        go_wp2
        go_round
        case rel =>
          refine ⟨k + 1, m + x, by omega, by omega, by omega, by omega, rfl, ⟨blk_set (RD_drewN HR.out _) 1 _⟩, ⟨(HO.out.drewN _).set 1 _⟩, ⟨?_⟩⟩
          rw [HL.out, Kdr.out]
          conv => lhs; unfold lenL
          rw [if_neg (by omega)]
        case measure =>
          rw [h1, RD_set1 (RD_drewN HR.out _)]
          simp [intOf]
          omega
    · obtain rfl : k = b.length := by omega
      go_wp2
      go_quiet (fail)
      go_wp2_with (go_at_call 77; refine (fail_any (RD_drewN HR.out _) 6 b.length).mono ?_; rintro e w1 ⟨rfl, hr, ho⟩; have KR1 := Aside0.mk hr; have KO1 := Aside0.mk ho; clear hr ho)
      go_ret2
      refine ⟨(HO.out.drewN _).trans KO1.out, Or.inl ⟨?_, rfl, _, KR1.out⟩⟩
      rw [HL.out, List.drop_length]
      rfl
end Go.Proofs.Ytgplpcjlemjabaa.Lz
