/- Texts put together: KL. -/
import Derived.Test.YtpdggoapjbjmhaaZR
import Derived.Test.YtpdggoapjbjmhaaWX
import Derived.Test.YtpdggoapjbjmhaaRows
import Derived.OpenShut
import Derived.Lib.QuoteBits
import Derived.Laws.CopyOwn
import Derived.Laws.OwnMore
import Derived.WalkMore
import Derived.Lib.SlBytesConst
import Derived.Lib.Bytes
/- Texts put together: Lz1, Lz2, Lz3, Lz4, Lz5, Lz6, LawLz1, Lz7, Lz8, Lz9, Lz10, LawLz2, LawLz3, Same. -/
/- Blocks are unpacked: what a block tells, in plain words; the reader's small parts. -/
set_option linter.unusedVariables false
set_option linter.unusedSimpArgs false
namespace Go.Proofs.Ytpdggoapjbjmhaa.Lz
open Go.RowKit Go.Proofs.YtpdggoapjbjmhaaW.PrintWords Go.Proofs.YtpdggoapjbjmhaaW.PrintLast Go.Proofs.YtpdggoapjbjmhaaW.PrintMore
/-- A length's further bytes; what stands behind them. -/
def lenL (n : Int) : List Int → Option (Int × List Int)
  | [] => none
  | x :: r => if x < 255 then some (n + x, r) else lenL (n + x) r
def lenH (n : Int) (r : List Int) : Option (Int × List Int) := if n < 15 then some (n, r) else lenL n r
inductive Step where
  | fail (e p : Int)
  | last (lit : List Int)
  | seq (lit : List Int) (off len : Int) (rest : List Int)
/-- What stands behind the literals. -/
def tailS (N : Nat) (most size t : Int) (rl : Nat) (n : Int) (lit : List Int) : List Int → Step
  | [] => .last lit
  | [_] => .fail 6 N
  | x :: y :: r3 =>
    if x + y * 256 = 0 ∨ size + n < x + y * 256 then .fail 9 ((N : Int) - (r3.length + 2))
    else match lenH (t % 16) r3 with
      | none => .fail 6 N
      | some (m, r4) => if most - (size + n) < m + 4 then .fail 2 ((N : Int) - (rl + 1)) else .seq lit (x + y * 256) (m + 4) r4
/-- One sequence, N bytes in all, 'size' unpacked so far. -/
def step (N : Nat) (most size : Int) : List Int → Step
  | [] => .fail 6 N
  | t :: r => match lenH (t / 16) r with
    | none => .fail 6 N
    | some (n, r1) =>
      if most - size < n then .fail 2 ((N : Int) - (r.length + 1))
      else if (r1.length : Int) < n then .fail 6 N
      else tailS N most size t r.length n (r1.take n.toNat) (r1.drop n.toNat)
theorem step_d {N : Nat} {most size t : Int} {r r1 : List Int} {nn : Nat} (hL : lenH (t / 16) r = some ((nn : Int), r1)) (h3 : (nn : Int) ≤ most - size) (h4 : (nn : Int) ≤ r1.length) : step N most size (t :: r) = tailS N most size t r.length nn (r1.take nn) (r1.drop nn) := by
  simp only [step, hL]
  rw [if_neg (by omega), if_neg (by omega), Int.toNat_natCast]
def isB (l : List Int) : Prop := ∀ x ∈ l, 0 ≤ x ∧ x < 256
theorem lenL_spec : ∀ (r : List Int) (n m : Int) (r2 : List Int), isB r → 0 ≤ n → lenL n r = some (m, r2) → r2.length < r.length ∧ n ≤ m ∧ m ≤ n + 255 * r.length ∧ ∃ k, r2 = r.drop k
  | [], n, m, r2, _, _, h => by simp [lenL] at h
  | x :: r, n, m, r2, hb, hn, h => by
    have hx := hb x (by simp)
    unfold lenL at h
    by_cases h0 : x < 255
    · rw [if_pos h0] at h
      simp only [Option.some.injEq, Prod.mk.injEq] at h
      obtain ⟨rfl, rfl⟩ := h
      exact ⟨by simp, by omega, by simp; omega, 1, rfl⟩
    · rw [if_neg h0] at h
      obtain ⟨h1, h2, h3, k, h4⟩ := lenL_spec r (n + x) m r2 (fun y hy => hb y (by simp [hy])) (by omega) h
      exact ⟨by simp; omega, by omega, by simp; omega, k + 1, by simpa using h4⟩
/-- A reader in memory. -/
def RD (w : World) (g : Nat) (A : Option Addr) (N c : Nat) (at_ size most e bad : Int) : Prop :=
  w.heap[g]? = some (.cells #[.slice A N c, .int .i64 at_, .int .i64 size, .int .i64 most, .int .i64 e, .int .i64 bad] 121 (0, 0))
/-- Nothing but block g has turned. -/
def Only (w w' : World) (g : Nat) : Prop := Below g w w' ∧ w'.heap.size = w.heap.size ∧ ∀ k, k ≠ g → w'.heap[k]? = w.heap[k]?
theorem Only.refl (w : World) (g : Nat) : Only w w g := ⟨Below.refl _ _, rfl, fun _ _ => rfl⟩
theorem Only.set {w w1 : World} {g : Nat} (h : Only w w1 g) (j : Nat) (u : Value) : Only w (w1.setCell ⟨g, j, none⟩ u) g :=
  ⟨h.1.setCell (Nat.le_refl _) u, by simp [h.2.1], fun k hk => (Below.heap_setCell w1 ⟨g, j, none⟩ u k hk).trans (h.2.2 k hk)⟩
theorem Only.trans {w w1 w2 : World} {g : Nat} (h : Only w w1 g) (h2 : Only w1 w2 g) : Only w w2 g :=
  ⟨h.1.trans h2.1, h2.2.1.trans h.2.1, fun k hk => (h2.2.2 k hk).trans (h.2.2 k hk)⟩
theorem Only.drewN {w w1 : World} {g : Nat} (h : Only w w1 g) (q : Nat) : Only w (w1.drewN q) g := ⟨pw_below_drewN h.1 q, h.2.1, h.2.2⟩
theorem Only.below {w0 w w1 : World} {base g : Nat} (h : Only w w1 g) (hB : Below base w0 w) (hg : base ≤ g) : Below base w0 w1 := hB.trans (h.1.mono hg)
section
variable {w : World} {g : Nat} {A : Option Addr} {N c : Nat} {at_ size most err bad : Int}
theorem RD_cells (h : RD w g A N c at_ size most err bad) : w.cell? ⟨g, 0, none⟩ = some (.slice A N c) ∧ w.cell? ⟨g, 1, none⟩ = some (.int .i64 at_) ∧ w.cell? ⟨g, 2, none⟩ = some (.int .i64 size) ∧ w.cell? ⟨g, 3, none⟩ = some (.int .i64 most) ∧ w.cell? ⟨g, 4, none⟩ = some (.int .i64 err) ∧ w.cell? ⟨g, 5, none⟩ = some (.int .i64 bad) :=
  ⟨(cell_of_row _ _ _ _ _ _ h).trans rfl, (cell_of_row _ _ _ _ _ _ h).trans rfl, (cell_of_row _ _ _ _ _ _ h).trans rfl, (cell_of_row _ _ _ _ _ _ h).trans rfl, (cell_of_row _ _ _ _ _ _ h).trans rfl, (cell_of_row _ _ _ _ _ _ h).trans rfl⟩
theorem RD_frz (h : RD w g A N c at_ size most err bad) (j : Nat) : w.frozen? ⟨g, j, none⟩ = false := blk_frozen h j
theorem RD_drewN (h : RD w g A N c at_ size most err bad) (q : Nat) : RD (w.drewN q) g A N c at_ size most err bad := h
theorem RD_set1 (h : RD w g A N c at_ size most err bad) {v : Int} : (w.setCell ⟨g, 1, none⟩ (.int .i64 v)).cell? ⟨g, 1, none⟩ = some (.int .i64 v) := (cell_of_row _ _ _ _ _ _ (blk_set h 1 _)).trans rfl
theorem fail_any (h : RD w g A N c at_ size most err bad) (e1 p1 : Int) :
    Calls Try.prog 84 #[.pointer (some ⟨g, 0, none⟩), .int .i64 e1, .int .i64 p1] w fun e w' => e = .returned (.bool false) ∧ RD w' g A N c at_ size most e1 p1 ∧ Only w w' g := by
  obtain ⟨h0, h1, h2, h3, h4, h5⟩ := RD_cells h
  have f4 := RD_frz h 4
  have f5 := RD_frz h 5
  have K := Aside0.mk h
  clear h
  go_enter Try.func84, Try.ntmps84
  go_wp2
  go_ret
  exact ⟨rfl, blk_set (blk_set K.out 4 (.int .i64 e1)) 5 (.int .i64 p1), ((Only.refl w g).set 4 _).set 5 _⟩
theorem room_any (h : RD w g A N c at_ size most err bad) (n tok : Int) (hn : 0 ≤ n) (hn2 : n ≤ 4000000000) (hs : 0 ≤ size) (hm : size ≤ most) (hm2 : most ≤ 4000000000) :
    Calls Try.prog 86 #[.pointer (some ⟨g, 0, none⟩), .int .i64 n, .int .i64 tok] w fun e w' => Only w w' g ∧ ((n ≤ most - size ∧ e = .returned (.bool true) ∧ RD w' g A N c at_ (size + n) most err bad) ∨ (most - size < n ∧ e = .returned (.bool false) ∧ RD w' g A N c at_ size most 2 tok)) := by
  obtain ⟨h0, h1, h2, h3, h4, h5⟩ := RD_cells h
  have f2 := RD_frz h 2
  have K := Aside0.mk h
  clear h
  by_cases hfit : most - size < n
  · go_enter Try.func86, Try.ntmps86
    go_wp2
    go_quiet (fail)
    go_wp2_with (go_at_call 84; refine (fail_any (RD_drewN K.out _) 2 tok).mono ?_; rintro e w1 ⟨rfl, hr, ho⟩; have KR1 := Aside0.mk hr; have KO1 := Aside0.mk ho; clear hr ho)
    go_ret
    exact ⟨((Only.refl w g).drewN _).trans KO1.out, Or.inr ⟨hfit, rfl, KR1.out⟩⟩
  · go_enter Try.func86, Try.ntmps86
    go_wp2
    go_quiet (fail)
    go_wp2
    go_ret
    exact ⟨((Only.refl w g).drewN _).set 2 _, Or.inl ⟨by omega, rfl, blk_set K.out 2 _⟩⟩
end
theorem drop_cons {b : List Int} {k : Nat} (h : k < b.length) : b.drop k = b[k] :: b.drop (k + 1) := List.drop_eq_getElem_cons h
theorem rd_at {b : List Int} {k : Nat} (h : k < b.length) : rd b (k : Int) = b[k] := by
  unfold rd
  rw [Int.toNat_natCast, List.getD_eq_getElem?_getD, List.getElem?_eq_getElem h]
  rfl
set_option maxHeartbeats 1000000 in
set_option maxRecDepth 100000 in
/-- A length told by a token's four bits. -/
theorem length_any {w0 w : World} {base g : Nat} {A : Option Addr} {c : Nat} {at_ : Nat} {size most err bad : Int} {b : List Int} (h : RD w g A b.length c at_ size most err bad) (HB : Below base w0 w) (hg : base ≤ g) (hC : ∀ w', Below base w0 w' → Kd.C (Kd.int .u8) w' A b.length b) (hb : isB b) (hN : b.length ≤ 4000000) (ha : at_ ≤ b.length) (n : Int) (hn0 : 0 ≤ n) (hn1 : n ≤ 15) :
    Calls Try.prog 85 #[.pointer (some ⟨g, 0, none⟩), .int .i64 n] w fun e w' => Only w w' g ∧ ((lenH n (b.drop at_) = none ∧ e = .returned (.tuple #[.int .i64 0, .bool false]) ∧ ∃ at2, RD w' g A b.length c at2 size most 6 b.length) ∨
      (∃ m at2, lenH n (b.drop at_) = some (m, b.drop at2) ∧ at_ ≤ at2 ∧ at2 ≤ b.length ∧ 0 ≤ m ∧ m ≤ 15 + 255 * b.length ∧ e = .returned (.tuple #[.int .i64 m, .bool true]) ∧ RD w' g A b.length c at2 size most err bad)) := by
  by_cases hlt : n < 15
  · clear hC
    go_enter Try.func85, Try.ntmps85
    go_wp2
    go_ret2
    exact ⟨Only.refl _ _, Or.inr ⟨n, at_, by simp [lenH, hlt], Nat.le_refl _, ha, hn0, by omega, rfl, h⟩⟩
  have hL : lenH n (b.drop at_) = lenL n (b.drop at_) := by simp [lenH, hlt]
  rw [hL]
  have K := Aside0.mk h
  have KC := Aside0.mk hC
  have KB := Aside0.mk HB
  have Kb := Aside0.mk hb
  clear h hC HB hb hL
  go_enter Try.func85, Try.ntmps85
  go_wp2
  go_loopw [1] (fun v wr => ∃ (k : Nat) (m : Int), at_ ≤ k ∧ k ≤ b.length ∧ 0 ≤ m ∧ m ≤ 15 + 255 * (k : Int) ∧ v = .int .i64 m ∧ Aside0 (RD wr g A b.length c k size most err bad) ∧ Aside0 (Only w wr g) ∧ Aside0 (lenL n (b.drop at_) = lenL m (b.drop k))) (fun _ wr => b.length - (match wr.cell? ⟨g, 1, none⟩ with | some v => (intOf v).toNat | none => 0))
  case atStart => exact ⟨at_, n, Nat.le_refl _, ha, hn0, by omega, rfl, K, ⟨Only.refl _ _⟩, ⟨rfl⟩⟩
  case round =>
    obtain ⟨k, m, hk0, hk, hm0, hm1, rfl, HR, HO, HL⟩ := hrel
    obtain ⟨h0, h1, h2, h3, h4, h5⟩ := RD_cells HR.out
    have f1 := RD_frz HR.out 1
    by_cases hlt2 : k < b.length
    · have hCr := KC.out wr (HO.out.below KB.out hg)
      obtain ⟨ad, e, hx⟩ := Kd.at_int hCr (k : Int) (by omega) (by omega)
      subst e
      obtain ⟨x, hxx⟩ : ∃ x, x = b[k] := ⟨_, rfl⟩
      rw [rd_at hlt2, ← hxx, Int.toNat_natCast] at hx
      have hxb := Kb.out x (by rw [hxx]; exact List.getElem_mem hlt2)
      have hdr : b.drop k = x :: b.drop (k + 1) := by rw [hxx]; exact drop_cons hlt2
      have Kdr := Aside0.mk hdr
      have hne : ((k : Int) == (b.length : Int)) = false := by simp; omega
      clear hCr hxx hdr
      by_cases h255 : x < 255
      · go_wp2
        go_quiet (fail)
        go_wp2
        go_quiet (fail)
        go_wp2
        go_ret2
        refine ⟨(HO.out.drewN _).set 1 _, Or.inr ⟨m + x, k + 1, ?_, by omega, by omega, by omega, by omega, rfl, ?_⟩⟩
        · rw [HL.out, Kdr.out]
          unfold lenL
          rw [if_pos h255]
        · exact blk_set (RD_drewN HR.out _) 1 _
      · go_wp2
        go_quiet (fail)
        go_wp2
        go_quiet (fail)
        go_wp2
        go_round
        case rel =>
          refine ⟨k + 1, m + x, by omega, by omega, by omega, by omega, rfl, ⟨blk_set (RD_drewN HR.out _) 1 _⟩, ⟨(HO.out.drewN _).set 1 _⟩, ⟨?_⟩⟩
          rw [HL.out, Kdr.out]
          conv => lhs; unfold lenL
          rw [if_neg (by omega)]
        case measure =>
          rw [h1, RD_set1 (RD_drewN HR.out _)]
          simp [intOf]
          omega
    · obtain rfl : k = b.length := by omega
      go_wp2
      go_quiet (fail)
      go_wp2_with (go_at_call 84; refine (fail_any (RD_drewN HR.out _) 6 b.length).mono ?_; rintro e w1 ⟨rfl, hr, ho⟩; have KR1 := Aside0.mk hr; have KO1 := Aside0.mk ho; clear hr ho)
      go_ret2
      refine ⟨(HO.out.drewN _).trans KO1.out, Or.inl ⟨?_, rfl, _, KR1.out⟩⟩
      rw [HL.out, List.drop_length]
      rfl
end Go.Proofs.Ytpdggoapjbjmhaa.Lz
/- Blocks are unpacked: the next sequence. -/
set_option linter.unusedVariables false
set_option linter.unusedSimpArgs false
namespace Go.Proofs.Ytpdggoapjbjmhaa.Lz
open Go.RowKit Go.Proofs.YtpdggoapjbjmhaaW.PrintWords Go.Proofs.YtpdggoapjbjmhaaW.PrintLast Go.Proofs.YtpdggoapjbjmhaaW.PrintMore
theorem seqSize : (Try.prog.info? 114).map (·.size) = some 3 := by kernel_rfl
/-- The reader, the sequence's variable, the rest of the world. -/
def SN (w0 w : World) (base g sb : Nat) (A : Option Addr) (N c : Nat) (most : Int) (wr : World) (at_ size err bad : Int) (sl : Value) (so sn : Int) : Prop :=
  RD wr g A N c at_ size most err bad ∧ wr.heap[sb]? = some (.cells #[sl, .int .i64 so, .int .i64 sn] 114 (0, 0)) ∧ Below base w0 wr ∧ w.heap.size ≤ wr.heap.size ∧ ∀ k, k ≠ g → k < w.heap.size → wr.heap[k]? = w.heap[k]?
section
variable {w0 w wr w1 : World} {base g sb : Nat} {A : Option Addr} {N c : Nat} {most at_ size err bad : Int} {sl : Value} {so sn : Int}
theorem SN_row (h : SN w0 w base g sb A N c most wr at_ size err bad sl so sn) : wr.heap[sb]? = some (.cells #[sl, .int .i64 so, .int .i64 sn] 114 (0, 0)) := h.2.1
theorem SN_rd (h : SN w0 w base g sb A N c most wr at_ size err bad sl so sn) : RD wr g A N c at_ size most err bad := h.1
theorem SN_base (h : SN w0 w base g sb A N c most wr at_ size err bad sl so sn) : Below base w0 wr := h.2.2.1
theorem SN_drewN (h : SN w0 w base g sb A N c most wr at_ size err bad sl so sn) (q : Nat) : SN w0 w base g sb A N c most (wr.drewN q) at_ size err bad sl so sn :=
  ⟨h.1, h.2.1, pw_below_drewN h.2.2.1 q, h.2.2.2.1, h.2.2.2.2⟩
theorem SN_drew (h : SN w0 w base g sb A N c most wr at_ size err bad sl so sn) : SN w0 w base g sb A N c most wr.drew at_ size err bad sl so sn :=
  ⟨h.1, h.2.1, h.2.2.1.drew, h.2.2.2.1, h.2.2.2.2⟩
theorem SN_call (h : SN w0 w base g sb A N c most wr at_ size err bad sl so sn) (hg : base ≤ g) (hsb : sb ≠ g) {at2 size2 err2 bad2 : Int} (hR : RD w1 g A N c at2 size2 most err2 bad2) (hO : Only wr w1 g) : SN w0 w base g sb A N c most w1 at2 size2 err2 bad2 sl so sn :=
  ⟨hR, (hO.2.2 sb hsb).trans h.2.1, hO.below h.2.2.1 hg, by rw [hO.2.1]; exact h.2.2.2.1, fun k hk hlt => (hO.2.2 k hk).trans (h.2.2.2.2 k hk hlt)⟩
theorem SN_set (h : SN w0 w base g sb A N c most wr at_ size err bad sl so sn) (hg : base ≤ g) (hsb : sb ≠ g) (j : Nat) (v : Int) {at2 size2 : Int} (hv : #[.slice A N c, .int .i64 at2, .int .i64 size2, .int .i64 most, .int .i64 err, .int .i64 bad] = (#[.slice A N c, .int .i64 at_, .int .i64 size, .int .i64 most, .int .i64 err, .int .i64 bad] : Array Value).setIfInBounds j (.int .i64 v)) : SN w0 w base g sb A N c most (wr.setCell ⟨g, j, none⟩ (.int .i64 v)) at2 size2 err bad sl so sn := by
  refine SN_call h hg hsb ?_ ((Only.refl wr g).set j _)
  have h2 := blk_set h.1 j (.int .i64 v)
  rw [← hv] at h2
  exact h2
theorem SN_s (h : SN w0 w base g sb A N c most wr at_ size err bad sl so sn) (hsb : sb ≠ g) (hbs : base ≤ sb) (hws : w.heap.size ≤ sb) (j : Nat) (u : Value) {sl2 : Value} {so2 sn2 : Int} (hv : #[sl2, .int .i64 so2, .int .i64 sn2] = (#[sl, .int .i64 so, .int .i64 sn] : Array Value).setIfInBounds j u) : SN w0 w base g sb A N c most (wr.setCell ⟨sb, j, none⟩ u) at_ size err bad sl2 so2 sn2 := by
  refine ⟨(Below.heap_setCell _ _ _ _ (Ne.symm hsb)).trans h.1, ?_, h.2.2.1.setCell hbs _, by simp; exact h.2.2.2.1, fun k hk hlt => (Below.heap_setCell _ _ _ _ (by intro he; subst he; omega)).trans (h.2.2.2.2 k hk hlt)⟩
  have h2 := blk_set h.2.1 j u
  rw [← hv] at h2
  exact h2
theorem SN_cells (h : SN w0 w base g sb A N c most wr at_ size err bad sl so sn) : wr.cell? ⟨sb, 0, none⟩ = some sl ∧ wr.cell? ⟨sb, 1, none⟩ = some (.int .i64 so) ∧ wr.cell? ⟨sb, 2, none⟩ = some (.int .i64 sn) ∧ wr.frozen? ⟨sb, 0, none⟩ = false ∧ wr.frozen? ⟨sb, 1, none⟩ = false ∧ wr.frozen? ⟨sb, 2, none⟩ = false :=
  ⟨(cell_of_row _ _ _ _ _ _ h.2.1).trans rfl, (cell_of_row _ _ _ _ _ _ h.2.1).trans rfl, (cell_of_row _ _ _ _ _ _ h.2.1).trans rfl, blk_frozen h.2.1 0, blk_frozen h.2.1 1, blk_frozen h.2.1 2⟩
end
theorem drop_one {b : List Int} {ee : Nat} (he : ee ≤ b.length) (h : ¬ ee = b.length) (h2 : (b.length : Int) - (ee : Int) < 2) : ∃ x, b.drop ee = [x] := by
  have hl : ee < b.length := by omega
  refine ⟨b[ee], ?_⟩
  rw [drop_cons hl, List.drop_eq_nil_of_le (by omega)]
theorem drop_two {b : List Int} {ee : Nat} (hb : isB b) (he : ee ≤ b.length) (h2 : 2 ≤ (b.length : Int) - (ee : Int)) : ∃ x y, b.drop ee = x :: y :: b.drop (ee + 2) ∧ (0 ≤ x ∧ x < 256) ∧ (0 ≤ y ∧ y < 256) ∧ rd b (ee : Int) = x ∧ rd b ((ee + 1 : Nat) : Int) = y ∧ ee + 2 ≤ b.length ∧ ee < b.length ∧ ee + 1 < b.length := by
  have hl : ee < b.length := by omega
  have hl2 : ee + 1 < b.length := by omega
  refine ⟨b[ee], b[ee + 1], ?_, hb _ (List.getElem_mem hl), hb _ (List.getElem_mem hl2), rd_at hl, rd_at hl2, by omega, hl, hl2⟩
  rw [drop_cons hl, drop_cons hl2]
theorem or_nat (a b : Nat) (ha : a < 256) (hb : b < 256) : a ||| b * 256 = a + b * 256 := by
  have h := Nat.two_pow_add_eq_or_of_lt (i := 8) (b := a) (by omega) b
  rw [Nat.or_comm, Nat.mul_comm b 256]
  have e : (2 : Nat) ^ 8 = 256 := by decide
  rw [e] at h
  omega
theorem or_bytes (x y : Int) (hx : 0 ≤ x ∧ x < 256) (hy : 0 ≤ y ∧ y < 256) : bits BinOp.or IntKind.i64 (wrap64 x) (wrap64 (wrap64 y * 256)) = x + y * 256 := by
  obtain ⟨a, rfl⟩ := Int.eq_ofNat_of_zero_le hx.1
  obtain ⟨b, rfl⟩ := Int.eq_ofNat_of_zero_le hy.1
  rw [show wrap64 (b : Int) = b by unfold wrap64; omega, show wrap64 (a : Int) = a by unfold wrap64; omega, show wrap64 ((b : Int) * 256) = ((b * 256 : Nat) : Int) by unfold wrap64; omega]
  have hor : bits BinOp.or IntKind.i64 (a : Int) ((b * 256 : Nat) : Int) = ((a ||| b * 256 : Nat) : Int) := by
    show IntKind.i64.wrap ((BitVec.ofInt 64 (a : Int) ||| BitVec.ofInt 64 ((b * 256 : Nat) : Int)).toNat : Int) = _
    rw [BitVec.toNat_or, ofInt_u64 a (by omega), ofInt_u64 (b * 256) (by omega), or_nat a b (by omega) (by omega)]
    exact Go.Lib.wrap_i64_small _ (by omega)
  rw [hor, or_nat a b (by omega) (by omega)]
  omega
theorem off_bounds {x y : Int} (hx : 0 ≤ x ∧ x < 256) (hy : 0 ≤ y ∧ y < 256) : 0 ≤ x + y * 256 ∧ x + y * 256 < 65536 := by omega
theorem tail_range {b : List Int} {ee rl : Nat} {most size t n x y : Int} {lit : List Int} (h : x + y * 256 = 0 ∨ size + n < x + y * 256) (he : ee + 2 ≤ b.length) : tailS b.length most size t rl n lit (x :: y :: b.drop (ee + 2)) = .fail 9 ee := by
  simp only [tailS]
  rw [if_pos h, List.length_drop, show ((b.length : Int) - (((b.length - (ee + 2) : Nat) : Int) + 2)) = (ee : Int) by omega]
theorem and15 {t : Int} (ht : 0 ≤ t ∧ t < 256) : bits BinOp.and IntKind.i64 t 15 = t % 16 := by
  obtain ⟨a, rfl⟩ := Int.eq_ofNat_of_zero_le ht.1
  show IntKind.i64.wrap ((BitVec.ofInt 64 (a : Int) &&& BitVec.ofInt 64 ((15 : Nat) : Int)).toNat : Int) = _
  rw [BitVec.toNat_and, ofInt_u64 a (by omega), ofInt_u64 15 (by omega), show (15 : Nat) = 2 ^ 4 - 1 from rfl, Nat.and_two_pow_sub_one_eq_mod]
  rw [Go.Lib.wrap_i64_small _ (by omega)]
  omega
theorem big_m {N : Nat} (h : N ≤ 1000000) : (15 : Int) + 255 * (N : Int) ≤ 300000000 := by omega
theorem room_le {a b m : Int} (h : b ≤ m - a) : a + b ≤ m := by omega
theorem m4_le {m : Int} (h : m ≤ 300000000) : m + 4 ≤ 4000000000 := by omega
theorem tok_place {b : List Int} {a : Nat} (h : a < b.length) : ((b.length : Int) - (((b.drop (a + 1)).length : Int) + 1)) = (a : Int) := by
  rw [List.length_drop]
  omega
theorem mod16 (t : Int) : t % 16 ≤ 15 := by omega
theorem two_cast {a : Nat} : ((a + 2 : Nat) : Int) = (a : Int) + 2 := by omega
theorem tail_none {b : List Int} {rl : Nat} {most size t n x y : Int} {lit r3 : List Int} (h : ¬ (x + y * 256 = 0 ∨ size + n < x + y * 256)) (hL : lenH (t % 16) r3 = none) : tailS b.length most size t rl n lit (x :: y :: r3) = .fail 6 b.length := by
  simp only [tailS, hL]
  rw [if_neg h]
theorem tail_some {N : Nat} {rl : Nat} {most size t n x y m : Int} {lit r3 r4 : List Int} (h : ¬ (x + y * 256 = 0 ∨ size + n < x + y * 256)) (hL : lenH (t % 16) r3 = some (m, r4)) : tailS N most size t rl n lit (x :: y :: r3) = if most - (size + n) < m + 4 then .fail 2 ((N : Int) - (rl + 1)) else .seq lit (x + y * 256) (m + 4) r4 := by
  simp only [tailS, hL]
  rw [if_neg h]
theorem next_idx {N ee : Nat} (h : ee + 1 < N) (hN : N ≤ 1000000) : ∃ ef : Nat, wrap64 ((ee : Int) + 1) = (ef : Int) ∧ ef < N ∧ ef = ee + 1 := ⟨ee + 1, by unfold wrap64; omega, h, rfl⟩
theorem idx_lt {N ee : Nat} (h : ee + 2 ≤ N) : (ee : Int) < (N : Int) := by omega
theorem add_cast {a b e : Nat} (h : e = a + b) : (a : Int) + (b : Int) = (e : Int) := by omega
theorem slice_bounds {N at2 nn c : Nat} (c4 : (nn : Int) ≤ (N : Int) - (at2 : Int)) (hcap : N ≤ c) (hN : N ≤ 1000000) : ∃ ee : Nat, wrap64 ((at2 : Int) + (nn : Int)) = (ee : Int) ∧ at2 ≤ ee ∧ ee ≤ c ∧ ee - at2 = nn ∧ ee ≤ N ∧ ee = at2 + nn :=
  ⟨at2 + nn, by unfold wrap64; omega, by omega, by omega, by omega, by omega, rfl⟩
theorem lit_reads {w0 : World} {base at2 nn c c8 ee : Nat} {ad : Addr} {A8 : Option Addr} {b r1 : List Int} (hA : A8 = (if c = at2 then some ad else some (ad.add at2))) (hc8 : c8 = c - at2) (hr : r1 = b.drop at2) (h2 : at2 ≤ b.length) (hee : ee = at2 + nn) (he : ee ≤ b.length) (hcap : b.length ≤ c) (hC : ∀ w', Below base w0 w' → Kd.C (Kd.int .u8) w' (some ad) b.length b) :
    (r1.take nn).length = nn ∧ nn ≤ c8 ∧ ∀ w1, Below base w0 w1 → Kd.C (Kd.int .u8) w1 A8 (r1.take nn).length (r1.take nn) := by
  subst hr
  have hl : ((b.drop at2).take nn).length = nn := by simp; omega
  refine ⟨hl, by omega, fun w1 hB => ?_⟩
  have h := Kd.C_mid (lo := at2) (hi := at2 + nn) (c := c) (hC w1 hB) (by omega) (by omega) hcap
  have e : (b.take (at2 + nn)).drop at2 = (b.drop at2).take nn := by rw [List.drop_take, Nat.add_sub_cancel_left]
  rw [e] at h
  rw [hA]
  simpa [Kd.int, Kd.scalar] using h
/-- What next answers. -/
def NextPost (w0 w : World) (base g : Nat) (A : Option Addr) (b : List Int) (c : Nat) (most size bad : Int) (st : Step) (e : Ending) (w' : World) : Prop :=
  Below base w0 w' ∧ w.heap.size ≤ w'.heap.size ∧ (∀ k, k ≠ g → k < w.heap.size → w'.heap[k]? = w.heap[k]?) ∧ match st with
    | .fail er p => (∃ (A2 : Option Addr) (n2 c2 : Nat) (x y : Int), e = .returned (.tuple #[.agg #[.slice A2 n2 c2, .int .i64 x, .int .i64 y], .bool false])) ∧ ∃ at2 s2, RD w' g A b.length c at2 s2 most er p
    | .last lit => ∃ A2 c2, e = .returned (.tuple #[.agg #[.slice A2 lit.length c2, .int .i64 0, .int .i64 0], .bool true]) ∧ RD w' g A b.length c b.length (size + lit.length) most 0 bad ∧ (∀ w1, Below base w0 w1 → Kd.C (Kd.int .u8) w1 A2 lit.length lit) ∧ lit.length ≤ c2
    | .seq lit off len rest => ∃ A2 c2 at2, e = .returned (.tuple #[.agg #[.slice A2 lit.length c2, .int .i64 off, .int .i64 len], .bool true]) ∧ RD w' g A b.length c (at2 : Nat) (size + lit.length + len) most 0 bad ∧ rest = b.drop at2 ∧ at2 ≤ b.length ∧ (∀ w1, Below base w0 w1 → Kd.C (Kd.int .u8) w1 A2 lit.length lit) ∧ lit.length ≤ c2
theorem next_fail {w0 w w' : World} {base g sb : Nat} {A : Option Addr} {b : List Int} {c : Nat} {most size bad : Int} {st : Step} {at2 s2 er p : Int} {sl : Value} {so sn x y : Int} {A2 : Option Addr} {n2 c2 : Nat} (h : SN w0 w base g sb A b.length c most w' at2 s2 er p sl so sn) (hst : st = .fail er p) : NextPost w0 w base g A b c most size bad st (.returned (.tuple #[.agg #[.slice A2 n2 c2, .int .i64 x, .int .i64 y], .bool false])) w' := by
  subst hst
  exact ⟨h.2.2.1, h.2.2.2.1, h.2.2.2.2, ⟨A2, n2, c2, x, y, rfl⟩, at2, s2, h.1⟩
theorem next_last {w0 w w' : World} {base g sb nn ee c8 : Nat} {A A8 : Option Addr} {b r1 : List Int} {c : Nat} {most size bad : Int} {st : Step} (h : SN w0 w base g sb A b.length c most w' (ee : Nat) (size + (nn : Nat)) 0 bad (.slice A8 nn c8) 0 0) (hst : st = .last (r1.take nn)) (hl : (r1.take nn).length = nn ∧ nn ≤ c8 ∧ ∀ w1, Below base w0 w1 → Kd.C (Kd.int .u8) w1 A8 (r1.take nn).length (r1.take nn)) (he : ee = b.length) : NextPost w0 w base g A b c most size bad st (.returned (.tuple #[.agg #[.slice A8 nn c8, .int .i64 0, .int .i64 0], .bool true])) w' := by
  subst hst
  have hR : RD w' g A b.length c b.length (size + ((r1.take nn).length : Nat)) most 0 bad := by rw [hl.1]; have h1 := h.1; rw [he] at h1; exact h1
  exact ⟨h.2.2.1, h.2.2.2.1, h.2.2.2.2, A8, c8, by rw [hl.1], hR, hl.2.2, by rw [hl.1]; exact hl.2.1⟩
theorem next_seq {w0 w w' : World} {base g sb nn at3 c8 : Nat} {A A8 : Option Addr} {b r1 r4 : List Int} {c : Nat} {most size bad off m : Int} {st : Step} (h : SN w0 w base g sb A b.length c most w' (at3 : Nat) (size + (nn : Nat) + (m + 4)) 0 bad (.slice A8 nn c8) off (m + 4)) (hst : st = .seq (r1.take nn) off (m + 4) r4) (hl : (r1.take nn).length = nn ∧ nn ≤ c8 ∧ ∀ w1, Below base w0 w1 → Kd.C (Kd.int .u8) w1 A8 (r1.take nn).length (r1.take nn)) (hr : r4 = b.drop at3) (ha : at3 ≤ b.length) : NextPost w0 w base g A b c most size bad st (.returned (.tuple #[.agg #[.slice A8 nn c8, .int .i64 off, .int .i64 (m + 4)], .bool true])) w' := by
  subst hst
  have hR : RD w' g A b.length c at3 (size + ((r1.take nn).length : Nat) + (m + 4)) most 0 bad := by rw [hl.1]; exact h.1
  exact ⟨h.2.2.1, h.2.2.2.1, h.2.2.2.2, A8, c8, at3, by rw [hl.1], hR, hr, ha, hl.2.2, by rw [hl.1]; exact hl.2.1⟩
set_option maxHeartbeats 8000000 in
set_option maxRecDepth 100000 in
theorem next_any {w0 w : World} {base g : Nat} {A : Option Addr} {c at_ : Nat} {size most bad : Int} {b : List Int} (h : RD w g A b.length c at_ size most 0 bad) (HB : Below base w0 w) (hg : base ≤ g) (hC : ∀ w', Below base w0 w' → Kd.C (Kd.int .u8) w' A b.length b) (hb : isB b) (hN : b.length ≤ 1000000) (ha : at_ ≤ b.length) (hs : 0 ≤ size) (hsm : size ≤ most) (hm2 : most ≤ 1048576) (hcap : b.length ≤ c) :
    Calls Try.prog 79 #[.pointer (some ⟨g, 0, none⟩)] w fun e w' => NextPost w0 w base g A b c most size bad (step b.length most size (b.drop at_)) e w' := by
  have hgw : g < w.heap.size := (Array.getElem?_eq_some_iff.1 h).1
  have KS0 : Aside0 (SN w0 w base g w.heap.size A b.length c most (w.alloc (.cells #[.slice none 0 0, .int .i64 0, .int .i64 0] 114)) at_ size 0 bad (.slice none 0 0) 0 0) := ⟨by
    refine ⟨?_, heap_alloc_new _ _, below_then HB (by omega) (below_alloc (Below.refl _ _) _), by simp, fun k _ hk => Below.heap_alloc _ _ _ hk⟩
    show (w.alloc _).heap[g]? = _
    rw [Below.heap_alloc _ _ _ hgw]
    exact h⟩
  have KC := Aside0.mk hC
  have Kb := Aside0.mk hb
  obtain ⟨W1, hW1⟩ : ∃ W1, W1 = w.alloc (.cells #[.slice none 0 0, .int .i64 0, .int .i64 0] 114) := ⟨_, rfl⟩
  obtain ⟨sb, hsb⟩ : ∃ sb, sb = w.heap.size := ⟨_, rfl⟩
  rw [← hW1, ← hsb] at KS0
  have hsg : sb ≠ g := by omega
  have hsb2 : w.heap.size ≤ sb := by omega
  have hsb3 : base ≤ sb := by omega
  have KW1 := Aside0.mk hW1
  have Ksb := Aside0.mk hsb
  have hcw := RD_cells h
  have Kcw := Aside0.mk hcw
  clear h HB hC hb hW1 hsb hcw
  go_enter Try.func79, Try.ntmps79
  obtain ⟨x0, x1, x2, x3, x4, x5⟩ := Kcw.out
  go_wp2
  rw [← KW1.out, ← Ksb.out]
  clear x0 x1 x2 x3 x4 x5
  by_cases c1 : at_ = b.length
  · subst c1
    have Kst : Aside0 (step b.length most size (b.drop b.length) = .fail 6 b.length) := ⟨by rw [List.drop_length]; rfl⟩
    obtain ⟨h0, h1, h2, h3, h4, h5⟩ := RD_cells (SN_rd KS0.out)
    go_quiet (fail)
    obtain ⟨W2, hW⟩ : ∃ W2, W2 = W1.drewN nq := ⟨_, rfl⟩
    rw [← hW]
    have KS2 : Aside0 (SN w0 w base g sb A b.length c most W2 b.length size 0 bad (.slice none 0 0) 0 0) := ⟨by rw [hW]; exact SN_drewN KS0.out nq⟩
    clear hW h0 h1 h2 h3 h4 h5
    obtain ⟨h0, h1, h2, h3, h4, h5⟩ := RD_cells (SN_rd KS2.out)
    go_wp2
    refine start_ (n := 10) (S := fun w' => w'.heap[sb]? = some (.cells #[.slice none 0 0, .int .i64 0, .int .i64 0] 114 (0, 0)) ∧ w'.cell? ⟨g, 0, none⟩ = some (.slice A b.length c)) (ds := [8]) #[false, false, false, false, false, false, false, false, false, false] (by kernel_rfl) rfl rfl ⟨(show W2.heap[sb]? = _ from (SN_row KS2.out)), (show W2.cell? _ = _ from h0)⟩ (fun hHeld => ?_)
    refine pure_ (i := 1) (N := some 22) (v := ?_) (a' := ?_) #[false, true, false, false, false, false, false, false, false, false] rfl rfl (by kernel_rfl) (fun _ _ _ h => h) (Or.inl ⟨by rfl, ?_⟩) ?_ ?_
    rotate_left
    · intro w'
      go_simp
      with_reducible rfl
    rotate_left
    · simp only [Act.put, List.setIfInBounds_toArray, List.set_cons_zero, List.set_cons_succ, i64_w, i32_w]
      rfl
    refine pure_ (i := 2) (N := some 23) (v := ?_) (a' := ?_) #[false, true, true, false, false, false, false, false, false, false] rfl rfl (by kernel_rfl) (fun _ _ _ h => h) (Or.inl ⟨by rfl, ?_⟩) ?_ ?_
    rotate_left
    · intro w'
      go_simp
      with_reducible rfl
    rotate_left
    · simp only [Act.put, List.setIfInBounds_toArray, List.set_cons_zero, List.set_cons_succ, i64_w, i32_w]
      rfl
    refine pure_ (i := 3) (N := some 24) (v := ?_) (a' := ?_) #[false, true, true, true, false, false, false, false, false, false] rfl rfl (by kernel_rfl) (fun _ _ _ h => h) (Or.inl ⟨by rfl, ?_⟩) ?_ ?_
    rotate_left
    · intro w'
      go_simp
      with_reducible rfl
    rotate_left
    · simp only [Act.put, List.setIfInBounds_toArray, List.set_cons_zero, List.set_cons_succ, i64_w, i32_w]
      rfl
    refine pure_ (i := 4) (N := some 25) (v := ?_) (a' := ?_) #[false, true, true, true, true, false, false, false, false, false] rfl rfl (by kernel_rfl) (fun _ _ _ h => h) (Or.inl ⟨by rfl, ?_⟩) ?_ ?_
    rotate_left
    · intro w'
      go_simp
      with_reducible rfl
    rotate_left
    · simp only [Act.put, List.setIfInBounds_toArray, List.set_cons_zero, List.set_cons_succ, i64_w, i32_w]
      rfl
    refine take_ (i := 0) (N := some 21) (v := .agg #[.slice none 0 0, .int .i64 0, .int .i64 0]) (a' := ?_) #[true, true, true, true, true, false, false, false, false, false] rfl rfl (by kernel_rfl) (fun _ _ _ h => h) (Or.inl ⟨by rfl, ?_⟩) hHeld ?_ ?_
    · rintro w' ⟨s0, s1⟩
      exact Arr.exec_load_row 114 (Operand.tmp 2) (by rfl) sb (by rfl) _ _ _ _ s0 Try.underlying114 rfl seqSize
    rotate_left
    · simp only [Act.put, List.setIfInBounds_toArray, List.set_cons_zero, List.set_cons_succ, i64_w, i32_w]
      rfl
    refine take_ (i := 5) (N := some 26) (v := ?_) (a' := ?_) #[true, true, true, true, true, true, false, false, false, false] rfl rfl (by kernel_rfl) (fun _ _ _ h => h) (Or.inl ⟨by rfl, ?_⟩) hHeld ?_ ?_
    rotate_left
    · rintro w' ⟨s0, s1⟩
      go_simp
      with_reducible rfl
    rotate_left
    · simp only [Act.put, List.setIfInBounds_toArray, List.set_cons_zero, List.set_cons_succ, i64_w, i32_w]
      rfl
    refine pure_ (i := 6) (N := some 27) (v := ?_) (a' := ?_) #[true, true, true, true, true, true, true, false, false, false] rfl rfl (by kernel_rfl) (fun _ _ _ h => h) (Or.inl ⟨by rfl, ?_⟩) ?_ ?_
    rotate_left
    · intro w'
      go_simp
      with_reducible rfl
    rotate_left
    · simp only [Act.put, List.setIfInBounds_toArray, List.set_cons_zero, List.set_cons_succ, i64_w, i32_w]
      rfl
    refine one_ (i := 7) (N := some 28) #[true, true, true, true, true, true, true, true, false, false] rfl rfl (by kernel_rfl) (by decide) (fun K hK => ?_)
    refine goes_ Try.func84 (by kernel_rfl) rfl #[.pointer (some ⟨g, 0, none⟩), .int .i64 6, .int .i64 b.length] (by rfl) rfl rfl (by simp only [List.map_toArray, List.map_cons, List.map_nil]; rfl) ?_
    with_reducible refine (fail_any (SN_rd (SN_drew KS2.out)) 6 b.length).mono ?_
    rintro e w4 ⟨rfl, hR4, hO4⟩
    refine ⟨_, rfl, ?_⟩
    have KF := Aside0.mk (SN_call (w1 := w4) (SN_drew KS2.out) hg hsg hR4 hO4)
    obtain ⟨y0, y1, y2, y3, y4, y5⟩ := SN_cells KF.out
    refine hK.out _ _ ⟨SN_row KF.out, (RD_cells (SN_rd KF.out)).1⟩ (fun hHeld => ?_)
    clear hK K
    refine norm_ (a' := ?_) ?_ ?_
    rotate_left
    · show Act.put _ (some 28) _ = _
      simp only [Act.put, List.setIfInBounds_toArray, List.set_cons_zero, List.set_cons_succ, i64_w, i32_w]
      rfl
    refine last_ (i := 8) (N := none) #[true, true, true, true, true, true, true, true, true, false] rfl rfl (by kernel_rfl) (by decide) (fun K hK => ?_)
    refine skip_ (w1 := ?_) (by rfl) rfl ?_ ?_
    rotate_left
    · go_simp
      rfl
    refine hK.out _ _ ?_
    clear hK K
    refine pure_ (i := 9) (N := some 3) (v := ?_) (a' := ?_) #[true, true, true, true, true, true, true, true, true, true] rfl rfl (by kernel_rfl) (fun _ _ _ h => h) (Or.inl ⟨by rfl, ?_⟩) ?_ ?_
    rotate_left
    · intro w'
      go_simp
      with_reducible rfl
    rotate_left
    · simp only [Act.put, List.setIfInBounds_toArray, List.set_cons_zero, List.set_cons_succ, i64_w, i32_w]
      rfl
    refine done_ (by kernel_rfl) ?_
    have KE := Aside0.mk (SN_s (SN_s (SN_s KF.out hsg hsb3 hsb2 0 (.slice none 0 0) rfl) hsg hsb3 hsb2 1 (.int .i64 0) rfl) hsg hsb3 hsb2 2 (.int .i64 0) rfl)
    go_wp2
    refine bodyPost_ret (results_list (rs := [.cell 2 114, .tmp 3]) rfl (by simp) (.cell sb 114 _ _ _ rfl (SN_row KE.out) Try.underlying114 rfl seqSize (.tmp .nil))) rfl ?_
    exact next_fail KE.out Kst.out
  have hlt : at_ < b.length := by omega
  obtain ⟨ad, hA, -⟩ := Kd.at_int (KC.out W1 (SN_base KS0.out)) (at_ : Int) (by omega) (by omega)
  subst hA
  obtain ⟨t, ht⟩ : ∃ t, t = b[at_] := ⟨_, rfl⟩
  have htb := Kb.out t (by rw [ht]; exact List.getElem_mem hlt)
  have Kdr : Aside0 (b.drop at_ = t :: b.drop (at_ + 1)) := ⟨by rw [ht]; exact drop_cons hlt⟩
  have hrt := rd_at hlt
  rw [← ht] at hrt
  have Krt := Aside0.mk hrt
  clear hrt ht
  have hne : ((at_ : Int) == (b.length : Int)) = false := by simp; omega
  obtain ⟨h0, h1, h2, h3, h4, h5⟩ := RD_cells (SN_rd KS0.out)
  go_quiet (fail)
  obtain ⟨W2, hW⟩ : ∃ W2, W2 = W1.drewN nq := ⟨_, rfl⟩
  rw [← hW]
  have KS2 : Aside0 (SN w0 w base g sb (some ad) b.length c most W2 at_ size 0 bad (.slice none 0 0) 0 0) := ⟨by rw [hW]; exact SN_drewN KS0.out nq⟩
  clear hW h0 h1 h2 h3 h4 h5
  obtain ⟨h0, h1, h2, h3, h4, h5⟩ := RD_cells (SN_rd KS2.out)
  obtain ⟨ad', hA, hx⟩ := Kd.at_int (KC.out W2 (SN_base KS2.out)) (at_ : Int) (by omega) (by omega)
  injection hA with hA
  subst hA
  rw [Krt.out, Int.toNat_natCast] at hx
  go_wp2
  go_quiet (fail)
  obtain ⟨W3, hW⟩ : ∃ W3, W3 = W2.drewN nq := ⟨_, rfl⟩
  rw [← hW]
  have KS3 : Aside0 (SN w0 w base g sb (some ad) b.length c most W3 at_ size 0 bad (.slice none 0 0) 0 0) := ⟨by rw [hW]; exact SN_drewN KS2.out nq⟩
  clear hW h0 h1 h2 h3 h4 h5
  obtain ⟨h0, h1, h2, h3, h4, h5⟩ := RD_cells (SN_rd KS3.out)
  have f1 := RD_frz (SN_rd KS3.out) 1
  clear hx
  have KS4' := Aside0.mk (SN_set (at2 := (at_ : Int) + 1) (size2 := size) KS3.out hg hsg 1 ((at_ : Int) + 1) rfl)
  cases hL : lenH (t / 16) (b.drop (at_ + 1)) with
  | none =>
    have Kst : Aside0 (step b.length most size (b.drop at_) = .fail 6 b.length) := ⟨by rw [Kdr.out]; simp only [step, hL]⟩
    have KL := Aside0.mk hL
    clear hL
    go_wp2_with (go_at_call 85; obtain ⟨W4, hW4⟩ : ∃ W4, W4 = W3.setCell ⟨g, 1, none⟩ (.int .i64 ((at_ : Int) + 1)) := ⟨_, rfl⟩; rw [← hW4]; have KS4 : Aside0 (SN w0 w base g sb (some ad) b.length c most W4 ((at_ + 1 : Nat) : Int) size 0 bad (.slice none 0 0) 0 0) := ⟨(by rw [hW4, show ((at_ + 1 : Nat) : Int) = (at_ : Int) + 1 by omega]; exact KS4'.out)⟩; clear hW4; refine (length_any (SN_rd KS4.out) (SN_base KS4.out) hg KC.out Kb.out (by omega) (by omega) (t / 16) (by omega) (by omega)).mono ?_; rintro e w5 ⟨hO5, h6⟩; have h6 := h6.resolve_right (by rintro ⟨m, at2, hm, -⟩; rw [KL.out] at hm; cases hm); obtain ⟨-, rfl, at2, hR⟩ := h6; have KF := Aside0.mk (SN_call (w1 := w5) KS4.out hg hsg hR hO5); obtain ⟨y0, y1, y2, y3, y4, y5⟩ := SN_cells KF.out; clear hR hO5)
    have KE := Aside0.mk (SN_s (SN_s (SN_s KF.out hsg hsb3 hsb2 0 (.slice none 0 0) rfl) hsg hsb3 hsb2 1 (.int .i64 0) rfl) hsg hsb3 hsb2 2 (.int .i64 0) rfl)
    refine bodyPost_ret (results_list (rs := [.cell 2 114, .tmp 3]) rfl (by simp) (.cell sb 114 _ _ _ rfl (SN_row KE.out) Try.underlying114 rfl seqSize (.tmp .nil))) rfl ?_
    exact next_fail KE.out Kst.out
  | some p =>
    obtain ⟨n0, r1⟩ := p
    have KL := Aside0.mk hL
    clear hL
    by_cases c3 : most - size < n0
    · have Kst : Aside0 (step b.length most size (b.drop at_) = .fail 2 at_) := ⟨by
        rw [Kdr.out]
        simp only [step, KL.out]
        rw [if_pos c3, List.length_drop, show ((b.length : Int) - (((b.length - (at_ + 1) : Nat) : Int) + 1)) = at_ by omega]⟩
      go_wp2_with (first | (go_at_call 85; obtain ⟨W4, hW4⟩ : ∃ W4, W4 = W3.setCell ⟨g, 1, none⟩ (.int .i64 ((at_ : Int) + 1)) := ⟨_, rfl⟩; rw [← hW4]; have KS4 : Aside0 (SN w0 w base g sb (some ad) b.length c most W4 ((at_ + 1 : Nat) : Int) size 0 bad (.slice none 0 0) 0 0) := ⟨(by rw [hW4, show ((at_ + 1 : Nat) : Int) = (at_ : Int) + 1 by omega]; exact KS4'.out)⟩; clear hW4; refine (length_any (SN_rd KS4.out) (SN_base KS4.out) hg KC.out Kb.out (by omega) (by omega) (t / 16) (by omega) (by omega)).mono ?_; rintro e w5 ⟨hO5, h6⟩; have h6 := h6.resolve_left (by rintro ⟨h, -⟩; rw [KL.out] at h; cases h); obtain ⟨n1, at2, hm, hat1, hat2, hn0, hn1, rfl, hR⟩ := h6; rw [KL.out] at hm; simp only [Option.some.injEq, Prod.mk.injEq] at hm; obtain ⟨hnn, hr1⟩ := hm; subst hnn; have KS5 := Aside0.mk (SN_call (w1 := w5) KS4.out hg hsg hR hO5); clear hR hO5) | (go_at_call 86; refine (room_any (SN_rd KS5.out) n0 at_ hn0 (by omega) hs hsm (by omega)).mono ?_; rintro e w6 ⟨hO6, h7⟩; have h7 := h7.resolve_left (by rintro ⟨h, -⟩; omega); obtain ⟨-, rfl, hR6⟩ := h7; have KF := Aside0.mk (SN_call (w1 := w6) KS5.out hg hsg hR6 hO6); obtain ⟨y0, y1, y2, y3, y4, y5⟩ := SN_cells KF.out; clear hR6 hO6))
      have KE := Aside0.mk (SN_s (SN_s (SN_s KF.out hsg hsb3 hsb2 0 (.slice none 0 0) rfl) hsg hsb3 hsb2 1 (.int .i64 0) rfl) hsg hsb3 hsb2 2 (.int .i64 0) rfl)
      refine bodyPost_ret (results_list (rs := [.cell 2 114, .tmp 3]) rfl (by simp) (.cell sb 114 _ _ _ rfl (SN_row KE.out) Try.underlying114 rfl seqSize (.tmp .nil))) rfl ?_
      exact next_fail KE.out Kst.out
    go_wp2_with (first | (go_at_call 85; obtain ⟨W4, hW4⟩ : ∃ W4, W4 = W3.setCell ⟨g, 1, none⟩ (.int .i64 ((at_ : Int) + 1)) := ⟨_, rfl⟩; rw [← hW4]; have KS4 : Aside0 (SN w0 w base g sb (some ad) b.length c most W4 ((at_ + 1 : Nat) : Int) size 0 bad (.slice none 0 0) 0 0) := ⟨(by rw [hW4, show ((at_ + 1 : Nat) : Int) = (at_ : Int) + 1 by omega]; exact KS4'.out)⟩; clear hW4; refine (length_any (SN_rd KS4.out) (SN_base KS4.out) hg KC.out Kb.out (by omega) (by omega) (t / 16) (by omega) (by omega)).mono ?_; rintro e w5 ⟨hO5, h6⟩; have h6 := h6.resolve_left (by rintro ⟨h, -⟩; rw [KL.out] at h; cases h); obtain ⟨n1, at2, hm, hat1, hat2, hn0, hn1, rfl, hR⟩ := h6; rw [KL.out] at hm; simp only [Option.some.injEq, Prod.mk.injEq] at hm; obtain ⟨hnn, hr1⟩ := hm; subst hnn; have KS5 := Aside0.mk (SN_call (w1 := w5) KS4.out hg hsg hR hO5); clear hR hO5) | (go_at_call 86; refine (room_any (SN_rd KS5.out) n0 at_ hn0 (by omega) hs hsm (by omega)).mono ?_; rintro e w6 ⟨hO6, h7⟩; have h7 := h7.resolve_right (by rintro ⟨h, -⟩; omega); obtain ⟨-, rfl, hR6⟩ := h7; have KS6 := Aside0.mk (SN_call (w1 := w6) KS5.out hg hsg hR6 hO6); clear hR6 hO6))
    obtain ⟨nn, rfl⟩ := Int.eq_ofNat_of_zero_le hn0
    clear h0 h1 h2 h3 h4 h5 f1
    obtain ⟨h0, h1, h2, h3, h4, h5⟩ := RD_cells (SN_rd KS6.out)
    have Kr1 : Aside0 (r1 = b.drop at2) := ⟨hr1⟩
    clear hr1
    have Kc3 : Aside0 ((nn : Int) ≤ most - size) := ⟨by omega⟩
    by_cases c4 : (b.length : Int) - at2 < nn
    · have Kst : Aside0 (step b.length most size (b.drop at_) = .fail 6 b.length) := ⟨by
        rw [Kdr.out]
        simp only [step, KL.out]
        have h3 := Kc3.out
        rw [if_neg (by omega), if_pos (by rw [Kr1.out, List.length_drop]; omega)]⟩
      go_quiet (fail)
      obtain ⟨W7, hW⟩ : ∃ W7, W7 = w6.drewN nq := ⟨_, rfl⟩
      rw [← hW]
      have KS7 : Aside0 (SN w0 w base g sb (some ad) b.length c most W7 at2 (size + (nn : Nat)) 0 bad (.slice none 0 0) 0 0) := ⟨by rw [hW]; exact SN_drewN KS6.out nq⟩
      clear hW h0 h1 h2 h3 h4 h5
      obtain ⟨h0, h1, h2, h3, h4, h5⟩ := RD_cells (SN_rd KS7.out)
      go_wp2
      refine start_ (n := 10) (S := fun w' => w'.heap[sb]? = some (.cells #[.slice none 0 0, .int .i64 0, .int .i64 0] 114 (0, 0)) ∧ w'.cell? ⟨g, 0, none⟩ = some (.slice (some ad) b.length c)) (ds := [8]) #[false, false, false, false, false, false, false, false, false, false] (by kernel_rfl) rfl rfl ⟨(show W7.heap[sb]? = _ from (SN_row KS7.out)), (show W7.cell? _ = _ from h0)⟩ (fun hHeld => ?_)
      refine pure_ (i := 1) (N := some 77) (v := ?_) (a' := ?_) #[false, true, false, false, false, false, false, false, false, false] rfl rfl (by kernel_rfl) (fun _ _ _ h => h) (Or.inl ⟨by rfl, ?_⟩) ?_ ?_
      rotate_left
      · intro w'
        go_simp
        with_reducible rfl
      rotate_left
      · simp only [Act.put, List.setIfInBounds_toArray, List.set_cons_zero, List.set_cons_succ, i64_w, i32_w]
        rfl
      refine pure_ (i := 2) (N := some 78) (v := ?_) (a' := ?_) #[false, true, true, false, false, false, false, false, false, false] rfl rfl (by kernel_rfl) (fun _ _ _ h => h) (Or.inl ⟨by rfl, ?_⟩) ?_ ?_
      rotate_left
      · intro w'
        go_simp
        with_reducible rfl
      rotate_left
      · simp only [Act.put, List.setIfInBounds_toArray, List.set_cons_zero, List.set_cons_succ, i64_w, i32_w]
        rfl
      refine pure_ (i := 3) (N := some 79) (v := ?_) (a' := ?_) #[false, true, true, true, false, false, false, false, false, false] rfl rfl (by kernel_rfl) (fun _ _ _ h => h) (Or.inl ⟨by rfl, ?_⟩) ?_ ?_
      rotate_left
      · intro w'
        go_simp
        with_reducible rfl
      rotate_left
      · simp only [Act.put, List.setIfInBounds_toArray, List.set_cons_zero, List.set_cons_succ, i64_w, i32_w]
        rfl
      refine pure_ (i := 4) (N := some 80) (v := ?_) (a' := ?_) #[false, true, true, true, true, false, false, false, false, false] rfl rfl (by kernel_rfl) (fun _ _ _ h => h) (Or.inl ⟨by rfl, ?_⟩) ?_ ?_
      rotate_left
      · intro w'
        go_simp
        with_reducible rfl
      rotate_left
      · simp only [Act.put, List.setIfInBounds_toArray, List.set_cons_zero, List.set_cons_succ, i64_w, i32_w]
        rfl
      refine take_ (i := 0) (N := some 76) (v := .agg #[.slice none 0 0, .int .i64 0, .int .i64 0]) (a' := ?_) #[true, true, true, true, true, false, false, false, false, false] rfl rfl (by kernel_rfl) (fun _ _ _ h => h) (Or.inl ⟨by rfl, ?_⟩) hHeld ?_ ?_
      · rintro w' ⟨s0, s1⟩
        exact Arr.exec_load_row 114 (Operand.tmp 2) (by rfl) sb (by rfl) _ _ _ _ s0 Try.underlying114 rfl seqSize
      rotate_left
      · simp only [Act.put, List.setIfInBounds_toArray, List.set_cons_zero, List.set_cons_succ, i64_w, i32_w]
        rfl
      refine take_ (i := 5) (N := some 81) (v := ?_) (a' := ?_) #[true, true, true, true, true, true, false, false, false, false] rfl rfl (by kernel_rfl) (fun _ _ _ h => h) (Or.inl ⟨by rfl, ?_⟩) hHeld ?_ ?_
      rotate_left
      · rintro w' ⟨s0, s1⟩
        go_simp
        with_reducible rfl
      rotate_left
      · simp only [Act.put, List.setIfInBounds_toArray, List.set_cons_zero, List.set_cons_succ, i64_w, i32_w]
        rfl
      refine pure_ (i := 6) (N := some 82) (v := ?_) (a' := ?_) #[true, true, true, true, true, true, true, false, false, false] rfl rfl (by kernel_rfl) (fun _ _ _ h => h) (Or.inl ⟨by rfl, ?_⟩) ?_ ?_
      rotate_left
      · intro w'
        go_simp
        with_reducible rfl
      rotate_left
      · simp only [Act.put, List.setIfInBounds_toArray, List.set_cons_zero, List.set_cons_succ, i64_w, i32_w]
        rfl
      refine one_ (i := 7) (N := some 83) #[true, true, true, true, true, true, true, true, false, false] rfl rfl (by kernel_rfl) (by decide) (fun K hK => ?_)
      refine goes_ Try.func84 (by kernel_rfl) rfl #[.pointer (some ⟨g, 0, none⟩), .int .i64 6, .int .i64 b.length] (by rfl) rfl rfl (by simp only [List.map_toArray, List.map_cons, List.map_nil]; rfl) ?_
      with_reducible refine (fail_any (SN_rd (SN_drew KS7.out)) 6 b.length).mono ?_
      rintro e w4 ⟨rfl, hR4, hO4⟩
      refine ⟨_, rfl, ?_⟩
      have KF := Aside0.mk (SN_call (w1 := w4) (SN_drew KS7.out) hg hsg hR4 hO4)
      obtain ⟨y0, y1, y2, y3, y4, y5⟩ := SN_cells KF.out
      refine hK.out _ _ ⟨SN_row KF.out, (RD_cells (SN_rd KF.out)).1⟩ (fun hHeld => ?_)
      clear hK K
      refine norm_ (a' := ?_) ?_ ?_
      rotate_left
      · show Act.put _ (some 83) _ = _
        simp only [Act.put, List.setIfInBounds_toArray, List.set_cons_zero, List.set_cons_succ, i64_w, i32_w]
        rfl
      refine last_ (i := 8) (N := none) #[true, true, true, true, true, true, true, true, true, false] rfl rfl (by kernel_rfl) (by decide) (fun K hK => ?_)
      refine skip_ (w1 := ?_) (by rfl) rfl ?_ ?_
      rotate_left
      · go_simp
        rfl
      refine hK.out _ _ ?_
      clear hK K
      refine pure_ (i := 9) (N := some 3) (v := ?_) (a' := ?_) #[true, true, true, true, true, true, true, true, true, true] rfl rfl (by kernel_rfl) (fun _ _ _ h => h) (Or.inl ⟨by rfl, ?_⟩) ?_ ?_
      rotate_left
      · intro w'
        go_simp
        with_reducible rfl
      rotate_left
      · simp only [Act.put, List.setIfInBounds_toArray, List.set_cons_zero, List.set_cons_succ, i64_w, i32_w]
        rfl
      refine done_ (by kernel_rfl) ?_
      have KE := Aside0.mk (SN_s (SN_s (SN_s KF.out hsg hsb3 hsb2 0 (.slice none 0 0) rfl) hsg hsb3 hsb2 1 (.int .i64 0) rfl) hsg hsb3 hsb2 2 (.int .i64 0) rfl)
      go_wp2
      refine bodyPost_ret (results_list (rs := [.cell 2 114, .tmp 3]) rfl (by simp) (.cell sb 114 _ _ _ rfl (SN_row KE.out) Try.underlying114 rfl seqSize (.tmp .nil))) rfl ?_
      exact next_fail KE.out Kst.out
    go_quiet (fail)
    obtain ⟨W7, hW⟩ : ∃ W7, W7 = w6.drewN nq := ⟨_, rfl⟩
    rw [← hW]
    have KS7 : Aside0 (SN w0 w base g sb (some ad) b.length c most W7 at2 (size + (nn : Nat)) 0 bad (.slice none 0 0) 0 0) := ⟨by rw [hW]; exact SN_drewN KS6.out nq⟩
    clear hW h0 h1 h2 h3 h4 h5
    obtain ⟨h0, h1, h2, h3, h4, h5⟩ := RD_cells (SN_rd KS7.out)
    go_wp2
    obtain ⟨y0, y1, y2, y3, y4, y5⟩ := SN_cells KS7.out
    have Kc4 : Aside0 ((nn : Int) ≤ (r1.length : Int)) := ⟨by rw [Kr1.out, List.length_drop]; omega⟩
    obtain ⟨ee, hw, he1, he2, he3, he4, hee⟩ := slice_bounds c4 hcap hN
    have Kee := Aside0.mk hee
    clear hee
    refine start_ (n := 17) (S := fun w' => w'.cell? ⟨g, 0, none⟩ = some (.slice (some ad) b.length c) ∧ w'.cell? ⟨g, 1, none⟩ = some (.int .i64 at2)) (ds := [16]) #[false, false, false, false, false, false, false, false, false, false, false, false, false, false, false, false, false] (by kernel_rfl) rfl rfl ⟨(show W7.cell? _ = _ from h0), (show W7.cell? _ = _ from h1)⟩ (fun hHeld => ?_)
    refine pure_ (i := 0) (N := some 84) (v := ?_) (a' := ?_) #[true, false, false, false, false, false, false, false, false, false, false, false, false, false, false, false, false] rfl rfl (by kernel_rfl) (fun _ _ _ h => h) (Or.inl ⟨by rfl, ?_⟩) ?_ ?_
    rotate_left
    · intro w'
      go_simp
      with_reducible rfl
    rotate_left
    · simp only [Act.put, List.setIfInBounds_toArray, List.set_cons_zero, List.set_cons_succ, i64_w, i32_w]
      rfl
    refine pure_ (i := 1) (N := some 85) (v := ?_) (a' := ?_) #[true, true, false, false, false, false, false, false, false, false, false, false, false, false, false, false, false] rfl rfl (by kernel_rfl) (fun _ _ _ h => h) (Or.inl ⟨by rfl, ?_⟩) ?_ ?_
    rotate_left
    · intro w'
      go_simp
      with_reducible rfl
    rotate_left
    · simp only [Act.put, List.setIfInBounds_toArray, List.set_cons_zero, List.set_cons_succ, i64_w, i32_w]
      rfl
    refine pure_ (i := 2) (N := some 86) (v := ?_) (a' := ?_) #[true, true, true, false, false, false, false, false, false, false, false, false, false, false, false, false, false] rfl rfl (by kernel_rfl) (fun _ _ _ h => h) (Or.inl ⟨by rfl, ?_⟩) ?_ ?_
    rotate_left
    · intro w'
      go_simp
      with_reducible rfl
    rotate_left
    · simp only [Act.put, List.setIfInBounds_toArray, List.set_cons_zero, List.set_cons_succ, i64_w, i32_w]
      rfl
    refine pure_ (i := 4) (N := some 88) (v := ?_) (a' := ?_) #[true, true, true, false, true, false, false, false, false, false, false, false, false, false, false, false, false] rfl rfl (by kernel_rfl) (fun _ _ _ h => h) (Or.inl ⟨by rfl, ?_⟩) ?_ ?_
    rotate_left
    · intro w'
      go_simp
      with_reducible rfl
    rotate_left
    · simp only [Act.put, List.setIfInBounds_toArray, List.set_cons_zero, List.set_cons_succ, i64_w, i32_w]
      rfl
    refine pure_ (i := 5) (N := some 89) (v := ?_) (a' := ?_) #[true, true, true, false, true, true, false, false, false, false, false, false, false, false, false, false, false] rfl rfl (by kernel_rfl) (fun _ _ _ h => h) (Or.inl ⟨by rfl, ?_⟩) ?_ ?_
    rotate_left
    · intro w'
      go_simp
      with_reducible rfl
    rotate_left
    · simp only [Act.put, List.setIfInBounds_toArray, List.set_cons_zero, List.set_cons_succ, i64_w, i32_w]
      rfl
    refine pure_ (i := 6) (N := some 90) (v := ?_) (a' := ?_) #[true, true, true, false, true, true, true, false, false, false, false, false, false, false, false, false, false] rfl rfl (by kernel_rfl) (fun _ _ _ h => h) (Or.inl ⟨by rfl, ?_⟩) ?_ ?_
    rotate_left
    · intro w'
      go_simp
      with_reducible rfl
    rotate_left
    · simp only [Act.put, List.setIfInBounds_toArray, List.set_cons_zero, List.set_cons_succ, i64_w, i32_w]
      rfl
    refine pure_ (i := 8) (N := some 92) (v := ?_) (a' := ?_) #[true, true, true, false, true, true, true, false, true, false, false, false, false, false, false, false, false] rfl rfl (by kernel_rfl) (fun _ _ _ h => h) (Or.inl ⟨by rfl, ?_⟩) ?_ ?_
    rotate_left
    · intro w'
      go_simp
      with_reducible rfl
    rotate_left
    · simp only [Act.put, List.setIfInBounds_toArray, List.set_cons_zero, List.set_cons_succ, i64_w, i32_w]
      rfl
    refine pure_ (i := 9) (N := some 93) (v := ?_) (a' := ?_) #[true, true, true, false, true, true, true, false, true, true, false, false, false, false, false, false, false] rfl rfl (by kernel_rfl) (fun _ _ _ h => h) (Or.inl ⟨by rfl, ?_⟩) ?_ ?_
    rotate_left
    · intro w'
      go_simp
      with_reducible rfl
    rotate_left
    · simp only [Act.put, List.setIfInBounds_toArray, List.set_cons_zero, List.set_cons_succ, i64_w, i32_w]
      rfl
    refine pure_ (i := 10) (N := some 94) (v := ?_) (a' := ?_) #[true, true, true, false, true, true, true, false, true, true, true, false, false, false, false, false, false] rfl rfl (by kernel_rfl) (fun _ _ _ h => h) (Or.inl ⟨by rfl, ?_⟩) ?_ ?_
    rotate_left
    · intro w'
      go_simp
      with_reducible rfl
    rotate_left
    · simp only [Act.put, List.setIfInBounds_toArray, List.set_cons_zero, List.set_cons_succ, i64_w, i32_w]
      rfl
    refine pure_ (i := 12) (N := some 96) (v := ?_) (a' := ?_) #[true, true, true, false, true, true, true, false, true, true, true, false, true, false, false, false, false] rfl rfl (by kernel_rfl) (fun _ _ _ h => h) (Or.inl ⟨by rfl, ?_⟩) ?_ ?_
    rotate_left
    · intro w'
      go_simp
      with_reducible rfl
    rotate_left
    · simp only [Act.put, List.setIfInBounds_toArray, List.set_cons_zero, List.set_cons_succ, i64_w, i32_w]
      rfl
    refine take_ (i := 3) (N := some 87) (v := ?_) (a' := ?_) #[true, true, true, true, true, true, true, false, true, true, true, false, true, false, false, false, false] rfl rfl (by kernel_rfl) (fun _ _ _ h => h) (Or.inl ⟨by rfl, ?_⟩) hHeld ?_ ?_
    rotate_left
    · rintro w' ⟨s0, s1⟩
      go_simp
      with_reducible rfl
    rotate_left
    · simp only [Act.put, List.setIfInBounds_toArray, List.set_cons_zero, List.set_cons_succ, i64_w, i32_w]
      rfl
    refine take_ (i := 7) (N := some 91) (v := ?_) (a' := ?_) #[true, true, true, true, true, true, true, true, true, true, true, false, true, false, false, false, false] rfl rfl (by kernel_rfl) (fun _ _ _ h => h) (Or.inl ⟨by rfl, ?_⟩) hHeld ?_ ?_
    rotate_left
    · rintro w' ⟨s0, s1⟩
      go_simp
      with_reducible rfl
    rotate_left
    · simp only [Act.put, List.setIfInBounds_toArray, List.set_cons_zero, List.set_cons_succ, i64_w, i32_w]
      rfl
    refine take_ (i := 11) (N := some 95) (v := ?_) (a' := ?_) #[true, true, true, true, true, true, true, true, true, true, true, true, true, false, false, false, false] rfl rfl (by kernel_rfl) (fun _ _ _ h => h) (Or.inl ⟨by rfl, ?_⟩) hHeld ?_ ?_
    rotate_left
    · rintro w' ⟨s0, s1⟩
      go_simp
      with_reducible rfl
    rotate_left
    · simp only [Act.put, List.setIfInBounds_toArray, List.set_cons_zero, List.set_cons_succ, i64_w, i32_w]
      rfl
    refine pure_ (i := 13) (N := some 97) (v := ?_) (a' := ?_) #[true, true, true, true, true, true, true, true, true, true, true, true, true, true, false, false, false] rfl rfl (by kernel_rfl) (fun _ _ _ h => h) (Or.inl ⟨by rfl, ?_⟩) ?_ ?_
    rotate_left
    · intro w'
      go_simp
      with_reducible rfl
    rotate_left
    · simp only [Act.put, List.setIfInBounds_toArray, List.set_cons_zero, List.set_cons_succ, i64_w, i32_w]
      rfl
    refine pure_ (i := 14) (N := some 98) (v := ?_) (a' := ?_) #[true, true, true, true, true, true, true, true, true, true, true, true, true, true, true, false, false] rfl rfl (by kernel_rfl) (fun _ _ _ h => h) (Or.inl ⟨by rfl, ?_⟩) ?_ ?_
    rotate_left
    · intro w'
      go_simp
      with_reducible rfl
    rotate_left
    · simp only [Act.put, List.setIfInBounds_toArray, List.set_cons_zero, List.set_cons_succ, i64_w, i32_w]
      rfl
    refine pure_ (i := 15) (N := some 99) (v := ?_) (a' := ?_) #[true, true, true, true, true, true, true, true, true, true, true, true, true, true, true, true, false] rfl rfl (by kernel_rfl) (fun _ _ _ h => h) (Or.inl ⟨by rfl, ?_⟩) ?_ ?_
    rotate_left
    · intro w'
      go_simp
      with_reducible rfl
    rotate_left
    · simp only [Act.put, List.setIfInBounds_toArray, List.set_cons_zero, List.set_cons_succ, i64_w, i32_w]
      rfl
    refine last_ (i := 16) (N := none) #[true, true, true, true, true, true, true, true, true, true, true, true, true, true, true, true, true] rfl rfl (by kernel_rfl) (by decide) (fun K hK => ?_)
    refine skip_ (w1 := ?_) (by rfl) rfl ?_ ?_
    rotate_left
    · go_simp
      rfl
    refine hK.out _ _ ?_
    clear hK K
    refine done_ (by kernel_rfl) ?_
    obtain ⟨A8, c8, hA8, hsl⟩ : ∃ A8 c8, A8 = (if c = at2 then some ad else some (ad.add at2)) ∧ c8 = c - at2 := ⟨_, _, rfl, rfl⟩
    rw [← hA8, ← hsl]
    have KS8' := Aside0.mk (SN_drew (SN_s (sl2 := .slice A8 nn c8) (so2 := 0) (sn2 := 0) KS7.out hsg hsb3 hsb2 0 (.slice A8 nn c8) rfl))
    obtain ⟨W8, hW8⟩ : ∃ W8, W8 = (W7.setCell ⟨sb, 0, none⟩ (.slice A8 nn c8)).drew := ⟨_, rfl⟩
    rw [← hW8] at KS8' ⊢
    have Klit : Aside0 ((r1.take nn).length = nn ∧ nn ≤ c8 ∧ ∀ w1, Below base w0 w1 → Kd.C (Kd.int .u8) w1 A8 (r1.take nn).length (r1.take nn)) := ⟨lit_reads hA8 hsl Kr1.out hat2 Kee.out he4 hcap KC.out⟩
    clear hA8 hsl hW8 h0 h1 h2 h3 h4 h5 y0 y1 y2 y3 y4 y5 hHeld
    obtain ⟨h0, h1, h2, h3, h4, h5⟩ := RD_cells (SN_rd KS8'.out)
    have f1 := RD_frz (SN_rd KS8'.out) 1
    have Kdd : Aside0 (r1.drop nn = b.drop ee) := ⟨by rw [Kr1.out, List.drop_drop, Kee.out]⟩
    go_wp2
    obtain ⟨W9, hW9⟩ : ∃ W9, W9 = W8.setCell ⟨g, 1, none⟩ (.int .i64 ((at2 : Int) + (nn : Int))) := ⟨_, rfl⟩
    rw [← hW9]
    have KS9' : Aside0 (SN w0 w base g sb (some ad) b.length c most W9 ee (size + (nn : Nat)) 0 bad (.slice A8 nn c8) 0 0) := ⟨by rw [hW9, add_cast Kee.out]; exact SN_set (at2 := (ee : Int)) (size2 := size + (nn : Nat)) KS8'.out hg hsg 1 (ee : Int) rfl⟩
    clear hW9 h0 h1 h2 h3 h4 h5 f1
    obtain ⟨h0, h1, h2, h3, h4, h5⟩ := RD_cells (SN_rd KS9'.out)
    by_cases c5 : ee = b.length
    · have heq : ((ee : Int) == (b.length : Int)) = true := by rw [c5]; simp
      have Kst : Aside0 (step b.length most size (b.drop at_) = .last (r1.take nn)) := ⟨by
        rw [Kdr.out, step_d KL.out Kc3.out Kc4.out, Kdd.out, c5, List.drop_length]
        rfl⟩
      go_quiet (fail)
      obtain ⟨W10, hW⟩ : ∃ W10, W10 = W9.drewN nq := ⟨_, rfl⟩
      rw [← hW]
      have KF : Aside0 (SN w0 w base g sb (some ad) b.length c most W10 ee (size + (nn : Nat)) 0 bad (.slice A8 nn c8) 0 0) := ⟨by rw [hW]; exact SN_drewN KS9'.out nq⟩
      clear hW h0 h1 h2 h3 h4 h5
      obtain ⟨h0, h1, h2, h3, h4, h5⟩ := RD_cells (SN_rd KF.out)
      obtain ⟨y0, y1, y2, y3, y4, y5⟩ := SN_cells KF.out
      go_wp2
      have KE := Aside0.mk (SN_s (SN_s (SN_s KF.out hsg hsb3 hsb2 0 (.slice A8 nn c8) rfl) hsg hsb3 hsb2 1 (.int .i64 0) rfl) hsg hsb3 hsb2 2 (.int .i64 0) rfl)
      refine bodyPost_ret (results_list (rs := [.cell 2 114, .tmp 3]) rfl (by simp) (.cell sb 114 _ _ _ rfl (SN_row KE.out) Try.underlying114 rfl seqSize (.tmp .nil))) rfl ?_
      exact next_last KE.out Kst.out Klit.out c5
    have heq : ((ee : Int) == (b.length : Int)) = false := by simp; omega
    go_quiet (fail)
    obtain ⟨W10, hW⟩ : ∃ W10, W10 = W9.drewN nq := ⟨_, rfl⟩
    rw [← hW]
    have KS10 : Aside0 (SN w0 w base g sb (some ad) b.length c most W10 ee (size + (nn : Nat)) 0 bad (.slice A8 nn c8) 0 0) := ⟨by rw [hW]; exact SN_drewN KS9'.out nq⟩
    clear hW h0 h1 h2 h3 h4 h5
    obtain ⟨h0, h1, h2, h3, h4, h5⟩ := RD_cells (SN_rd KS10.out)
    clear heq
    go_wp2
    by_cases c6 : (b.length : Int) - ee < 2
    · have Kst : Aside0 (step b.length most size (b.drop at_) = .fail 6 b.length) := ⟨by
        obtain ⟨x, hx⟩ := drop_one he4 c5 c6
        rw [Kdr.out, step_d KL.out Kc3.out Kc4.out, Kdd.out, hx]
        rfl⟩
      go_quiet (fail)
      obtain ⟨W11, hW⟩ : ∃ W11, W11 = W10.drewN nq := ⟨_, rfl⟩
      rw [← hW]
      have KS11 : Aside0 (SN w0 w base g sb (some ad) b.length c most W11 ee (size + (nn : Nat)) 0 bad (.slice A8 nn c8) 0 0) := ⟨by rw [hW]; exact SN_drewN KS10.out nq⟩
      clear hW h0 h1 h2 h3 h4 h5
      obtain ⟨h0, h1, h2, h3, h4, h5⟩ := RD_cells (SN_rd KS11.out)
      go_wp2
      refine start_ (n := 10) (S := fun w' => w'.heap[sb]? = some (.cells #[.slice A8 nn c8, .int .i64 0, .int .i64 0] 114 (0, 0)) ∧ w'.cell? ⟨g, 0, none⟩ = some (.slice (some ad) b.length c)) (ds := [8]) #[false, false, false, false, false, false, false, false, false, false] (by kernel_rfl) rfl rfl ⟨(show W11.heap[sb]? = _ from (SN_row KS11.out)), (show W11.cell? _ = _ from h0)⟩ (fun hHeld => ?_)
      refine pure_ (i := 1) (N := some 131) (v := ?_) (a' := ?_) #[false, true, false, false, false, false, false, false, false, false] rfl rfl (by kernel_rfl) (fun _ _ _ h => h) (Or.inl ⟨by rfl, ?_⟩) ?_ ?_
      rotate_left
      · intro w'
        go_simp
        with_reducible rfl
      rotate_left
      · simp only [Act.put, List.setIfInBounds_toArray, List.set_cons_zero, List.set_cons_succ, i64_w, i32_w]
        rfl
      refine pure_ (i := 2) (N := some 132) (v := ?_) (a' := ?_) #[false, true, true, false, false, false, false, false, false, false] rfl rfl (by kernel_rfl) (fun _ _ _ h => h) (Or.inl ⟨by rfl, ?_⟩) ?_ ?_
      rotate_left
      · intro w'
        go_simp
        with_reducible rfl
      rotate_left
      · simp only [Act.put, List.setIfInBounds_toArray, List.set_cons_zero, List.set_cons_succ, i64_w, i32_w]
        rfl
      refine pure_ (i := 3) (N := some 133) (v := ?_) (a' := ?_) #[false, true, true, true, false, false, false, false, false, false] rfl rfl (by kernel_rfl) (fun _ _ _ h => h) (Or.inl ⟨by rfl, ?_⟩) ?_ ?_
      rotate_left
      · intro w'
        go_simp
        with_reducible rfl
      rotate_left
      · simp only [Act.put, List.setIfInBounds_toArray, List.set_cons_zero, List.set_cons_succ, i64_w, i32_w]
        rfl
      refine pure_ (i := 4) (N := some 134) (v := ?_) (a' := ?_) #[false, true, true, true, true, false, false, false, false, false] rfl rfl (by kernel_rfl) (fun _ _ _ h => h) (Or.inl ⟨by rfl, ?_⟩) ?_ ?_
      rotate_left
      · intro w'
        go_simp
        with_reducible rfl
      rotate_left
      · simp only [Act.put, List.setIfInBounds_toArray, List.set_cons_zero, List.set_cons_succ, i64_w, i32_w]
        rfl
      refine take_ (i := 0) (N := some 130) (v := .agg #[.slice A8 nn c8, .int .i64 0, .int .i64 0]) (a' := ?_) #[true, true, true, true, true, false, false, false, false, false] rfl rfl (by kernel_rfl) (fun _ _ _ h => h) (Or.inl ⟨by rfl, ?_⟩) hHeld ?_ ?_
      · rintro w' ⟨s0, s1⟩
        exact Arr.exec_load_row 114 (Operand.tmp 2) (by rfl) sb (by rfl) _ _ _ _ s0 Try.underlying114 rfl seqSize
      rotate_left
      · simp only [Act.put, List.setIfInBounds_toArray, List.set_cons_zero, List.set_cons_succ, i64_w, i32_w]
        rfl
      refine take_ (i := 5) (N := some 135) (v := ?_) (a' := ?_) #[true, true, true, true, true, true, false, false, false, false] rfl rfl (by kernel_rfl) (fun _ _ _ h => h) (Or.inl ⟨by rfl, ?_⟩) hHeld ?_ ?_
      rotate_left
      · rintro w' ⟨s0, s1⟩
        go_simp
        with_reducible rfl
      rotate_left
      · simp only [Act.put, List.setIfInBounds_toArray, List.set_cons_zero, List.set_cons_succ, i64_w, i32_w]
        rfl
      refine pure_ (i := 6) (N := some 136) (v := ?_) (a' := ?_) #[true, true, true, true, true, true, true, false, false, false] rfl rfl (by kernel_rfl) (fun _ _ _ h => h) (Or.inl ⟨by rfl, ?_⟩) ?_ ?_
      rotate_left
      · intro w'
        go_simp
        with_reducible rfl
      rotate_left
      · simp only [Act.put, List.setIfInBounds_toArray, List.set_cons_zero, List.set_cons_succ, i64_w, i32_w]
        rfl
      refine one_ (i := 7) (N := some 137) #[true, true, true, true, true, true, true, true, false, false] rfl rfl (by kernel_rfl) (by decide) (fun K hK => ?_)
      refine goes_ Try.func84 (by kernel_rfl) rfl #[.pointer (some ⟨g, 0, none⟩), .int .i64 6, .int .i64 b.length] (by rfl) rfl rfl (by simp only [List.map_toArray, List.map_cons, List.map_nil]; rfl) ?_
      with_reducible refine (fail_any (SN_rd (SN_drew KS11.out)) 6 b.length).mono ?_
      rintro e w4 ⟨rfl, hR4, hO4⟩
      refine ⟨_, rfl, ?_⟩
      have KF := Aside0.mk (SN_call (w1 := w4) (SN_drew KS11.out) hg hsg hR4 hO4)
      obtain ⟨y0, y1, y2, y3, y4, y5⟩ := SN_cells KF.out
      refine hK.out _ _ ⟨SN_row KF.out, (RD_cells (SN_rd KF.out)).1⟩ (fun hHeld => ?_)
      clear hK K
      refine norm_ (a' := ?_) ?_ ?_
      rotate_left
      · show Act.put _ (some 137) _ = _
        simp only [Act.put, List.setIfInBounds_toArray, List.set_cons_zero, List.set_cons_succ, i64_w, i32_w]
        rfl
      refine last_ (i := 8) (N := none) #[true, true, true, true, true, true, true, true, true, false] rfl rfl (by kernel_rfl) (by decide) (fun K hK => ?_)
      refine skip_ (w1 := ?_) (by rfl) rfl ?_ ?_
      rotate_left
      · go_simp
        rfl
      refine hK.out _ _ ?_
      clear hK K
      refine pure_ (i := 9) (N := some 3) (v := ?_) (a' := ?_) #[true, true, true, true, true, true, true, true, true, true] rfl rfl (by kernel_rfl) (fun _ _ _ h => h) (Or.inl ⟨by rfl, ?_⟩) ?_ ?_
      rotate_left
      · intro w'
        go_simp
        with_reducible rfl
      rotate_left
      · simp only [Act.put, List.setIfInBounds_toArray, List.set_cons_zero, List.set_cons_succ, i64_w, i32_w]
        rfl
      refine done_ (by kernel_rfl) ?_
      have KE := Aside0.mk (SN_s (SN_s (SN_s KF.out hsg hsb3 hsb2 0 (.slice A8 nn c8) rfl) hsg hsb3 hsb2 1 (.int .i64 0) rfl) hsg hsb3 hsb2 2 (.int .i64 0) rfl)
      go_wp2
      refine bodyPost_ret (results_list (rs := [.cell 2 114, .tmp 3]) rfl (by simp) (.cell sb 114 _ _ _ rfl (SN_row KE.out) Try.underlying114 rfl seqSize (.tmp .nil))) rfl ?_
      exact next_fail KE.out Kst.out
    go_quiet (fail)
    obtain ⟨W11, hW⟩ : ∃ W11, W11 = W10.drewN nq := ⟨_, rfl⟩
    rw [← hW]
    have KS11 : Aside0 (SN w0 w base g sb (some ad) b.length c most W11 ee (size + (nn : Nat)) 0 bad (.slice A8 nn c8) 0 0) := ⟨by rw [hW]; exact SN_drewN KS10.out nq⟩
    clear hW h0 h1 h2 h3 h4 h5
    obtain ⟨h0, h1, h2, h3, h4, h5⟩ := RD_cells (SN_rd KS11.out)
    obtain ⟨x, y, hdx, hxb, hyb, hrx, hry, he5, he6, he7⟩ := drop_two Kb.out he4 (by first | exact c6 | exact Int.not_lt.1 c6)
    obtain ⟨ef, hw1, hef, hefe⟩ := next_idx he7 hN
    have Kdx := Aside0.mk hdx
    have Kef := Aside0.mk hefe
    rw [← hefe] at hry
    clear hdx hefe he7
    obtain ⟨ad', hA, hx⟩ := Kd.at_int (KC.out W11 (SN_base KS11.out)) (ee : Int) (Int.natCast_nonneg _) (idx_lt he5)
    injection hA with hA
    subst hA
    rw [hrx, Int.toNat_natCast] at hx
    obtain ⟨ad', hA, hy⟩ := Kd.at_int (KC.out W11 (SN_base KS11.out)) (ef : Int) (Int.natCast_nonneg _) (Int.ofNat_lt.2 hef)
    injection hA with hA
    subst hA
    rw [hry, Int.toNat_natCast] at hy
    clear hrx hry
    go_wp2
    obtain ⟨y0, y1, y2, y3, y4, y5⟩ := SN_cells KS11.out
    refine start_ (n := 27) (S := fun w' => w'.cell? ⟨g, 0, none⟩ = some (.slice (some ad) b.length c) ∧ w'.cell? ⟨g, 1, none⟩ = some (.int .i64 ee) ∧ w'.cell? (ad.add ee) = some (.int .u8 x) ∧ w'.cell? (ad.add ef) = some (.int .u8 y)) (ds := [26]) #[false, false, false, false, false, false, false, false, false, false, false, false, false, false, false, false, false, false, false, false, false, false, false, false, false, false, false] (by kernel_rfl) rfl rfl ⟨(show W11.cell? _ = _ from h0), (show W11.cell? _ = _ from h1), (show W11.cell? _ = _ from hx), (show W11.cell? _ = _ from hy)⟩ (fun hHeld => ?_)
    refine pure_ (i := 0) (N := some 138) (v := ?_) (a' := ?_) #[true, false, false, false, false, false, false, false, false, false, false, false, false, false, false, false, false, false, false, false, false, false, false, false, false, false, false] rfl rfl (by kernel_rfl) (fun _ _ _ h => h) (Or.inl ⟨by rfl, ?_⟩) ?_ ?_
    rotate_left
    · intro w'
      go_simp
      with_reducible rfl
    rotate_left
    · simp only [Act.put, List.setIfInBounds_toArray, List.set_cons_zero, List.set_cons_succ, i64_w, i32_w]
      rfl
    refine pure_ (i := 1) (N := some 139) (v := ?_) (a' := ?_) #[true, true, false, false, false, false, false, false, false, false, false, false, false, false, false, false, false, false, false, false, false, false, false, false, false, false, false] rfl rfl (by kernel_rfl) (fun _ _ _ h => h) (Or.inl ⟨by rfl, ?_⟩) ?_ ?_
    rotate_left
    · intro w'
      go_simp
      with_reducible rfl
    rotate_left
    · simp only [Act.put, List.setIfInBounds_toArray, List.set_cons_zero, List.set_cons_succ, i64_w, i32_w]
      rfl
    refine pure_ (i := 2) (N := some 140) (v := ?_) (a' := ?_) #[true, true, true, false, false, false, false, false, false, false, false, false, false, false, false, false, false, false, false, false, false, false, false, false, false, false, false] rfl rfl (by kernel_rfl) (fun _ _ _ h => h) (Or.inl ⟨by rfl, ?_⟩) ?_ ?_
    rotate_left
    · intro w'
      go_simp
      with_reducible rfl
    rotate_left
    · simp only [Act.put, List.setIfInBounds_toArray, List.set_cons_zero, List.set_cons_succ, i64_w, i32_w]
      rfl
    refine pure_ (i := 4) (N := some 142) (v := ?_) (a' := ?_) #[true, true, true, false, true, false, false, false, false, false, false, false, false, false, false, false, false, false, false, false, false, false, false, false, false, false, false] rfl rfl (by kernel_rfl) (fun _ _ _ h => h) (Or.inl ⟨by rfl, ?_⟩) ?_ ?_
    rotate_left
    · intro w'
      go_simp
      with_reducible rfl
    rotate_left
    · simp only [Act.put, List.setIfInBounds_toArray, List.set_cons_zero, List.set_cons_succ, i64_w, i32_w]
      rfl
    refine pure_ (i := 5) (N := some 143) (v := ?_) (a' := ?_) #[true, true, true, false, true, true, false, false, false, false, false, false, false, false, false, false, false, false, false, false, false, false, false, false, false, false, false] rfl rfl (by kernel_rfl) (fun _ _ _ h => h) (Or.inl ⟨by rfl, ?_⟩) ?_ ?_
    rotate_left
    · intro w'
      go_simp
      with_reducible rfl
    rotate_left
    · simp only [Act.put, List.setIfInBounds_toArray, List.set_cons_zero, List.set_cons_succ, i64_w, i32_w]
      rfl
    refine pure_ (i := 6) (N := some 144) (v := ?_) (a' := ?_) #[true, true, true, false, true, true, true, false, false, false, false, false, false, false, false, false, false, false, false, false, false, false, false, false, false, false, false] rfl rfl (by kernel_rfl) (fun _ _ _ h => h) (Or.inl ⟨by rfl, ?_⟩) ?_ ?_
    rotate_left
    · intro w'
      go_simp
      with_reducible rfl
    rotate_left
    · simp only [Act.put, List.setIfInBounds_toArray, List.set_cons_zero, List.set_cons_succ, i64_w, i32_w]
      rfl
    refine pure_ (i := 11) (N := some 149) (v := ?_) (a' := ?_) #[true, true, true, false, true, true, true, false, false, false, false, true, false, false, false, false, false, false, false, false, false, false, false, false, false, false, false] rfl rfl (by kernel_rfl) (fun _ _ _ h => h) (Or.inl ⟨by rfl, ?_⟩) ?_ ?_
    rotate_left
    · intro w'
      go_simp
      with_reducible rfl
    rotate_left
    · simp only [Act.put, List.setIfInBounds_toArray, List.set_cons_zero, List.set_cons_succ, i64_w, i32_w]
      rfl
    refine pure_ (i := 12) (N := some 150) (v := ?_) (a' := ?_) #[true, true, true, false, true, true, true, false, false, false, false, true, true, false, false, false, false, false, false, false, false, false, false, false, false, false, false] rfl rfl (by kernel_rfl) (fun _ _ _ h => h) (Or.inl ⟨by rfl, ?_⟩) ?_ ?_
    rotate_left
    · intro w'
      go_simp
      with_reducible rfl
    rotate_left
    · simp only [Act.put, List.setIfInBounds_toArray, List.set_cons_zero, List.set_cons_succ, i64_w, i32_w]
      rfl
    refine pure_ (i := 13) (N := some 151) (v := ?_) (a' := ?_) #[true, true, true, false, true, true, true, false, false, false, false, true, true, true, false, false, false, false, false, false, false, false, false, false, false, false, false] rfl rfl (by kernel_rfl) (fun _ _ _ h => h) (Or.inl ⟨by rfl, ?_⟩) ?_ ?_
    rotate_left
    · intro w'
      go_simp
      with_reducible rfl
    rotate_left
    · simp only [Act.put, List.setIfInBounds_toArray, List.set_cons_zero, List.set_cons_succ, i64_w, i32_w]
      rfl
    refine pure_ (i := 15) (N := some 153) (v := ?_) (a' := ?_) #[true, true, true, false, true, true, true, false, false, false, false, true, true, true, false, true, false, false, false, false, false, false, false, false, false, false, false] rfl rfl (by kernel_rfl) (fun _ _ _ h => h) (Or.inl ⟨by rfl, ?_⟩) ?_ ?_
    rotate_left
    · intro w'
      go_simp
      with_reducible rfl
    rotate_left
    · simp only [Act.put, List.setIfInBounds_toArray, List.set_cons_zero, List.set_cons_succ, i64_w, i32_w]
      rfl
    refine pure_ (i := 16) (N := some 154) (v := ?_) (a' := ?_) #[true, true, true, false, true, true, true, false, false, false, false, true, true, true, false, true, true, false, false, false, false, false, false, false, false, false, false] rfl rfl (by kernel_rfl) (fun _ _ _ h => h) (Or.inl ⟨by rfl, ?_⟩) ?_ ?_
    rotate_left
    · intro w'
      go_simp
      with_reducible rfl
    rotate_left
    · simp only [Act.put, List.setIfInBounds_toArray, List.set_cons_zero, List.set_cons_succ, i64_w, i32_w]
      rfl
    refine pure_ (i := 17) (N := some 155) (v := ?_) (a' := ?_) #[true, true, true, false, true, true, true, false, false, false, false, true, true, true, false, true, true, true, false, false, false, false, false, false, false, false, false] rfl rfl (by kernel_rfl) (fun _ _ _ h => h) (Or.inl ⟨by rfl, ?_⟩) ?_ ?_
    rotate_left
    · intro w'
      go_simp
      with_reducible rfl
    rotate_left
    · simp only [Act.put, List.setIfInBounds_toArray, List.set_cons_zero, List.set_cons_succ, i64_w, i32_w]
      rfl
    refine take_ (i := 3) (N := some 141) (v := ?_) (a' := ?_) #[true, true, true, true, true, true, true, false, false, false, false, true, true, true, false, true, true, true, false, false, false, false, false, false, false, false, false] rfl rfl (by kernel_rfl) (fun _ _ _ h => h) (Or.inl ⟨by rfl, ?_⟩) hHeld ?_ ?_
    rotate_left
    · rintro w' ⟨s0, s1, s2, s3⟩
      go_simp
      with_reducible rfl
    rotate_left
    · simp only [Act.put, List.setIfInBounds_toArray, List.set_cons_zero, List.set_cons_succ, i64_w, i32_w]
      rfl
    refine take_ (i := 7) (N := some 145) (v := ?_) (a' := ?_) #[true, true, true, true, true, true, true, true, false, false, false, true, true, true, false, true, true, true, false, false, false, false, false, false, false, false, false] rfl rfl (by kernel_rfl) (fun _ _ _ h => h) (Or.inl ⟨by rfl, ?_⟩) hHeld ?_ ?_
    rotate_left
    · rintro w' ⟨s0, s1, s2, s3⟩
      go_simp
      with_reducible rfl
    rotate_left
    · simp only [Act.put, List.setIfInBounds_toArray, List.set_cons_zero, List.set_cons_succ, i64_w, i32_w]
      rfl
    refine pure_ (i := 8) (N := some 146) (v := ?_) (a' := ?_) #[true, true, true, true, true, true, true, true, true, false, false, true, true, true, false, true, true, true, false, false, false, false, false, false, false, false, false] rfl rfl (by kernel_rfl) (fun _ _ _ h => h) (Or.inl ⟨by rfl, ?_⟩) ?_ ?_
    rotate_left
    · intro w'
      go_simp
      with_reducible rfl
    rotate_left
    · simp only [Act.put, List.setIfInBounds_toArray, List.set_cons_zero, List.set_cons_succ, i64_w, i32_w]
      rfl
    refine take_ (i := 9) (N := some 147) (v := ?_) (a' := ?_) #[true, true, true, true, true, true, true, true, true, true, false, true, true, true, false, true, true, true, false, false, false, false, false, false, false, false, false] rfl rfl (by kernel_rfl) (fun _ _ _ h => h) (Or.inl ⟨by rfl, ?_⟩) hHeld ?_ ?_
    rotate_left
    · rintro w' ⟨s0, s1, s2, s3⟩
      go_simp
      with_reducible rfl
    rotate_left
    · simp only [Act.put, List.setIfInBounds_toArray, List.set_cons_zero, List.set_cons_succ, i64_w, i32_w]
      rfl
    refine pure_ (i := 10) (N := some 148) (v := ?_) (a' := ?_) #[true, true, true, true, true, true, true, true, true, true, true, true, true, true, false, true, true, true, false, false, false, false, false, false, false, false, false] rfl rfl (by kernel_rfl) (fun _ _ _ h => h) (Or.inl ⟨by rfl, ?_⟩) ?_ ?_
    rotate_left
    · intro w'
      go_simp
      with_reducible rfl
    rotate_left
    · simp only [Act.put, List.setIfInBounds_toArray, List.set_cons_zero, List.set_cons_succ, i64_w, i32_w]
      rfl
    refine take_ (i := 14) (N := some 152) (v := ?_) (a' := ?_) #[true, true, true, true, true, true, true, true, true, true, true, true, true, true, true, true, true, true, false, false, false, false, false, false, false, false, false] rfl rfl (by kernel_rfl) (fun _ _ _ h => h) (Or.inl ⟨by rfl, ?_⟩) hHeld ?_ ?_
    rotate_left
    · rintro w' ⟨s0, s1, s2, s3⟩
      go_simp
      with_reducible rfl
    rotate_left
    · simp only [Act.put, List.setIfInBounds_toArray, List.set_cons_zero, List.set_cons_succ, i64_w, i32_w]
      rfl
    refine take_ (i := 18) (N := some 156) (v := ?_) (a' := ?_) #[true, true, true, true, true, true, true, true, true, true, true, true, true, true, true, true, true, true, true, false, false, false, false, false, false, false, false] rfl rfl (by kernel_rfl) (fun _ _ _ h => h) (Or.inl ⟨by rfl, ?_⟩) hHeld ?_ ?_
    rotate_left
    · rintro w' ⟨s0, s1, s2, s3⟩
      go_simp
      with_reducible rfl
    rotate_left
    · simp only [Act.put, List.setIfInBounds_toArray, List.set_cons_zero, List.set_cons_succ, i64_w, i32_w]
      rfl
    refine pure_ (i := 19) (N := some 157) (v := ?_) (a' := ?_) #[true, true, true, true, true, true, true, true, true, true, true, true, true, true, true, true, true, true, true, true, false, false, false, false, false, false, false] rfl rfl (by kernel_rfl) (fun _ _ _ h => h) (Or.inl ⟨by rfl, ?_⟩) ?_ ?_
    rotate_left
    · intro w'
      go_simp
      with_reducible rfl
    rotate_left
    · simp only [Act.put, List.setIfInBounds_toArray, List.set_cons_zero, List.set_cons_succ, i64_w, i32_w]
      rfl
    refine pure_ (i := 20) (N := some 158) (v := ?_) (a' := ?_) #[true, true, true, true, true, true, true, true, true, true, true, true, true, true, true, true, true, true, true, true, true, false, false, false, false, false, false] rfl rfl (by kernel_rfl) (fun _ _ _ h => h) (Or.inl ⟨by rfl, ?_⟩) ?_ ?_
    rotate_left
    · intro w'
      go_simp
      with_reducible rfl
    rotate_left
    · simp only [Act.put, List.setIfInBounds_toArray, List.set_cons_zero, List.set_cons_succ, i64_w, i32_w]
      rfl
    refine take_ (i := 21) (N := some 159) (v := ?_) (a' := ?_) #[true, true, true, true, true, true, true, true, true, true, true, true, true, true, true, true, true, true, true, true, true, true, false, false, false, false, false] rfl rfl (by kernel_rfl) (fun _ _ _ h => h) (Or.inl ⟨by rfl, ?_⟩) hHeld ?_ ?_
    rotate_left
    · rintro w' ⟨s0, s1, s2, s3⟩
      go_simp
      with_reducible rfl
    rotate_left
    · simp only [Act.put, List.setIfInBounds_toArray, List.set_cons_zero, List.set_cons_succ, i64_w, i32_w]
      rfl
    refine pure_ (i := 22) (N := some 160) (v := ?_) (a' := ?_) #[true, true, true, true, true, true, true, true, true, true, true, true, true, true, true, true, true, true, true, true, true, true, true, false, false, false, false] rfl rfl (by kernel_rfl) (fun _ _ _ h => h) (Or.inl ⟨by rfl, ?_⟩) ?_ ?_
    rotate_left
    · intro w'
      go_simp
      with_reducible rfl
    rotate_left
    · simp only [Act.put, List.setIfInBounds_toArray, List.set_cons_zero, List.set_cons_succ, i64_w, i32_w]
      rfl
    refine pure_ (i := 23) (N := some 161) (v := ?_) (a' := ?_) #[true, true, true, true, true, true, true, true, true, true, true, true, true, true, true, true, true, true, true, true, true, true, true, true, false, false, false] rfl rfl (by kernel_rfl) (fun _ _ _ h => h) (Or.inl ⟨by rfl, ?_⟩) ?_ ?_
    rotate_left
    · intro w'
      go_simp
      with_reducible rfl
    rotate_left
    · simp only [Act.put, List.setIfInBounds_toArray, List.set_cons_zero, List.set_cons_succ, i64_w, i32_w]
      rfl
    refine pure_ (i := 24) (N := some 162) (v := ?_) (a' := ?_) #[true, true, true, true, true, true, true, true, true, true, true, true, true, true, true, true, true, true, true, true, true, true, true, true, true, false, false] rfl rfl (by kernel_rfl) (fun _ _ _ h => h) (Or.inl ⟨by rfl, ?_⟩) ?_ ?_
    rotate_left
    · intro w'
      go_simp
      with_reducible rfl
    rotate_left
    · simp only [Act.put, List.setIfInBounds_toArray, List.set_cons_zero, List.set_cons_succ, i64_w, i32_w]
      rfl
    refine pure_ (i := 25) (N := some 163) (v := ?_) (a' := ?_) #[true, true, true, true, true, true, true, true, true, true, true, true, true, true, true, true, true, true, true, true, true, true, true, true, true, true, false] rfl rfl (by kernel_rfl) (fun _ _ _ h => h) (Or.inl ⟨by rfl, ?_⟩) ?_ ?_
    rotate_left
    · intro w'
      go_simp
      with_reducible rfl
    rotate_left
    · simp only [Act.put, List.setIfInBounds_toArray, List.set_cons_zero, List.set_cons_succ, i64_w, i32_w]
      rfl
    refine last_ (i := 26) (N := none) #[true, true, true, true, true, true, true, true, true, true, true, true, true, true, true, true, true, true, true, true, true, true, true, true, true, true, true] rfl rfl (by kernel_rfl) (by decide) (fun K hK => ?_)
    refine skip_ (w1 := ?_) (by rfl) rfl ?_ ?_
    rotate_left
    · go_simp
      rfl
    refine hK.out _ _ ?_
    clear hK K
    refine done_ (by kernel_rfl) ?_
    obtain ⟨off, hoff, hoff0, hoff1⟩ : ∃ off, off = x + y * 256 ∧ 0 ≤ off ∧ off < 65536 := ⟨_, rfl, off_bounds hxb hyb⟩
    rw [or_bytes x y hxb hyb, ← hoff]
    have KS12 := Aside0.mk (SN_drew (SN_s (sl2 := .slice A8 nn c8) (so2 := off) (sn2 := 0) KS11.out hsg hsb3 hsb2 1 (.int .i64 off) rfl))
    obtain ⟨W12, hW12⟩ : ∃ W12, W12 = (W11.setCell ⟨sb, 1, none⟩ (.int .i64 off)).drew := ⟨_, rfl⟩
    rw [← hW12] at KS12 ⊢
    have Koff := Aside0.mk hoff
    clear hW12 hoff h0 h1 h2 h3 h4 h5 y0 y1 y2 y3 y4 y5 hHeld hx hy
    obtain ⟨h0, h1, h2, h3, h4, h5⟩ := RD_cells (SN_rd KS12.out)
    obtain ⟨y0, y1, y2, y3, y4, y5⟩ := SN_cells KS12.out
    go_wp2
    by_cases c7 : off = 0
    · have hq : (off == 0) = true := by rw [c7]; rfl
      have Kst : Aside0 (step b.length most size (b.drop at_) = .fail 9 ee) := ⟨by
        rw [Kdr.out, step_d KL.out Kc3.out Kc4.out, Kdd.out, Kdx.out]
        exact tail_range (by rw [← Koff.out]; exact Or.inl c7) he5⟩
      clear c7
      go_quiet (fail)
      obtain ⟨W13, hW⟩ : ∃ W13, W13 = W12.drewN nq := ⟨_, rfl⟩
      rw [← hW]
      have KS13 : Aside0 (SN w0 w base g sb (some ad) b.length c most W13 ee (size + (nn : Nat)) 0 bad (.slice A8 nn c8) off 0) := ⟨by rw [hW]; exact SN_drewN KS12.out nq⟩
      clear hW h0 h1 h2 h3 h4 h5
      obtain ⟨h0, h1, h2, h3, h4, h5⟩ := RD_cells (SN_rd KS13.out)
      go_wp2
      refine start_ (n := 9) (S := fun w' => w'.heap[sb]? = some (.cells #[.slice A8 nn c8, .int .i64 off, .int .i64 0] 114 (0, 0)) ∧ w'.cell? ⟨g, 0, none⟩ = some (.slice (some ad) b.length c) ∧ w'.cell? ⟨g, 1, none⟩ = some (.int .i64 ee)) (ds := [7]) #[false, false, false, false, false, false, false, false, false] (by kernel_rfl) rfl rfl ⟨(show W13.heap[sb]? = _ from (SN_row KS13.out)), (show W13.cell? _ = _ from h0), (show W13.cell? _ = _ from h1)⟩ (fun hHeld => ?_)
      refine pure_ (i := 1) (N := some 177) (v := ?_) (a' := ?_) #[false, true, false, false, false, false, false, false, false] rfl rfl (by kernel_rfl) (fun _ _ _ h => h) (Or.inl ⟨by rfl, ?_⟩) ?_ ?_
      rotate_left
      · intro w'
        go_simp
        with_reducible rfl
      rotate_left
      · simp only [Act.put, List.setIfInBounds_toArray, List.set_cons_zero, List.set_cons_succ, i64_w, i32_w]
        rfl
      refine pure_ (i := 2) (N := some 178) (v := ?_) (a' := ?_) #[false, true, true, false, false, false, false, false, false] rfl rfl (by kernel_rfl) (fun _ _ _ h => h) (Or.inl ⟨by rfl, ?_⟩) ?_ ?_
      rotate_left
      · intro w'
        go_simp
        with_reducible rfl
      rotate_left
      · simp only [Act.put, List.setIfInBounds_toArray, List.set_cons_zero, List.set_cons_succ, i64_w, i32_w]
        rfl
      refine pure_ (i := 3) (N := some 179) (v := ?_) (a' := ?_) #[false, true, true, true, false, false, false, false, false] rfl rfl (by kernel_rfl) (fun _ _ _ h => h) (Or.inl ⟨by rfl, ?_⟩) ?_ ?_
      rotate_left
      · intro w'
        go_simp
        with_reducible rfl
      rotate_left
      · simp only [Act.put, List.setIfInBounds_toArray, List.set_cons_zero, List.set_cons_succ, i64_w, i32_w]
        rfl
      refine pure_ (i := 4) (N := some 180) (v := ?_) (a' := ?_) #[false, true, true, true, true, false, false, false, false] rfl rfl (by kernel_rfl) (fun _ _ _ h => h) (Or.inl ⟨by rfl, ?_⟩) ?_ ?_
      rotate_left
      · intro w'
        go_simp
        with_reducible rfl
      rotate_left
      · simp only [Act.put, List.setIfInBounds_toArray, List.set_cons_zero, List.set_cons_succ, i64_w, i32_w]
        rfl
      refine take_ (i := 0) (N := some 176) (v := .agg #[.slice A8 nn c8, .int .i64 off, .int .i64 0]) (a' := ?_) #[true, true, true, true, true, false, false, false, false] rfl rfl (by kernel_rfl) (fun _ _ _ h => h) (Or.inl ⟨by rfl, ?_⟩) hHeld ?_ ?_
      · rintro w' ⟨s0, s1, s2⟩
        exact Arr.exec_load_row 114 (Operand.tmp 2) (by rfl) sb (by rfl) _ _ _ _ s0 Try.underlying114 rfl seqSize
      rotate_left
      · simp only [Act.put, List.setIfInBounds_toArray, List.set_cons_zero, List.set_cons_succ, i64_w, i32_w]
        rfl
      refine take_ (i := 5) (N := some 181) (v := ?_) (a' := ?_) #[true, true, true, true, true, true, false, false, false] rfl rfl (by kernel_rfl) (fun _ _ _ h => h) (Or.inl ⟨by rfl, ?_⟩) hHeld ?_ ?_
      rotate_left
      · rintro w' ⟨s0, s1, s2⟩
        go_simp
        with_reducible rfl
      rotate_left
      · simp only [Act.put, List.setIfInBounds_toArray, List.set_cons_zero, List.set_cons_succ, i64_w, i32_w]
        rfl
      refine one_ (i := 6) (N := some 182) #[true, true, true, true, true, true, true, false, false] rfl rfl (by kernel_rfl) (by decide) (fun K hK => ?_)
      refine goes_ Try.func84 (by kernel_rfl) rfl #[.pointer (some ⟨g, 0, none⟩), .int .i64 9, .int .i64 ee] (by rfl) rfl rfl (by simp only [List.map_toArray, List.map_cons, List.map_nil]; rfl) ?_
      with_reducible refine (fail_any (SN_rd (SN_drew KS13.out)) 9 ee).mono ?_
      rintro e w4 ⟨rfl, hR4, hO4⟩
      refine ⟨_, rfl, ?_⟩
      have KF := Aside0.mk (SN_call (w1 := w4) (SN_drew KS13.out) hg hsg hR4 hO4)
      obtain ⟨y0, y1, y2, y3, y4, y5⟩ := SN_cells KF.out
      refine hK.out _ _ ⟨SN_row KF.out, (RD_cells (SN_rd KF.out)).1, (RD_cells (SN_rd KF.out)).2.1⟩ (fun hHeld => ?_)
      clear hK K
      refine norm_ (a' := ?_) ?_ ?_
      rotate_left
      · show Act.put _ (some 182) _ = _
        simp only [Act.put, List.setIfInBounds_toArray, List.set_cons_zero, List.set_cons_succ, i64_w, i32_w]
        rfl
      refine last_ (i := 7) (N := none) #[true, true, true, true, true, true, true, true, false] rfl rfl (by kernel_rfl) (by decide) (fun K hK => ?_)
      refine skip_ (w1 := ?_) (by rfl) rfl ?_ ?_
      rotate_left
      · go_simp
        rfl
      refine hK.out _ _ ?_
      clear hK K
      refine pure_ (i := 8) (N := some 3) (v := ?_) (a' := ?_) #[true, true, true, true, true, true, true, true, true] rfl rfl (by kernel_rfl) (fun _ _ _ h => h) (Or.inl ⟨by rfl, ?_⟩) ?_ ?_
      rotate_left
      · intro w'
        go_simp
        with_reducible rfl
      rotate_left
      · simp only [Act.put, List.setIfInBounds_toArray, List.set_cons_zero, List.set_cons_succ, i64_w, i32_w]
        rfl
      refine done_ (by kernel_rfl) ?_
      have KE := Aside0.mk (SN_s (SN_s (SN_s KF.out hsg hsb3 hsb2 0 (.slice A8 nn c8) rfl) hsg hsb3 hsb2 1 (.int .i64 off) rfl) hsg hsb3 hsb2 2 (.int .i64 0) rfl)
      go_wp2
      refine bodyPost_ret (results_list (rs := [.cell 2 114, .tmp 3]) rfl (by simp) (.cell sb 114 _ _ _ rfl (SN_row KE.out) Try.underlying114 rfl seqSize (.tmp .nil))) rfl ?_
      exact next_fail KE.out Kst.out
    have hq : (off == 0) = false := by simpa using c7
    by_cases c8' : size + (nn : Int) < off
    · have Kst : Aside0 (step b.length most size (b.drop at_) = .fail 9 ee) := ⟨by
        rw [Kdr.out, step_d KL.out Kc3.out Kc4.out, Kdd.out, Kdx.out]
        exact tail_range (by rw [← Koff.out]; exact Or.inr c8') he5⟩
      go_quiet (fail)
      obtain ⟨W13, hW⟩ : ∃ W13, W13 = W12.drewN nq := ⟨_, rfl⟩
      rw [← hW]
      have KS13 : Aside0 (SN w0 w base g sb (some ad) b.length c most W13 ee (size + (nn : Nat)) 0 bad (.slice A8 nn c8) off 0) := ⟨by rw [hW]; exact SN_drewN KS12.out nq⟩
      clear hW h0 h1 h2 h3 h4 h5
      obtain ⟨h0, h1, h2, h3, h4, h5⟩ := RD_cells (SN_rd KS13.out)
      go_wp2
      refine start_ (n := 9) (S := fun w' => w'.heap[sb]? = some (.cells #[.slice A8 nn c8, .int .i64 off, .int .i64 0] 114 (0, 0)) ∧ w'.cell? ⟨g, 0, none⟩ = some (.slice (some ad) b.length c) ∧ w'.cell? ⟨g, 1, none⟩ = some (.int .i64 ee)) (ds := [7]) #[false, false, false, false, false, false, false, false, false] (by kernel_rfl) rfl rfl ⟨(show W13.heap[sb]? = _ from (SN_row KS13.out)), (show W13.cell? _ = _ from h0), (show W13.cell? _ = _ from h1)⟩ (fun hHeld => ?_)
      refine pure_ (i := 1) (N := some 177) (v := ?_) (a' := ?_) #[false, true, false, false, false, false, false, false, false] rfl rfl (by kernel_rfl) (fun _ _ _ h => h) (Or.inl ⟨by rfl, ?_⟩) ?_ ?_
      rotate_left
      · intro w'
        go_simp
        with_reducible rfl
      rotate_left
      · simp only [Act.put, List.setIfInBounds_toArray, List.set_cons_zero, List.set_cons_succ, i64_w, i32_w]
        rfl
      refine pure_ (i := 2) (N := some 178) (v := ?_) (a' := ?_) #[false, true, true, false, false, false, false, false, false] rfl rfl (by kernel_rfl) (fun _ _ _ h => h) (Or.inl ⟨by rfl, ?_⟩) ?_ ?_
      rotate_left
      · intro w'
        go_simp
        with_reducible rfl
      rotate_left
      · simp only [Act.put, List.setIfInBounds_toArray, List.set_cons_zero, List.set_cons_succ, i64_w, i32_w]
        rfl
      refine pure_ (i := 3) (N := some 179) (v := ?_) (a' := ?_) #[false, true, true, true, false, false, false, false, false] rfl rfl (by kernel_rfl) (fun _ _ _ h => h) (Or.inl ⟨by rfl, ?_⟩) ?_ ?_
      rotate_left
      · intro w'
        go_simp
        with_reducible rfl
      rotate_left
      · simp only [Act.put, List.setIfInBounds_toArray, List.set_cons_zero, List.set_cons_succ, i64_w, i32_w]
        rfl
      refine pure_ (i := 4) (N := some 180) (v := ?_) (a' := ?_) #[false, true, true, true, true, false, false, false, false] rfl rfl (by kernel_rfl) (fun _ _ _ h => h) (Or.inl ⟨by rfl, ?_⟩) ?_ ?_
      rotate_left
      · intro w'
        go_simp
        with_reducible rfl
      rotate_left
      · simp only [Act.put, List.setIfInBounds_toArray, List.set_cons_zero, List.set_cons_succ, i64_w, i32_w]
        rfl
      refine take_ (i := 0) (N := some 176) (v := .agg #[.slice A8 nn c8, .int .i64 off, .int .i64 0]) (a' := ?_) #[true, true, true, true, true, false, false, false, false] rfl rfl (by kernel_rfl) (fun _ _ _ h => h) (Or.inl ⟨by rfl, ?_⟩) hHeld ?_ ?_
      · rintro w' ⟨s0, s1, s2⟩
        exact Arr.exec_load_row 114 (Operand.tmp 2) (by rfl) sb (by rfl) _ _ _ _ s0 Try.underlying114 rfl seqSize
      rotate_left
      · simp only [Act.put, List.setIfInBounds_toArray, List.set_cons_zero, List.set_cons_succ, i64_w, i32_w]
        rfl
      refine take_ (i := 5) (N := some 181) (v := ?_) (a' := ?_) #[true, true, true, true, true, true, false, false, false] rfl rfl (by kernel_rfl) (fun _ _ _ h => h) (Or.inl ⟨by rfl, ?_⟩) hHeld ?_ ?_
      rotate_left
      · rintro w' ⟨s0, s1, s2⟩
        go_simp
        with_reducible rfl
      rotate_left
      · simp only [Act.put, List.setIfInBounds_toArray, List.set_cons_zero, List.set_cons_succ, i64_w, i32_w]
        rfl
      refine one_ (i := 6) (N := some 182) #[true, true, true, true, true, true, true, false, false] rfl rfl (by kernel_rfl) (by decide) (fun K hK => ?_)
      refine goes_ Try.func84 (by kernel_rfl) rfl #[.pointer (some ⟨g, 0, none⟩), .int .i64 9, .int .i64 ee] (by rfl) rfl rfl (by simp only [List.map_toArray, List.map_cons, List.map_nil]; rfl) ?_
      with_reducible refine (fail_any (SN_rd (SN_drew KS13.out)) 9 ee).mono ?_
      rintro e w4 ⟨rfl, hR4, hO4⟩
      refine ⟨_, rfl, ?_⟩
      have KF := Aside0.mk (SN_call (w1 := w4) (SN_drew KS13.out) hg hsg hR4 hO4)
      obtain ⟨y0, y1, y2, y3, y4, y5⟩ := SN_cells KF.out
      refine hK.out _ _ ⟨SN_row KF.out, (RD_cells (SN_rd KF.out)).1, (RD_cells (SN_rd KF.out)).2.1⟩ (fun hHeld => ?_)
      clear hK K
      refine norm_ (a' := ?_) ?_ ?_
      rotate_left
      · show Act.put _ (some 182) _ = _
        simp only [Act.put, List.setIfInBounds_toArray, List.set_cons_zero, List.set_cons_succ, i64_w, i32_w]
        rfl
      refine last_ (i := 7) (N := none) #[true, true, true, true, true, true, true, true, false] rfl rfl (by kernel_rfl) (by decide) (fun K hK => ?_)
      refine skip_ (w1 := ?_) (by rfl) rfl ?_ ?_
      rotate_left
      · go_simp
        rfl
      refine hK.out _ _ ?_
      clear hK K
      refine pure_ (i := 8) (N := some 3) (v := ?_) (a' := ?_) #[true, true, true, true, true, true, true, true, true] rfl rfl (by kernel_rfl) (fun _ _ _ h => h) (Or.inl ⟨by rfl, ?_⟩) ?_ ?_
      rotate_left
      · intro w'
        go_simp
        with_reducible rfl
      rotate_left
      · simp only [Act.put, List.setIfInBounds_toArray, List.set_cons_zero, List.set_cons_succ, i64_w, i32_w]
        rfl
      refine done_ (by kernel_rfl) ?_
      have KE := Aside0.mk (SN_s (SN_s (SN_s KF.out hsg hsb3 hsb2 0 (.slice A8 nn c8) rfl) hsg hsb3 hsb2 1 (.int .i64 off) rfl) hsg hsb3 hsb2 2 (.int .i64 0) rfl)
      go_wp2
      refine bodyPost_ret (results_list (rs := [.cell 2 114, .tmp 3]) rfl (by simp) (.cell sb 114 _ _ _ rfl (SN_row KE.out) Try.underlying114 rfl seqSize (.tmp .nil))) rfl ?_
      exact next_fail KE.out Kst.out
    go_quiet (fail)
    obtain ⟨W13, hW⟩ : ∃ W13, W13 = W12.drewN nq := ⟨_, rfl⟩
    rw [← hW]
    have KS13 : Aside0 (SN w0 w base g sb (some ad) b.length c most W13 ee (size + (nn : Nat)) 0 bad (.slice A8 nn c8) off 0) := ⟨by rw [hW]; exact SN_drewN KS12.out nq⟩
    clear hW h0 h1 h2 h3 h4 h5
    obtain ⟨h0, h1, h2, h3, h4, h5⟩ := RD_cells (SN_rd KS13.out)
    have f1 := RD_frz (SN_rd KS13.out) 1
    have Krng : Aside0 (¬ (x + y * 256 = 0 ∨ size + (nn : Int) < x + y * 256)) := ⟨by rw [← Koff.out]; exact fun h => h.elim c7 c8'⟩
    have hee2 : ee + 2 ≤ b.length := he5
    have hand := and15 htb
    cases hL2 : lenH (t % 16) (b.drop (ee + 2)) with
    | none =>
      have KL2 := Aside0.mk hL2
      clear hL2
      have Kst : Aside0 (step b.length most size (b.drop at_) = .fail 6 b.length) := ⟨by
        rw [Kdr.out, step_d KL.out Kc3.out Kc4.out, Kdd.out, Kdx.out]
        exact tail_none Krng.out KL2.out⟩
      go_wp2_with (go_at_call 85; obtain ⟨W14, hW14⟩ : ∃ W14, W14 = W13.setCell ⟨g, 1, none⟩ (.int .i64 ((ee : Int) + 2)) := ⟨_, rfl⟩; rw [← hW14]; have KS14 : Aside0 (SN w0 w base g sb (some ad) b.length c most W14 ((ee + 2 : Nat) : Int) (size + (nn : Nat)) 0 bad (.slice A8 nn c8) off 0) := ⟨(by rw [hW14, two_cast]; exact SN_set (at2 := (ee : Int) + 2) (size2 := size + (nn : Nat)) KS13.out hg hsg 1 ((ee : Int) + 2) rfl)⟩; clear hW14; refine (length_any (SN_rd KS14.out) (SN_base KS14.out) hg KC.out Kb.out (Nat.le_trans hN (by decide)) hee2 (t % 16) (Int.emod_nonneg _ (by decide)) (mod16 t)).mono ?_; rintro e w15 ⟨hO15, h16⟩; have h16 := h16.resolve_right (by rintro ⟨m, at3, hm, -⟩; rw [KL2.out] at hm; cases hm); obtain ⟨-, rfl, at3, hR⟩ := h16; have KF1 := Aside0.mk (SN_call (w1 := w15) KS14.out hg hsg hR hO15); obtain ⟨y0, y1, y2, y3, y4, y5⟩ := SN_cells KF1.out; clear hR hO15)
      have KF := Aside0.mk (SN_s (sl2 := .slice A8 nn c8) (so2 := off) (sn2 := 0) KF1.out hsg hsb3 hsb2 2 (.int .i64 0) rfl)
      have KE := Aside0.mk (SN_s (SN_s (SN_s KF.out hsg hsb3 hsb2 0 (.slice A8 nn c8) rfl) hsg hsb3 hsb2 1 (.int .i64 off) rfl) hsg hsb3 hsb2 2 (.int .i64 0) rfl)
      refine bodyPost_ret (results_list (rs := [.cell 2 114, .tmp 3]) rfl (by simp) (.cell sb 114 _ _ _ rfl (SN_row KE.out) Try.underlying114 rfl seqSize (.tmp .nil))) rfl ?_
      exact next_fail KE.out Kst.out
    | some p2 =>
      obtain ⟨m, r4⟩ := p2
      have KL2 := Aside0.mk hL2
      clear hL2
      go_wp2_with (go_at_call 85; obtain ⟨W14, hW14⟩ : ∃ W14, W14 = W13.setCell ⟨g, 1, none⟩ (.int .i64 ((ee : Int) + 2)) := ⟨_, rfl⟩; rw [← hW14]; have KS14 : Aside0 (SN w0 w base g sb (some ad) b.length c most W14 ((ee + 2 : Nat) : Int) (size + (nn : Nat)) 0 bad (.slice A8 nn c8) off 0) := ⟨(by rw [hW14, two_cast]; exact SN_set (at2 := (ee : Int) + 2) (size2 := size + (nn : Nat)) KS13.out hg hsg 1 ((ee : Int) + 2) rfl)⟩; clear hW14; refine (length_any (SN_rd KS14.out) (SN_base KS14.out) hg KC.out Kb.out (Nat.le_trans hN (by decide)) hee2 (t % 16) (Int.emod_nonneg _ (by decide)) (mod16 t)).mono ?_; rintro e w15 ⟨hO15, h16⟩; have h16 := h16.resolve_left (by rintro ⟨h, -⟩; rw [KL2.out] at h; cases h); obtain ⟨m1, at3, hm, hat3, hat4, hm0, hm1, rfl, hR⟩ := h16; rw [KL2.out] at hm; simp only [Option.some.injEq, Prod.mk.injEq] at hm; obtain ⟨hmm, hr4⟩ := hm; subst hmm; have KS15 := Aside0.mk (SN_call (w1 := w15) KS14.out hg hsg hR hO15); obtain ⟨y0, y1, y2, y3, y4, y5⟩ := SN_cells KS15.out; clear hR hO15)
      have Kr4 : Aside0 (r4 = b.drop at3) := ⟨hr4⟩
      clear hr4
      have hm2k : m ≤ 300000000 := Int.le_trans hm1 (big_m hN)
      have hs2 : 0 ≤ size + (nn : Int) := Int.add_nonneg hs (Int.natCast_nonneg _)
      have hs3 : size + (nn : Int) ≤ most := room_le Kc3.out
      have KS16 := Aside0.mk (SN_s (sl2 := .slice A8 nn c8) (so2 := off) (sn2 := m + 4) (SN_s (sl2 := .slice A8 nn c8) (so2 := off) (sn2 := m) KS15.out hsg hsb3 hsb2 2 (.int .i64 m) rfl) hsg hsb3 hsb2 2 (.int .i64 (m + 4)) rfl)
      obtain ⟨W16, hW16⟩ : ∃ W16, W16 = (w15.setCell ⟨sb, 2, none⟩ (.int .i64 m)).setCell ⟨sb, 2, none⟩ (.int .i64 (m + 4)) := ⟨_, rfl⟩
      rw [← hW16] at KS16 ⊢
      clear hW16 y0 y1 y2 y3 y4 y5
      obtain ⟨y0, y1, y2, y3, y4, y5⟩ := SN_cells KS16.out
      have hm4 : 0 ≤ m + 4 := Int.add_nonneg hm0 (by decide)
      have hm5 : m + 4 ≤ 4000000000 := m4_le hm2k
      have hm6 : most ≤ 4000000000 := Int.le_trans hm2 (by decide)
      by_cases c9 : most - (size + (nn : Int)) < m + 4
      · have Kst : Aside0 (step b.length most size (b.drop at_) = .fail 2 at_) := ⟨by
          rw [Kdr.out, step_d KL.out Kc3.out Kc4.out, Kdd.out, Kdx.out, tail_some Krng.out KL2.out, if_pos c9]
          exact congrArg _ (tok_place hlt)⟩
        refine start_ (n := 8) (S := fun w' => w'.heap[sb]? = some (.cells #[.slice A8 nn c8, .int .i64 off, .int .i64 (m + 4)] 114 (0, 0)) ∧ w'.cell? ⟨sb, 2, none⟩ = some (.int .i64 (m + 4))) (ds := [6]) #[false, false, false, false, false, false, false, false] (by kernel_rfl) rfl rfl ⟨(show W16.heap[sb]? = _ from (SN_row KS16.out)), (show W16.cell? _ = _ from y2)⟩ (fun hHeld => ?_)
        refine pure_ (i := 1) (N := some 206) (v := ?_) (a' := ?_) #[false, true, false, false, false, false, false, false] rfl rfl (by kernel_rfl) (fun _ _ _ h => h) (Or.inl ⟨by rfl, ?_⟩) ?_ ?_
        rotate_left
        · intro w'
          go_simp
          with_reducible rfl
        rotate_left
        · simp only [Act.put, List.setIfInBounds_toArray, List.set_cons_zero, List.set_cons_succ, i64_w, i32_w]
          rfl
        refine pure_ (i := 2) (N := some 207) (v := ?_) (a' := ?_) #[false, true, true, false, false, false, false, false] rfl rfl (by kernel_rfl) (fun _ _ _ h => h) (Or.inl ⟨by rfl, ?_⟩) ?_ ?_
        rotate_left
        · intro w'
          go_simp
          with_reducible rfl
        rotate_left
        · simp only [Act.put, List.setIfInBounds_toArray, List.set_cons_zero, List.set_cons_succ, i64_w, i32_w]
          rfl
        refine pure_ (i := 4) (N := some 209) (v := ?_) (a' := ?_) #[false, true, true, false, true, false, false, false] rfl rfl (by kernel_rfl) (fun _ _ _ h => h) (Or.inl ⟨by rfl, ?_⟩) ?_ ?_
        rotate_left
        · intro w'
          go_simp
          with_reducible rfl
        rotate_left
        · simp only [Act.put, List.setIfInBounds_toArray, List.set_cons_zero, List.set_cons_succ, i64_w, i32_w]
          rfl
        refine take_ (i := 0) (N := some 205) (v := .agg #[.slice A8 nn c8, .int .i64 off, .int .i64 (m + 4)]) (a' := ?_) #[true, true, true, false, true, false, false, false] rfl rfl (by kernel_rfl) (fun _ _ _ h => h) (Or.inl ⟨by rfl, ?_⟩) hHeld ?_ ?_
        · rintro w' ⟨s0, s1⟩
          exact Arr.exec_load_row 114 (Operand.tmp 2) (by rfl) sb (by rfl) _ _ _ _ s0 Try.underlying114 rfl seqSize
        rotate_left
        · simp only [Act.put, List.setIfInBounds_toArray, List.set_cons_zero, List.set_cons_succ, i64_w, i32_w]
          rfl
        refine take_ (i := 3) (N := some 208) (v := ?_) (a' := ?_) #[true, true, true, true, true, false, false, false] rfl rfl (by kernel_rfl) (fun _ _ _ h => h) (Or.inl ⟨by rfl, ?_⟩) hHeld ?_ ?_
        rotate_left
        · rintro w' ⟨s0, s1⟩
          go_simp
          with_reducible rfl
        rotate_left
        · simp only [Act.put, List.setIfInBounds_toArray, List.set_cons_zero, List.set_cons_succ, i64_w, i32_w]
          rfl
        refine one_ (i := 5) (N := some 210) #[true, true, true, true, true, true, false, false] rfl rfl (by kernel_rfl) (by decide) (fun K hK => ?_)
        refine goes_ Try.func86 (by kernel_rfl) rfl #[.pointer (some ⟨g, 0, none⟩), .int .i64 (m + 4), .int .i64 at_] (by rfl) rfl rfl (by simp only [List.map_toArray, List.map_cons, List.map_nil]; rfl) ?_
        with_reducible refine (room_any (SN_rd (SN_drew KS16.out)) (m + 4) at_ hm4 hm5 hs2 hs3 hm6).mono ?_
        rintro e w17 ⟨hO17, h18⟩
        have h18 := h18.resolve_left (fun h => absurd h.1 (Int.not_le.2 c9))
        obtain ⟨-, rfl, hR17⟩ := h18
        have KF := Aside0.mk (SN_call (w1 := w17) (SN_drew KS16.out) hg hsg hR17 hO17)
        obtain ⟨z0, z1, z2, z3, z4, z5⟩ := SN_cells KF.out
        refine ⟨_, rfl, ?_⟩
        refine hK.out _ _ ⟨SN_row KF.out, (SN_cells KF.out).2.2.1⟩ (fun hHeld => ?_)
        clear hK K
        refine norm_ (a' := ?_) ?_ ?_
        rotate_left
        · show Act.put _ (some 210) _ = _
          simp only [Act.put, List.setIfInBounds_toArray, List.set_cons_zero, List.set_cons_succ, i64_w, i32_w]
          rfl
        refine last_ (i := 6) (N := none) #[true, true, true, true, true, true, true, false] rfl rfl (by kernel_rfl) (by decide) (fun K hK => ?_)
        refine skip_ (w1 := ?_) (by rfl) rfl ?_ ?_
        rotate_left
        · go_simp
          rfl
        refine hK.out _ _ ?_
        clear hK K
        refine pure_ (i := 7) (N := some 3) (v := ?_) (a' := ?_) #[true, true, true, true, true, true, true, true] rfl rfl (by kernel_rfl) (fun _ _ _ h => h) (Or.inl ⟨by rfl, ?_⟩) ?_ ?_
        rotate_left
        · intro w'
          go_simp
          with_reducible rfl
        rotate_left
        · simp only [Act.put, List.setIfInBounds_toArray, List.set_cons_zero, List.set_cons_succ, i64_w, i32_w]
          rfl
        refine done_ (by kernel_rfl) ?_
        go_wp2
        have KE := Aside0.mk (SN_s (SN_s (SN_s KF.out hsg hsb3 hsb2 0 (.slice A8 nn c8) rfl) hsg hsb3 hsb2 1 (.int .i64 off) rfl) hsg hsb3 hsb2 2 (.int .i64 (m + 4)) rfl)
        refine bodyPost_ret (results_list (rs := [.cell 2 114, .tmp 3]) rfl (by simp) (.cell sb 114 _ _ _ rfl (SN_row KE.out) Try.underlying114 rfl seqSize (.tmp .nil))) rfl ?_
        exact next_fail KE.out Kst.out
      have Kst : Aside0 (step b.length most size (b.drop at_) = .seq (r1.take nn) off (m + 4) r4) := ⟨by
        rw [Kdr.out, step_d KL.out Kc3.out Kc4.out, Kdd.out, Kdx.out, tail_some Krng.out KL2.out, if_neg c9, ← Koff.out]⟩
      refine start_ (n := 8) (S := fun w' => w'.heap[sb]? = some (.cells #[.slice A8 nn c8, .int .i64 off, .int .i64 (m + 4)] 114 (0, 0)) ∧ w'.cell? ⟨sb, 2, none⟩ = some (.int .i64 (m + 4))) (ds := [6]) #[false, false, false, false, false, false, false, false] (by kernel_rfl) rfl rfl ⟨(show W16.heap[sb]? = _ from (SN_row KS16.out)), (show W16.cell? _ = _ from y2)⟩ (fun hHeld => ?_)
      refine pure_ (i := 1) (N := some 206) (v := ?_) (a' := ?_) #[false, true, false, false, false, false, false, false] rfl rfl (by kernel_rfl) (fun _ _ _ h => h) (Or.inl ⟨by rfl, ?_⟩) ?_ ?_
      rotate_left
      · intro w'
        go_simp
        with_reducible rfl
      rotate_left
      · simp only [Act.put, List.setIfInBounds_toArray, List.set_cons_zero, List.set_cons_succ, i64_w, i32_w]
        rfl
      refine pure_ (i := 2) (N := some 207) (v := ?_) (a' := ?_) #[false, true, true, false, false, false, false, false] rfl rfl (by kernel_rfl) (fun _ _ _ h => h) (Or.inl ⟨by rfl, ?_⟩) ?_ ?_
      rotate_left
      · intro w'
        go_simp
        with_reducible rfl
      rotate_left
      · simp only [Act.put, List.setIfInBounds_toArray, List.set_cons_zero, List.set_cons_succ, i64_w, i32_w]
        rfl
      refine pure_ (i := 4) (N := some 209) (v := ?_) (a' := ?_) #[false, true, true, false, true, false, false, false] rfl rfl (by kernel_rfl) (fun _ _ _ h => h) (Or.inl ⟨by rfl, ?_⟩) ?_ ?_
      rotate_left
      · intro w'
        go_simp
        with_reducible rfl
      rotate_left
      · simp only [Act.put, List.setIfInBounds_toArray, List.set_cons_zero, List.set_cons_succ, i64_w, i32_w]
        rfl
      refine take_ (i := 0) (N := some 205) (v := .agg #[.slice A8 nn c8, .int .i64 off, .int .i64 (m + 4)]) (a' := ?_) #[true, true, true, false, true, false, false, false] rfl rfl (by kernel_rfl) (fun _ _ _ h => h) (Or.inl ⟨by rfl, ?_⟩) hHeld ?_ ?_
      · rintro w' ⟨s0, s1⟩
        exact Arr.exec_load_row 114 (Operand.tmp 2) (by rfl) sb (by rfl) _ _ _ _ s0 Try.underlying114 rfl seqSize
      rotate_left
      · simp only [Act.put, List.setIfInBounds_toArray, List.set_cons_zero, List.set_cons_succ, i64_w, i32_w]
        rfl
      refine take_ (i := 3) (N := some 208) (v := ?_) (a' := ?_) #[true, true, true, true, true, false, false, false] rfl rfl (by kernel_rfl) (fun _ _ _ h => h) (Or.inl ⟨by rfl, ?_⟩) hHeld ?_ ?_
      rotate_left
      · rintro w' ⟨s0, s1⟩
        go_simp
        with_reducible rfl
      rotate_left
      · simp only [Act.put, List.setIfInBounds_toArray, List.set_cons_zero, List.set_cons_succ, i64_w, i32_w]
        rfl
      refine one_ (i := 5) (N := some 210) #[true, true, true, true, true, true, false, false] rfl rfl (by kernel_rfl) (by decide) (fun K hK => ?_)
      refine goes_ Try.func86 (by kernel_rfl) rfl #[.pointer (some ⟨g, 0, none⟩), .int .i64 (m + 4), .int .i64 at_] (by rfl) rfl rfl (by simp only [List.map_toArray, List.map_cons, List.map_nil]; rfl) ?_
      with_reducible refine (room_any (SN_rd (SN_drew KS16.out)) (m + 4) at_ hm4 hm5 hs2 hs3 hm6).mono ?_
      rintro e w17 ⟨hO17, h18⟩
      have h18 := h18.resolve_right (fun h => c9 h.1)
      obtain ⟨-, rfl, hR17⟩ := h18
      have KF := Aside0.mk (SN_call (w1 := w17) (SN_drew KS16.out) hg hsg hR17 hO17)
      obtain ⟨z0, z1, z2, z3, z4, z5⟩ := SN_cells KF.out
      refine ⟨_, rfl, ?_⟩
      refine hK.out _ _ ⟨SN_row KF.out, (SN_cells KF.out).2.2.1⟩ (fun hHeld => ?_)
      clear hK K
      refine norm_ (a' := ?_) ?_ ?_
      rotate_left
      · show Act.put _ (some 210) _ = _
        simp only [Act.put, List.setIfInBounds_toArray, List.set_cons_zero, List.set_cons_succ, i64_w, i32_w]
        rfl
      refine last_ (i := 6) (N := none) #[true, true, true, true, true, true, true, false] rfl rfl (by kernel_rfl) (by decide) (fun K hK => ?_)
      refine skip_ (w1 := ?_) (by rfl) rfl ?_ ?_
      rotate_left
      · go_simp
        rfl
      refine hK.out _ _ ?_
      clear hK K
      refine pure_ (i := 7) (N := some 3) (v := ?_) (a' := ?_) #[true, true, true, true, true, true, true, true] rfl rfl (by kernel_rfl) (fun _ _ _ h => h) (Or.inl ⟨by rfl, ?_⟩) ?_ ?_
      rotate_left
      · intro w'
        go_simp
        with_reducible rfl
      rotate_left
      · simp only [Act.put, List.setIfInBounds_toArray, List.set_cons_zero, List.set_cons_succ, i64_w, i32_w]
        rfl
      refine done_ (by kernel_rfl) ?_
      go_wp2
      have KE := Aside0.mk (SN_s (SN_s (SN_s KF.out hsg hsb3 hsb2 0 (.slice A8 nn c8) rfl) hsg hsb3 hsb2 1 (.int .i64 off) rfl) hsg hsb3 hsb2 2 (.int .i64 (m + 4)) rfl)
      refine bodyPost_ret (results_list (rs := [.cell 2 114, .tmp 3]) rfl (by simp) (.cell sb 114 _ _ _ rfl (SN_row KE.out) Try.underlying114 rfl seqSize (.tmp .nil))) rfl ?_
      exact next_seq KE.out Kst.out Klit.out Kr4.out hat4
end Go.Proofs.Ytpdggoapjbjmhaa.Lz
/- Blocks are unpacked: a sequence behind what there is. -/
set_option linter.unusedVariables false
set_option linter.unusedSimpArgs false
namespace Go.Proofs.Ytpdggoapjbjmhaa.Lz
open Go.RowKit Go.Proofs.YtpdggoapjbjmhaaW.PrintWords Go.Proofs.YtpdggoapjbjmhaaW.PrintLast Go.Proofs.YtpdggoapjbjmhaaW.PrintMore
/-- A copy byte by byte. -/
def cp (out : List Int) (off : Nat) : Nat → List Int
  | 0 => out
  | k + 1 => cp out off k ++ [(cp out off k).getD ((cp out off k).length - off) 0]
theorem cp_length (out : List Int) (off : Nat) : ∀ k, (cp out off k).length = out.length + k
  | 0 => rfl
  | k + 1 => by simp [cp, cp_length out off k]; omega
theorem lit_cells {w : World} {A : Option Addr} {lit : List Int} (h : ReadsOf (Value.int .u8) (0 : Int) w A lit.length lit) (hp : 0 < lit.length) : ∃ ad, A = some ad ∧ ∀ j v, (nums .u8 lit)[j]? = some v → w.cell? (ad.add j) = some v := by
  obtain ⟨ad, had, hc⟩ := h.2.2 hp
  refine ⟨ad, had, fun j v hj => ?_⟩
  have hlt : j < lit.length := by
    have := (List.getElem?_eq_some_iff.1 hj).1
    simpa [nums] using this
  have h3 := hc j hlt
  have h4 : v = .int .u8 (lit.getD j 0) := by
    simp only [nums, List.getElem?_map] at hj
    rw [List.getElem?_eq_getElem hlt] at hj
    simp at hj
    rw [List.getD_eq_getElem?_getD, List.getElem?_eq_getElem hlt]
    exact hj.symm
  rw [h4]
  exact h3
/-- What the copy leaves. -/
theorem own_copied {w : World} {base q cap : Nat} {xs zs lit : List Int} {cur : List Value} (hq : base ≤ q) (hcap : xs.length + lit.length ≤ cap) (hmax : cap ≤ maxLen) (hcs : cur.length = cap) (htk : cur.take (xs.length + lit.length) = encs (Value.int .u8) (xs ++ zs)) (h : w.heap[q]? = some (.cells (splice cur xs.length (nums .u8 lit)).toArray 5 (0, 0))) : Row.OwnB w base (.slice (some ⟨q, 0, none⟩) (xs.length + lit.length) cap) (xs ++ lit) := by
  have hl : (nums .u8 lit).length = lit.length := by simp [nums]
  have hlen : (xs ++ lit).length = xs.length + lit.length := by simp
  refine Kd.R_of_own ?_ (fun _ _ => trivial)
  rw [hlen]
  refine ⟨by simp [encs], Or.inr ⟨q, cap, _, rfl, hq, h, hcap, hmax, by simp [splice, hl]; omega, ?_⟩⟩
  have h1 : cur.take xs.length = encs (Value.int .u8) xs := by
    have h2 := congrArg (List.take xs.length) htk
    rw [List.take_take, Nat.min_eq_left (by omega)] at h2
    rw [h2]
    simp [encs]
  simp only [List.toList_toArray, Nat.mul_one]
  unfold splice
  rw [h1, ← List.append_assoc, List.take_append_of_le_length (by simp [encs, nums]), List.take_of_length_le (by simp [encs, nums])]
  simp [encs, nums]
set_option maxRecDepth 10000 in
theorem copy_own_step {ops : Array Oper} {o : Oper} {a : Act} {w : World} {K : Act → World → Prop} {Q : Exit → Act → World → Prop} {E : Prop} (hgd : o.guard = none) (d s : Operand)
    (ho : o.op = .call { callee := .builtin .copy, args := #[d, s], argTypes := #[37, 37] }) {base : Nat} (dp A2 A3 : Option Addr) (dc c2 c3 : Nat) (xs zs lit : List Int) (hz : zs.length = lit.length)
    (hd : a.eval d = .slice dp lit.length dc) (hs : a.eval s = .slice A2 lit.length c2) (HO : Row.OwnB w base (.slice A3 (xs.length + lit.length) c3) (xs ++ zs)) (hdp : 0 < lit.length → ∀ q, A3 = some ⟨q, 0, none⟩ → dp = some ⟨q, xs.length, none⟩)
    (HC : ReadsOf (Value.int .u8) (0 : Int) w A2 lit.length lit) (h : ∀ w', Row.OwnB w' base (.slice A3 (xs.length + lit.length) c3) (xs ++ lit) → w.grownBy w' (Value.slice A3 (xs.length + lit.length) c3).ownBlock → K (a.put o.dst (goInt lit.length)) w') :
    if Region.wanted o (yielded ops a.tmps) = true then Oper.wp Try.prog o a w K Q else E := by
  have hw : Region.wanted o (yielded ops a.tmps) = true := by simp [Region.wanted, hgd]
  rw [if_pos hw]
  have hu : Try.prog.underlying 37 = some (.slice 5) := Try.underlying37
  have hsz : (Try.prog.info? 5).map (·.size) = some 1 := by kernel_rfl
  by_cases h0 : lit = []
  · subst h0
    obtain rfl : zs = [] := List.eq_nil_of_length_eq_zero hz
    have hrun := run_copy_none (P := Try.prog) w 37 37 o.type 5 dp A2 _ dc _ c2 hu hsz (by simp : Nat.min ([] : List Int).length ([] : List Int).length = 0)
    simp only [List.length_nil] at hd hs hrun
    unfold Oper.wp
    simp [execOp, ho, resolve, invoke, builtin, hd, hs, hrun, Result.andThen]
    exact h w (by simpa using HO) ⟨rfl, rfl, rfl, Nat.le_refl _, fun _ _ _ => rfl⟩
  · have hlp : 0 < lit.length := List.length_pos_iff.2 h0
    have hl : (nums .u8 lit).length = lit.length := by simp [nums]
    obtain ⟨hle', hv | ⟨q, cap, cur, hv, hq, hh, h1, h2, h3, h4⟩⟩ := Kd.own_of_R HO
    · simp only [List.length_append] at hv
      omega
    · injection hv with e1 e2 e3
      subst e1 e3
      simp only [List.length_append, hz, Nat.mul_one] at h1 h3 h4
      obtain rfl := hdp hlp q rfl
      obtain ⟨ad, rfl, hsrc⟩ := lit_cells HC hlp
      have hrun := run_copy_row (P := Try.prog) w 37 37 o.type 5 q xs.length lit.length dc ad lit.length c2 cur 5 (nums .u8 lit) hu hsz hh (by simp [nums]) hsrc (by rw [hl]; omega) (by intro u hu; simp only [nums, List.mem_map] at hu; obtain ⟨x, -, rfl⟩ := hu; rfl)
      rw [hl] at hrun
      unfold Oper.wp
      simp [execOp, ho, resolve, invoke, builtin, hd, hs, hrun, Result.andThen]
      refine h _ (own_copied (cur := cur.toList) (zs := zs) hq h1 h2 (by simpa using h3) ?_ ?_) ⟨rfl, rfl, rfl, by simp [World.setRow], fun k _ hk => setRow_other w q k _ (fun e => hk (by simp [Value.ownBlock, e]))⟩
      · exact h4
      · have := setRow_heap w q _ (splice cur.toList xs.length (nums .u8 lit)).toArray _ (0, 0) hh
        unfold splice at this
        unfold splice
        rw [hl] at this
        rw [hl]
        exact this
theorem grown_trans {w w1 w2 : World} {r r1 : Option Nat} (h : w.grownBy w1 r) (h2 : w1.grownBy w2 r1) (hr : r1 = r ∨ ∃ b, r1 = some b ∧ w.heap.size ≤ b) : w.grownBy w2 r :=
  ⟨h2.os.trans h.os, h2.tape.trans h.tape, h2.output.trans h.output, Nat.le_trans h.size h2.size, fun k hk hne => (h2.block k (Nat.lt_of_lt_of_le hk h.size) (by
    rcases hr with e | ⟨b, e, hb⟩
    · rw [e]; exact hne
    · rw [e]; intro e2; injection e2 with e2; omega)).trans (h.block k hk hne)⟩
theorem grown_drew {w w1 w2 : World} {r : Option Nat} (h : w.grownBy w1 r) (h2 : Below w1.heap.size w1 w2) : w.grownBy w2 r :=
  ⟨h2.os.trans h.os, h2.tape.trans h.tape, h2.output.trans h.output, Nat.le_trans h.size h2.size, fun k hk hne => (h2.block k (Nat.lt_of_lt_of_le hk h.size)).trans (h.block k hk hne)⟩
/-- What is made so far; the box of the sequence stands. -/
def UI (w0 w : World) (base : Nat) (r : Option Nat) (ob : Obj) (wr : World) (u : Value) (ys : List Int) : Prop :=
  Row.OwnB wr base u ys ∧ Below base w0 wr ∧ w.grownBy wr r ∧ wr.heap[w.heap.size]? = some ob ∧ (u.ownBlock = r ∨ ∃ b, u.ownBlock = some b ∧ w.heap.size < b)
theorem UI.next {w0 w : World} {base : Nat} {r : Option Nat} {ob : Obj} {wr w1 : World} {u u1 : Value} {ys zs : List Int} (h : UI w0 w base r ob wr u ys) (hr : ∀ k, r = some k → k < w.heap.size) (h1 : Row.OwnB w1 base u1 zs) (hb : Below base w0 w1) (hg : wr.grownBy w1 u.ownBlock) (hat : u1.ownBlock = u.ownBlock ∨ ∃ b, u1.ownBlock = some b ∧ wr.heap.size ≤ b) : UI w0 w base r ob w1 u1 zs := by
  obtain ⟨ho, hb0, hg0, hob, hu⟩ := h
  have hlt := (Array.getElem?_eq_some_iff.1 hob).1
  refine ⟨h1, hb, grown_trans hg0 hg ?_, (hg.block _ hlt ?_).trans hob, ?_⟩
  · rcases hu with e | ⟨b, e, hb⟩
    · exact Or.inl e
    · exact Or.inr ⟨b, e, by omega⟩
  · rcases hu with e | ⟨b, e, hb⟩
    · rw [e]; intro e2; exact Nat.lt_irrefl _ (hr _ e2.symm)
    · rw [e]; intro e2; injection e2 with e2; omega
  · rcases hat with e | ⟨b, e, hb⟩
    · rw [e]; exact hu
    · exact Or.inr ⟨b, e, by omega⟩
theorem UI.drew {w0 w : World} {base : Nat} {r : Option Nat} {ob : Obj} {wr w1 : World} {u : Value} {ys : List Int} (h : UI w0 w base r ob wr u ys) (hbase : base ≤ wr.heap.size) (h2 : Below wr.heap.size wr w1) : UI w0 w base r ob w1 u ys := by
  obtain ⟨ho, hb0, hg0, hob, hu⟩ := h
  exact ⟨ho.below h2, hb0.trans (h2.mono hbase), grown_drew hg0 h2, (h2.block _ (Array.getElem?_eq_some_iff.1 hob).1).trans hob, hu⟩
set_option maxHeartbeats 4000000 in
set_option maxRecDepth 100000 in
theorem unpack_any (w0 : World) (base : Nat) (v : Value) (xs lit : List Int) (A2 : Option Addr) (c2 off len : Nat) (w : World) (HO : Row.OwnB w base v xs) (HB : Below base w0 w) (hbase : base ≤ w.heap.size) (hC : ∀ w', Below base w0 w' → Kd.C (Kd.int .u8) w' A2 lit.length lit) (hx : xs.length ≤ 10000000) (hl : lit.length ≤ 10000000) (hlen : len ≤ 10000000) (hoff : len = 0 ∨ (1 ≤ off ∧ off ≤ xs.length + lit.length)) :
    Calls Try.prog 75 #[v, .agg #[.slice A2 lit.length c2, .int .i64 off, .int .i64 len]] w fun e w' => ∃ v', e = .returned v' ∧ Row.OwnB w' base v' (cp (xs ++ lit) off len) ∧ Below base w0 w' ∧ w.grownBy w' v.ownBlock ∧ (v'.ownBlock = v.ownBlock ∨ ∃ b, v'.ownBlock = some b ∧ w.heap.size ≤ b) := by
  obtain ⟨A1, c1, rfl, hle, hC1⟩ := HO.slice
  have KO := Aside0.mk (HO.below (below_alloc (Below.refl _ _) (.cells #[.slice A2 lit.length c2, .int .i64 off, .int .i64 len] 114)))
  have KB := Aside0.mk (below_then HB hbase (below_alloc (Below.refl _ _) (.cells #[.slice A2 lit.length c2, .int .i64 off, .int .i64 len] 114)))
  have KC := Aside0.mk hC
  have Koff := Aside0.mk hoff
  have Klt := Aside0.mk (Kd.R_lt HO)
  have KS := Aside0.mk (heap_alloc_new w (.cells #[.slice A2 lit.length c2, .int .i64 off, .int .i64 len] 114))
  clear HO HB hC hC1 hoff
  go_enter Try.func75, Try.ntmps75
  go_wp2_with ((with_reducible refine gate_builtin (b := .append) (xs := #[.tmp 8, .tmp 11]) rfl ?_); apply Aside0.out)
  refine ⟨?_⟩
  refine Kd.R_append_zeros (Kd.int .u8) (w0 := w0) base rfl (.tmp 8) (.tmp 11) 37 3 5 (.int .u8 0) 1 rfl Try.underlying37 Try.underlying3 Row.info8 rfl (by decide) (by decide) (.slice A1 xs.length c1) xs (0 : Int) (lit.length : Int) (fun _ => True) rfl rfl rfl (fun _ _ => trivial) KO.out (by omega) KB.out (by simp; omega) (by simp; omega) ?_
  intro v3 w3 h3 hb3 hg3 hat3
  rw [Int.toNat_natCast] at h3
  have KS3 : Aside0 (w3.heap[w.heap.size]? = some (.cells #[.slice A2 lit.length c2, .int .i64 off, .int .i64 len] 114 (0, 0))) := ⟨(hg3.block _ (by simp) (fun hk => Nat.lt_irrefl _ (Klt.out _ hk.symm))).trans KS.out⟩
  have Kg3 : Aside0 (w.grownBy w3 (Value.slice A1 xs.length c1).ownBlock) := ⟨(grown_of_below (below_alloc (Below.refl _ _) _) _).trans hg3⟩
  have Kat3 : Aside0 (v3.ownBlock = (Value.slice A1 xs.length c1).ownBlock ∨ ∃ b, v3.ownBlock = some b ∧ w.heap.size < b) := ⟨by rcases hat3 with h | ⟨b, h, h2⟩; exact Or.inl h; exact Or.inr ⟨b, h, Nat.lt_of_succ_le (by simpa using h2)⟩⟩
  obtain ⟨A3, c3, hv3⟩ := Kd.R_slice h3
  have hlen3 : (xs ++ List.replicate lit.length (0 : Int)).length = xs.length + lit.length := by simp
  rw [hlen3] at hv3
  subst hv3
  have hsz3 : w.heap.size < w3.heap.size := (Array.getElem?_eq_some_iff.1 KS3.out).1
  have hy0 : w3.cell? ⟨w.heap.size, 0, none⟩ = some (.slice A2 lit.length c2) := (cell_of_row _ _ _ _ _ _ KS3.out).trans rfl
  have KB3 := Aside0.mk hb3
  have KO3 := Aside0.mk h3
  have KU3 : Aside0 (UI w0 w base (Value.slice A1 xs.length c1).ownBlock (.cells #[.slice A2 lit.length c2, .int .i64 off, .int .i64 len] 114 (0, 0)) w3 (.slice A3 (xs.length + lit.length) c3) _) := ⟨h3, hb3, Kg3.out, KS3.out, Kat3.out⟩
  have hle3 := (Kd.R_reads' h3).2.1
  clear h3 hb3 hg3 hat3 hlen3 hle
  go_wp2
  have KCd := Aside0.mk (Kd.reads_of_C (d := (0 : Int)) (KC.out w3.drew KB3.out.drew))
  have hsub : xs.length + lit.length - xs.length = lit.length := by omega
  obtain ⟨dp, hdp⟩ : ∃ dp, dp = (if c3 = xs.length then A3 else A3.map (·.add xs.length)) := ⟨_, rfl⟩
  have Kdp := Aside0.mk hdp
  clear hdp
  refine start_ (n := 6) (S := fun w' => w'.cell? ⟨w.heap.size, 0, none⟩ = some (.slice A2 lit.length c2)) (ds := [5]) #[false, false, false, false, false, false] (by kernel_rfl) rfl rfl ((show w3.cell? _ = _ from hy0)) (fun hHeld => ?_)
  refine pure_ (i := 0) (N := some 13) (v := ?_) (a' := ?_) #[true, false, false, false, false, false] rfl rfl (by kernel_rfl) (fun _ _ _ h => h) (Or.inl ⟨by rfl, ?_⟩) ?_ ?_
  rotate_left
  · intro w'
    go_simp
    with_reducible rfl
  rotate_left
  · simp only [Act.put, List.setIfInBounds_toArray, List.set_cons_zero, List.set_cons_succ, i64_w, i32_w]
    rfl
  refine pure_ (i := 1) (N := some 14) (v := ?_) (a' := ?_) #[true, true, false, false, false, false] rfl rfl (by kernel_rfl) (fun _ _ _ h => h) (Or.inl ⟨by rfl, ?_⟩) ?_ ?_
  rotate_left
  · intro w'
    go_simp
    with_reducible rfl
  rotate_left
  · simp only [Act.put, List.setIfInBounds_toArray, List.set_cons_zero, List.set_cons_succ, i64_w, i32_w]
    rfl
  refine pure_ (i := 2) (N := some 15) (v := .slice dp lit.length (c3 - xs.length)) (a' := ?_) #[true, true, true, false, false, false] rfl rfl (by kernel_rfl) (fun _ _ _ h => h) (Or.inl ⟨by rfl, ?_⟩) ?_ ?_
  · intro w'
    (have hx1 : (xs.length : Int) ≤ ↑xs.length + ↑lit.length := by omega); rw [Kdp.out]; go_simp
  rotate_left
  · simp only [Act.put, List.setIfInBounds_toArray, List.set_cons_zero, List.set_cons_succ, i64_w, i32_w]
    rfl
  refine pure_ (i := 3) (N := some 16) (v := ?_) (a' := ?_) #[true, true, true, true, false, false] rfl rfl (by kernel_rfl) (fun _ _ _ h => h) (Or.inl ⟨by rfl, ?_⟩) ?_ ?_
  rotate_left
  · intro w'
    go_simp
    with_reducible rfl
  rotate_left
  · simp only [Act.put, List.setIfInBounds_toArray, List.set_cons_zero, List.set_cons_succ, i64_w, i32_w]
    rfl
  refine take_ (i := 4) (N := some 17) (v := ?_) (a' := ?_) #[true, true, true, true, true, false] rfl rfl (by kernel_rfl) (fun _ _ _ h => h) (Or.inl ⟨by rfl, ?_⟩) hHeld ?_ ?_
  rotate_left
  · intro w' s0
    go_simp
    with_reducible rfl
  rotate_left
  · simp only [Act.put, List.setIfInBounds_toArray, List.set_cons_zero, List.set_cons_succ, i64_w, i32_w]
    rfl
  refine last_ (i := 5) (N := some 18) #[true, true, true, true, true, true] rfl rfl (by kernel_rfl) (by decide) (fun K hK => ?_)
  refine copy_own_step rfl (.tmp 15) (.tmp 17) rfl _ A2 A3 _ c2 c3 xs _ lit (by simp) rfl rfl (Row.OwnB.below KO3.out (Below.refl _ _).drew) (fun hp q hq => by rw [Kdp.out, if_neg (by omega), hq]; simp only [Option.map_some, add_plain]) KCd.out ?_; intro w4 H4 hg4; have KO4 := Aside0.mk H4; have Kg4 := Aside0.mk hg4
  refine hK.out _ _ ?_
  clear hK K
  refine norm_ (a' := ?_) ?_ ?_
  rotate_left
  · show Act.put _ (some 18) _ = _
    simp only [Act.put, List.setIfInBounds_toArray, List.set_cons_zero, List.set_cons_succ, i64_w, i32_w]
    rfl
  refine done_ (by kernel_rfl) ?_
  have KU4 := Aside0.mk ((KU3.out.drew (by omega) (Below.refl _ _).drew).next Klt.out H4 ((KB3.out.drew).grown hg4 (by show base ≤ w3.heap.size; omega) (Kd.R_base (Row.OwnB.below KO3.out (Below.refl _ _).drew))) hg4 (Or.inl rfl))
  obtain ⟨e1, e2⟩ : w4.cell? ⟨w.heap.size, 2, none⟩ = some (.int .i64 len) ∧ w4.cell? ⟨w.heap.size, 1, none⟩ = some (.int .i64 off) := ⟨(cell_of_row _ _ _ _ _ _ KU4.out.2.2.2.1).trans rfl, (cell_of_row _ _ _ _ _ _ KU4.out.2.2.2.1).trans rfl⟩
  clear KU3 KO3 KB3 Kat3 Kg3 KS3 hg4 H4 KO4 Kg4 KC KCd KO KB KS hHeld hy0
  go_wp2
  go_loopw [0, 21] (fun u i wr => ∃ (k : Nat) (A : Option Addr) (c : Nat), k ≤ len ∧ i = .int .i64 k ∧ u = .slice A (xs.length + lit.length + k) c ∧ Aside0 (UI w0 w base (Value.slice A1 xs.length c1).ownBlock (.cells #[.slice A2 lit.length c2, .int .i64 off, .int .i64 len] 114 (0, 0)) wr (.slice A (xs.length + lit.length + k) c) (cp (xs ++ lit) off k))) (fun _ i _ => len - (intOf i).toNat)
  case atStart => exact ⟨0, A3, c3, by omega, rfl, rfl, KU4⟩
  case round =>
    obtain ⟨k, A, c, hk, rfl, rfl, HU⟩ := hrel
    obtain ⟨n, hn⟩ : ∃ n, n = xs.length + lit.length + k := ⟨_, rfl⟩
    obtain ⟨ys, hys⟩ : ∃ ys, ys = cp (xs ++ lit) off k := ⟨_, rfl⟩
    have hyl : ys.length = n := by rw [hys, cp_length, List.length_append]; omega
    rw [← hn, ← hys] at HU
    obtain ⟨e1, e2⟩ : wr.cell? ⟨w.heap.size, 2, none⟩ = some (.int .i64 len) ∧ wr.cell? ⟨w.heap.size, 1, none⟩ = some (.int .i64 off) := ⟨(cell_of_row _ _ _ _ _ _ HU.out.2.2.2.1).trans rfl, (cell_of_row _ _ _ _ _ _ HU.out.2.2.2.1).trans rfl⟩
    rw [← hn]
    have Kn := Aside0.mk hn
    have Kys := Aside0.mk hys
    have Kyl := Aside0.mk hyl
    have hnb : n ≤ 30000000 := by omega
    clear hys
    by_cases hkl : k < len
    · have hb1 : base ≤ wr.heap.size := Nat.le_trans hbase (Nat.le_of_lt (Array.getElem?_eq_some_iff.1 HU.out.2.2.2.1).1)
      have Kb1 := Aside0.mk hb1
      obtain ⟨i, hi⟩ : ∃ i, i = n - off := ⟨_, rfl⟩
      have hin : i < n := by have := Koff.out; omega
      have hwr : wrap64 ((n : Int) - (off : Int)) = (i : Int) := by
        have := Koff.out
        unfold wrap64
        omega
      have hC := (Row.OwnB.reads HU.out.1).2.2
      rw [hyl] at hC
      obtain ⟨ad, e, hx⟩ := Kd.at_int hC (i : Int) (by omega) (by omega)
      rw [Int.toNat_natCast] at hx
      subst e
      have Ki := Aside0.mk hi
      obtain ⟨x, hxv⟩ : ∃ x, x = rd ys i := ⟨_, rfl⟩
      rw [← hxv] at hx
      have Kx := Aside0.mk hxv
      clear hn hyl hC hi hxv
      go_wp2_with ((with_reducible refine gate_builtin (b := .append) (xs := #[.tmp 23, .tmp 32]) rfl ?_); apply Aside0.out)
      refine ⟨?_⟩
      refine Kd.R_append (Kd.int .u8) (w0 := w0) (W := wr) base rfl (.tmp 23) (.tmp 32) 37 5 (.int .u8 0) 1 rfl Try.underlying37 Row.info8 rfl (by decide) (by decide) (.slice (some ad) n c) ys x [.int .u8 x] (fun _ => True) (fun _ => False) rfl rfl rfl (fun _ h => h.elim) (fun _ _ => trivial) HU.out.1 HU.out.2.1 Kb1.out (by rw [Kyl.out]; omega) ?_
      intro v5 w5 h5 hb5 hg5 hat5
      have KU5 := Aside0.mk (HU.out.next Klt.out h5 hb5 hg5 hat5)
      obtain ⟨A5, c5, hv5⟩ := Kd.R_slice h5
      rw [List.length_append, List.length_singleton, Kyl.out] at hv5
      subst hv5
      clear h5 hb5 hg5 hat5
      go_wp2
      refine ⟨?_, ?measure⟩
      repeat apply Exists.intro
      refine ⟨?rel, rfl⟩
      case rel =>
        refine ⟨k + 1, A5, c5, by omega, by simp, by rw [Kn.out, Nat.add_assoc], ?_⟩
        have hh : xs.length + lit.length + (k + 1) = n + 1 := by rw [Kn.out]; omega
        have hcp : cp (xs ++ lit) off (k + 1) = ys ++ [x] := by
          simp only [cp]
          rw [← Kys.out, Kyl.out, Kx.out, ← Ki.out]
          simp [rd]
        rw [hh, hcp]
        exact KU5
      case measure =>
        simp [intOf]
        omega
    · obtain rfl : k = len := by omega
      go_wp2
      go_ret
      refine ⟨_, rfl, ?_⟩
      rw [← Kys.out]
      refine ⟨HU.out.1, HU.out.2.1, HU.out.2.2.1, ?_⟩
      rcases HU.out.2.2.2.2 with h | ⟨b, h, h2⟩
      · exact Or.inl h
      · exact Or.inr ⟨b, h, Nat.le_of_lt h2⟩
end Go.Proofs.Ytpdggoapjbjmhaa.Lz
/- Blocks are unpacked: sequence by sequence; what a whole block tells. -/
set_option linter.unusedVariables false
set_option linter.unusedSimpArgs false
namespace Go.Proofs.Ytpdggoapjbjmhaa.Lz
open Go.RowKit Go.Proofs.YtpdggoapjbjmhaaW.PrintWords Go.Proofs.YtpdggoapjbjmhaaW.PrintLast Go.Proofs.YtpdggoapjbjmhaaW.PrintMore
/-- A sequence: literals, offset, length. -/
abbrev Sq := List Int × Int × Int
def tot : List Sq → Int
  | [] => 0
  | s :: l => s.1.length + s.2.2 + tot l
def outs (o : List Int) : List Sq → List Int
  | [] => o
  | s :: l => outs (cp (o ++ s.1) s.2.1.toNat s.2.2.toNat) l
/-- A block's sequences; the error, its place. -/
def run (N : Nat) (most : Int) : Nat → Int → List Int → List Sq × Int × Int
  | 0, _, _ => ([], 6, 0)
  | f + 1, size, r => match step N most size r with
    | .fail e p => ([], e, p)
    | .last lit => ([(lit, 0, 0)], 0, 0)
    | .seq lit off len rest => ((lit, off, len) :: (run N most f (size + lit.length + len) rest).1, (run N most f (size + lit.length + len) rest).2)
theorem tot_snoc (l : List Sq) (s : Sq) : tot (l ++ [s]) = tot l + (s.1.length + s.2.2) := by
  induction l with
  | nil => simp [tot]
  | cons a l ih => simp only [List.cons_append, tot, ih]; omega
theorem outs_snoc (l : List Sq) (s : Sq) : ∀ o, outs o (l ++ [s]) = cp (outs o l ++ s.1) s.2.1.toNat s.2.2.toNat := by
  induction l with
  | nil => intro o; rfl
  | cons a l ih => intro o; simp only [List.cons_append, outs, ih]
theorem isB_drop {l : List Int} (h : isB l) (k : Nat) : isB (l.drop k) := fun x hx => h x (List.mem_of_mem_drop hx)
theorem isB_take {l : List Int} (h : isB l) (k : Nat) : isB (l.take k) := fun x hx => h x (List.mem_of_mem_take hx)
theorem isB_append {l m : List Int} (h : isB l) (h2 : isB m) : isB (l ++ m) := fun x hx => (List.mem_append.1 hx).elim (h x) (h2 x)
/-- What a sequence keeps to. -/
structure Fits (most size : Int) (lit : List Int) (off len : Int) : Prop where
  lit0 : (lit.length : Int) ≤ most - size
  len0 : 0 ≤ len
  len1 : len ≤ most - size - lit.length
  off0 : (off = 0 ∧ len = 0) ∨ (1 ≤ off ∧ off ≤ size + lit.length ∧ off ≤ 65535 ∧ 4 ≤ len)
  bytes : isB lit
theorem lenH_spec {n m : Int} {r r2 : List Int} (hb : isB r) (hn : 0 ≤ n) (h : lenH n r = some (m, r2)) : r2.length ≤ r.length ∧ n ≤ m ∧ m ≤ n + 255 * r.length ∧ ∃ k, r2 = r.drop k := by
  unfold lenH at h
  by_cases h0 : n < 15
  · rw [if_pos h0] at h
    simp only [Option.some.injEq, Prod.mk.injEq] at h
    obtain ⟨rfl, rfl⟩ := h
    exact ⟨Nat.le_refl _, Int.le_refl _, by omega, 0, rfl⟩
  · rw [if_neg h0] at h
    obtain ⟨h1, h2, h3, h4⟩ := lenL_spec r n m r2 hb hn h
    exact ⟨by omega, h2, h3, h4⟩
theorem sp_fail {e p : Int} (he : e = 2 ∨ e = 6 ∨ e = 9) {F : List Int → Prop} {G : List Int → Int → Int → List Int → Prop} : (∀ e' p', Step.fail e p = .fail e' p' → e' = 2 ∨ e' = 6 ∨ e' = 9) ∧ (∀ lit, Step.fail e p = .last lit → F lit) ∧ (∀ a b c d, Step.fail e p = .seq a b c d → G a b c d) := by
  refine ⟨fun e' p' h => ?_, fun _ h => ?_, fun _ _ _ _ h => ?_⟩
  · injection h with h1
    rw [← h1]
    exact he
  · cases h
  · cases h
theorem step_spec {N : Nat} {most size : Int} {r : List Int} (hb : isB r) (hs : 0 ≤ size) (hsm : size ≤ most) :
    (∀ e p, step N most size r = .fail e p → e = 2 ∨ e = 6 ∨ e = 9) ∧ (∀ lit, step N most size r = .last lit → Fits most size lit 0 0) ∧
    (∀ lit off len rest, step N most size r = .seq lit off len rest → Fits most size lit off len ∧ 1 ≤ off ∧ rest.length < r.length ∧ ∃ k, rest = r.drop k) := by
  match r, hb with
  | [], _ => exact sp_fail (Or.inr (Or.inl rfl))
  | t :: r, hb =>
    have ht := hb t (by simp)
    have hb1 : isB r := fun x hx => hb x (by simp [hx])
    simp only [step]
    split
    · exact sp_fail (Or.inr (Or.inl rfl))
    · rename_i n r1 hL
      obtain ⟨s1, s2, s3, k, rfl⟩ := lenH_spec hb1 (by omega) hL
      split
      · exact sp_fail (Or.inl rfl)
      split
      · exact sp_fail (Or.inr (Or.inl rfl))
      have hll : (((r.drop k).take n.toNat).length : Int) = n := by rw [List.length_take]; omega
      unfold tailS
      split
      · refine ⟨fun _ _ h => by (cases h), fun lit h => ?_, fun _ _ _ _ h => by (cases h)⟩
        injection h with h
        subst h
        exact ⟨by omega, by omega, by omega, Or.inl ⟨rfl, rfl⟩, isB_take (isB_drop hb1 k) _⟩
      · exact sp_fail (Or.inr (Or.inl rfl))
      · rename_i x y r3 hr3
        have hd : ∃ j, x :: y :: r3 = r.drop j := ⟨k + n.toNat, by rw [← hr3, List.drop_drop]⟩
        obtain ⟨j, hj⟩ := hd
        have hbj : isB (x :: y :: r3) := by rw [hj]; exact isB_drop hb1 j
        have hx := hbj x (by simp)
        have hy := hbj y (by simp)
        have hb3 : isB r3 := fun z hz => hbj z (by simp [hz])
        have hlj : (x :: y :: r3).length ≤ r.length := by rw [hj, List.length_drop]; omega
        split
        · exact sp_fail (Or.inr (Or.inr rfl))
        · rename_i hoff
          split
          · exact sp_fail (Or.inr (Or.inl rfl))
          · rename_i m r4 hM
            obtain ⟨q1, q2, q3, k4, rfl⟩ := lenH_spec hb3 (by omega) hM
            split
            · exact sp_fail (Or.inl rfl)
            · refine ⟨fun _ _ h => by (cases h), fun _ h => by (cases h), fun lit off len rest h => ?_⟩
              injection h with e1 e2 e3 e4
              subst e1 e2 e3 e4
              refine ⟨⟨by omega, by omega, by omega, Or.inr ⟨by omega, by omega, by omega, by omega⟩, isB_take (isB_drop hb1 k) _⟩, by omega, ?_, 1 + (j + 2 + k4), ?_⟩
              · simp only [List.length_drop, List.length_cons] at hlj ⊢
                omega
              · have h5 : r3 = (x :: y :: r3).drop 2 := rfl
                rw [h5, hj, List.drop_drop, List.drop_drop, Nat.add_comm 1, List.drop_succ_cons]
                congr 1
                omega
/-- What stands at the head of the loop. -/
structure LI (w0 w : World) (base p : Nat) (b : List Int) (A : Option Addr) (c : Nat) (most : Int) (I : World → List Sq → Option Nat → Prop) (o0 : Option Nat) (wr : World) (acc : List Sq) (at_ : Nat) (o : Option Nat) (f : Nat) : Prop where
  rd : RD wr w.heap.size A b.length c at_ (tot acc) most 0 0
  below : Below base w0 wr
  size : w.heap.size < wr.heap.size
  frame : ∀ k, k < w.heap.size → k ≠ p → some k ≠ o0 → wr.heap[k]? = w.heap[k]?
  inv : I wr acc o
  own : o = o0 ∨ ∃ q, o = some q ∧ w.heap.size < q
  lt : ∀ q, o = some q → q < wr.heap.size
  tot0 : 0 ≤ tot acc
  tot1 : tot acc ≤ most
  at0 : at_ ≤ b.length
  fuel : b.length - at_ < f
  eq : run b.length most (b.length + 1) 0 b = (acc ++ (run b.length most f (tot acc) (b.drop at_)).1, (run b.length most f (tot acc) (b.drop at_)).2)
/-- What 'each' answers. -/
def EP (w0 w : World) (base p : Nat) (b : List Int) (A : Option Addr) (c : Nat) (most : Int) (I : World → List Sq → Option Nat → Prop) (o0 : Option Nat) (e : Ending) (w' : World) : Prop :=
  ∃ g at2 s2 o', e = .returned (.pointer (some ⟨g, 0, none⟩)) ∧ w.heap.size ≤ g ∧ RD w' g A b.length c at2 s2 most (run b.length most (b.length + 1) 0 b).2.1 (run b.length most (b.length + 1) 0 b).2.2 ∧ ((run b.length most (b.length + 1) 0 b).2.1 = 0 → s2 = tot (run b.length most (b.length + 1) 0 b).1) ∧ Below base w0 w' ∧ w.heap.size ≤ w'.heap.size ∧ (∀ k, k < w.heap.size → k ≠ p → some k ≠ o0 → w'.heap[k]? = w.heap[k]?) ∧ I w' (run b.length most (b.length + 1) 0 b).1 o' ∧ (o' = o0 ∨ ∃ q, o' = some q ∧ w.heap.size ≤ q) ∧ (∀ q, o' = some q → q < w'.heap.size)
def Stab (p : Nat) (I : World → List Sq → Option Nat → Prop) : Prop := ∀ wr w' acc o, I wr acc o → (∀ k, k < wr.heap.size → (k = p ∨ some k = o) → w'.heap[k]? = wr.heap[k]?) → I w' acc o
section
variable {w0 w : World} {base p : Nat} {b : List Int} {A : Option Addr} {c : Nat} {most : Int} {I : World → List Sq → Option Nat → Prop} {o0 : Option Nat} {wr w1 w2 : World} {acc : List Sq} {at_ : Nat} {o : Option Nat} {f : Nat}
/-- Behind 'next', and what is laid anew. -/
theorem LI_inv (h : LI w0 w base p b A c most I o0 wr acc at_ o f) (hst : Stab p I) (hp : p < w.heap.size) (ho : ∀ q, o0 = some q → q < w.heap.size) (hs1 : wr.heap.size ≤ w1.heap.size) (hf1 : ∀ k, k ≠ w.heap.size → k < wr.heap.size → w1.heap[k]? = wr.heap[k]?) (hb2 : Below w1.heap.size w1 w2) : I w2 acc o := by
  refine hst wr w2 acc o h.inv fun k hk hpo => (hb2.block k (by omega)).trans (hf1 k ?_ hk)
  rcases hpo with e | e
  · omega
  · rcases h.own with e2 | ⟨q, e2, hq⟩
    · have := ho k (by rw [← e2, e]); omega
    · rw [e2] at e; injection e with e; omega
theorem LI_fail {at2 s2 er pp : Int} (h : LI w0 w base p b A c most I o0 wr acc at_ o f) (hst : Stab p I) (hp : p < w.heap.size) (ho : ∀ q, o0 = some q → q < w.heap.size) (hbase : base ≤ w.heap.size)
    (hstep : step b.length most (tot acc) (b.drop at_) = .fail er pp) (hne : er ≠ 0) (hb1 : Below base w0 w1) (hs1 : wr.heap.size ≤ w1.heap.size) (hf1 : ∀ k, k ≠ w.heap.size → k < wr.heap.size → w1.heap[k]? = wr.heap[k]?) (hR : RD w1 w.heap.size A b.length c at2 s2 most er pp) (hb2 : Below w1.heap.size w1 w2) : EP w0 w base p b A c most I o0 (.returned (.pointer (some ⟨w.heap.size, 0, none⟩))) w2 := by
  have hsz := h.size
  obtain ⟨f', rfl⟩ : ∃ f', f = f' + 1 := ⟨f - 1, by have := h.fuel; omega⟩
  have hrun : run b.length most (b.length + 1) 0 b = (acc, er, pp) := by
    have h0 := h.eq
    simp only [run, hstep, List.append_nil] at h0
    simpa only [run] using h0
  unfold EP
  rw [hrun]
  refine ⟨_, at2, s2, o, rfl, Nat.le_refl _, (hb2.block _ (by omega)).trans hR, fun e => absurd e hne, hb1.trans (hb2.mono (by omega)), by have := hb2.size; omega, fun k hk h1 h2 => ((hb2.block k (by omega)).trans (hf1 k (by omega) (by omega))).trans (h.frame k hk h1 h2), LI_inv h hst hp ho hs1 hf1 hb2, ?_, fun q hq => by have := h.lt q hq; have := hb2.size; omega⟩
  rcases h.own with e | ⟨q, e, hq⟩
  · exact Or.inl e
  · exact Or.inr ⟨q, e, Nat.le_of_lt hq⟩
/-- Behind the closure. -/
theorem LI_took {w3 : World} {o' : Option Nat} {lit : List Int} {off len : Int} {at2 : Int} (h : LI w0 w base p b A c most I o0 wr acc at_ o f) (hst : Stab p I) (hp : p < w.heap.size) (ho : ∀ q, o0 = some q → q < w.heap.size) (hbase : base ≤ w.heap.size) (hs1 : wr.heap.size ≤ w1.heap.size) (hf1 : ∀ k, k ≠ w.heap.size → k < wr.heap.size → w1.heap[k]? = wr.heap[k]?)
    (hR : RD w1 w.heap.size A b.length c at2 (tot acc + lit.length + len) most 0 0) (hb2 : Below w1.heap.size w1 w2) (hb3 : Below base w0 w3) (hs3 : w2.heap.size ≤ w3.heap.size) (hf3 : ∀ k, k < w2.heap.size → k ≠ p → some k ≠ o → w3.heap[k]? = w2.heap[k]?) (hI : I w3 (acc ++ [(lit, off, len)]) o') (ho' : o' = o ∨ ∃ q, o' = some q ∧ w2.heap.size ≤ q) (hlt' : ∀ q, o' = some q → q < w3.heap.size) :
    RD w3 w.heap.size A b.length c at2 (tot (acc ++ [(lit, off, len)])) most 0 0 ∧ w.heap.size < w3.heap.size ∧ (∀ k, k < w.heap.size → k ≠ p → some k ≠ o0 → w3.heap[k]? = w.heap[k]?) ∧ (o' = o0 ∨ ∃ q, o' = some q ∧ w.heap.size < q) ∧ (∀ k, w.heap.size ≤ k → k < w2.heap.size → wr.heap.size ≤ k ∨ k = w.heap.size → w3.heap[k]? = w2.heap[k]?) := by
  have hsz := h.size
  have hsz2 := hb2.size
  have hno : ∀ k, w.heap.size ≤ k → (wr.heap.size ≤ k ∨ k = w.heap.size) → some k ≠ o := by
    intro k hk hk2 e
    have h1 := h.lt k e.symm
    rcases h.own with e2 | ⟨q, e2, hq⟩
    · have := ho k (by rw [← e2, e]); omega
    · rw [e2] at e; injection e with e; omega
  refine ⟨?_, by omega, ?_, ?_, ?_⟩
  · rw [tot_snoc]
    have h1 : RD w2 w.heap.size A b.length c at2 (tot acc + lit.length + len) most 0 0 := (hb2.block _ (by omega)).trans hR
    rw [Int.add_assoc] at h1
    exact (hf3 _ (by omega) (by omega) (hno _ (Nat.le_refl _) (Or.inr rfl))).trans h1
  · intro k hk h1 h2
    have hko : some k ≠ o := by
      rcases h.own with e2 | ⟨q, e2, hq⟩
      · rw [e2]; exact h2
      · rw [e2]; intro e; injection e with e; omega
    exact (hf3 k (by omega) h1 hko).trans (((hb2.block k (by omega)).trans (hf1 k (by omega) (by omega))).trans (h.frame k hk h1 h2))
  · rcases ho' with e | ⟨q, e, hq⟩
    · rw [e]; exact h.own
    · exact Or.inr ⟨q, e, by omega⟩
  · intro k hk hk2 hk3
    exact hf3 k hk2 (by omega) (hno k hk hk3)
theorem LI_last {w3 : World} {o' : Option Nat} {lit : List Int} (h : LI w0 w base p b A c most I o0 wr acc at_ o f) (hstep : step b.length most (tot acc) (b.drop at_) = .last lit) (hR : RD w3 w.heap.size A b.length c b.length (tot (acc ++ [(lit, 0, 0)])) most 0 0) (hs : w.heap.size < w3.heap.size) (hb3 : Below base w0 w3)
    (hf : ∀ k, k < w.heap.size → k ≠ p → some k ≠ o0 → w3.heap[k]? = w.heap[k]?) (hI : I w3 (acc ++ [(lit, 0, 0)]) o') (ho : o' = o0 ∨ ∃ q, o' = some q ∧ w.heap.size < q) (hlt : ∀ q, o' = some q → q < w3.heap.size) : EP w0 w base p b A c most I o0 (.returned (.pointer (some ⟨w.heap.size, 0, none⟩))) w3 := by
  obtain ⟨f', rfl⟩ : ∃ f', f = f' + 1 := ⟨f - 1, by have := h.fuel; omega⟩
  have hrun : run b.length most (b.length + 1) 0 b = (acc ++ [(lit, 0, 0)], 0, 0) := by
    have h0 := h.eq
    simp only [run, hstep] at h0
    simpa only [run] using h0
  unfold EP
  rw [hrun]
  refine ⟨_, _, _, o', rfl, Nat.le_refl _, hR, fun _ => rfl, hb3, Nat.le_of_lt hs, hf, hI, ?_, hlt⟩
  rcases ho with e | ⟨q, e, hq⟩
  · exact Or.inl e
  · exact Or.inr ⟨q, e, Nat.le_of_lt hq⟩
theorem LI_seq {w3 : World} {o' : Option Nat} {lit rest : List Int} {off len : Int} {at2 : Nat} (h : LI w0 w base p b A c most I o0 wr acc at_ o f) (hstep : step b.length most (tot acc) (b.drop at_) = .seq lit off len rest) (hfit : Fits most (tot acc) lit off len) (hrl : rest.length < (b.drop at_).length) (hrest : rest = b.drop at2) (hat2 : at2 ≤ b.length) (hR : RD w3 w.heap.size A b.length c at2 (tot (acc ++ [(lit, off, len)])) most 0 0) (hs : w.heap.size < w3.heap.size) (hb3 : Below base w0 w3)
    (hf : ∀ k, k < w.heap.size → k ≠ p → some k ≠ o0 → w3.heap[k]? = w.heap[k]?) (hI : I w3 (acc ++ [(lit, off, len)]) o') (ho : o' = o0 ∨ ∃ q, o' = some q ∧ w.heap.size < q) (hlt : ∀ q, o' = some q → q < w3.heap.size) : (∃ f', LI w0 w base p b A c most I o0 w3 (acc ++ [(lit, off, len)]) at2 o' f') ∧ at_ < at2 := by
  obtain ⟨f', rfl⟩ : ∃ f', f = f' + 1 := ⟨f - 1, by have := h.fuel; omega⟩
  subst hrest
  simp only [List.length_drop] at hrl
  have ht := tot_snoc acc (lit, off, len)
  simp only at ht
  obtain ⟨g1, g2, g3, g4, g5⟩ := hfit
  have := h.tot0
  have := h.at0
  have := h.fuel
  refine ⟨⟨f', hR, hb3, hs, hf, hI, ho, hlt, by rw [ht]; omega, by rw [ht]; omega, hat2, by omega, ?_⟩, by omega⟩
  have h0 := h.eq
  rw [show run b.length most (f' + 1) (tot acc) (b.drop at_) = ((lit, off, len) :: (run b.length most f' (tot acc + lit.length + len) (b.drop at2)).1, (run b.length most f' (tot acc + lit.length + len) (b.drop at2)).2) by
    conv => lhs; unfold run
    rw [hstep]] at h0
  rw [h0, ht, List.append_assoc, List.singleton_append, Int.add_assoc]
end
set_option maxHeartbeats 4000000 in
set_option maxRecDepth 100000 in
/-- Sequence by sequence, each given to the closure. I: what the closure keeps (its box p, its row o). -/
theorem each_dec (w0 : World) (base : Nat) (b : List Int) (A : Option Addr) (c : Nat) (most : Int) (p : Nat) (I : World → List Sq → Option Nat → Prop) (o0 : Option Nat) (w : World)
    (Hstab : Stab p I)
    (Htake : ∀ wr acc o lit A2 c2 off len, I wr acc o → Below base w0 wr → base ≤ wr.heap.size → Fits most (tot acc) lit off len → 0 ≤ tot acc → (∀ w', Below base w0 w' → Kd.C (Kd.int .u8) w' A2 lit.length lit) → lit.length ≤ c2 →
      Calls Try.prog 74 (#[.agg #[.slice A2 lit.length c2, .int .i64 off, .int .i64 len]] ++ #[.pointer (some ⟨p, 0, none⟩)]) wr fun e w' => e = .returned (.tuple #[]) ∧ Below base w0 w' ∧ wr.heap.size ≤ w'.heap.size ∧ (∀ k, k < wr.heap.size → k ≠ p → some k ≠ o → w'.heap[k]? = wr.heap[k]?) ∧ ∃ o', I w' (acc ++ [(lit, off, len)]) o' ∧ (o' = o ∨ ∃ q, o' = some q ∧ wr.heap.size ≤ q) ∧ (∀ q, o' = some q → q < w'.heap.size))
    (HI : I w [] o0) (hp : p < w.heap.size) (ho : ∀ q, o0 = some q → q < w.heap.size) (HB : Below base w0 w) (hbase : base ≤ w.heap.size) (hC : ∀ w', Below base w0 w' → Kd.C (Kd.int .u8) w' A b.length b) (hb : isB b) (hN : b.length ≤ 1000000) (hm : 0 ≤ most) (hm2 : most ≤ 1048576) (hcap : b.length ≤ c) :
    Calls Try.prog 73 #[.slice A b.length c, .int .i64 most, .func (.func 74) #[] #[.pointer (some ⟨p, 0, none⟩)]] w (EP w0 w base p b A c most I o0) := by
  have K := Aside0.mk HI
  have KC := Aside0.mk hC
  have KB := Aside0.mk HB
  have Kb := Aside0.mk hb
  have Ks := Aside0.mk Hstab
  have Kt := Aside0.mk Htake
  have Ko := Aside0.mk ho
  have Kbase := Aside0.mk hbase
  clear HI hC HB hb Hstab Htake ho hbase
  go_enter Try.func73, Try.ntmps73
  go_wp2
  go_step3
  go_wp2
  go_step3
  go_wp2
  go_loopw [8] (fun _ wr => ∃ acc at_ o f, Aside0 (LI w0 w base p b A c most I o0 wr acc at_ o f)) (fun _ wr => b.length - (match wr.cell? ⟨w.heap.size, 1, none⟩ with | some v => (intOf v).toNat | none => 0))
  case atStart =>
    refine ⟨[], 0, o0, b.length + 1, ⟨?_⟩⟩
    have hal : Below w.heap.size w (w.alloc (.cells #[.slice A b.length c, .int .i64 0, .int .i64 0, .int .i64 most, .int .i64 0, .int .i64 0] 121)) := below_alloc (Below.refl _ _) _
    exact ⟨heap_alloc_new w _, KB.out.trans (hal.mono Kbase.out), by simp, fun k hk _ _ => hal.block k hk, Ks.out w _ [] o0 K.out fun k hk _ => hal.block k hk, Or.inl rfl, fun q hq => by have := Ko.out q hq; have := hal.size; omega, by simp [tot], by simpa [tot] using hm, by omega, by omega, by simp [tot]⟩
  case round =>
    obtain ⟨acc, at_, o, f, KL⟩ := hrel
    have hat := KL.out.at0
    have hgs := KL.out.size
    have hsp := step_spec (N := b.length) (isB_drop Kb.out at_) KL.out.tot0 KL.out.tot1
    have Ksp := Aside0.mk hsp
    clear hsp
    have hnext := next_any KL.out.rd KL.out.below Kbase.out KC.out Kb.out hN hat KL.out.tot0 KL.out.tot1 hm2 hcap
    have Kn := Aside0.mk hnext
    clear hnext
    cases hstep : step b.length most (tot acc) (b.drop at_) with
    | fail er pp =>
      rw [hstep] at Kn
      have Kst := Aside0.mk hstep
      clear hstep
      go_wp2_with (go_at_call 79; refine Kn.out.mono ?_; rintro e w1 ⟨hb1, hs1, hf1, ⟨A2, n2, c2, x, y, rfl⟩, at2, s2, hR⟩; have Kb1 := Aside0.mk hb1; have Kf1 := Aside0.mk hf1; have KR1 := Aside0.mk hR; clear hb1 hf1 hR Kn)
      rw [Exit.noGoto_ret]
      go_ret
      exact LI_fail KL.out Ks.out hp Ko.out Kbase.out Kst.out (by have := Ksp.out.1 _ _ Kst.out; omega) Kb1.out hs1 Kf1.out KR1.out (below_alloc (Below.refl _ _) _)
    | last lit =>
      rw [hstep] at Kn
      have Kst := Aside0.mk hstep
      clear hstep
      have Kfit := Aside0.mk (Ksp.out.2.1 _ Kst.out)
      go_wp2_with (first | (go_at_call 79; refine Kn.out.mono ?_; rintro e w1 ⟨hb1, hs1, hf1, A2, c2, rfl, hR, hC2, hc2⟩; have Kb1 := Aside0.mk hb1; have Kf1 := Aside0.mk hf1; have KR1 := Aside0.mk hR; have KC2 := Aside0.mk hC2; have Kc2 := Aside0.mk hc2; clear hb1 hf1 hR hC2 hc2 Kn) | (go_at_call 74; have hal : Below w1.heap.size w1 (w1.alloc (.cells #[.slice A2 lit.length c2, .int .i64 (0), .int .i64 (0)] 114)) := below_alloc (Below.refl _ _) _; refine (Kt.out _ acc o lit A2 c2 (0) (0) (LI_inv KL.out Ks.out hp Ko.out hs1 Kf1.out hal) (Kb1.out.trans (hal.mono (by have := Kbase.out; omega))) (by have := Kbase.out; have := hal.size; omega) Kfit.out KL.out.tot0 KC2.out Kc2.out).mono ?_; rintro e w3 ⟨rfl, hb3, hs3, hf3, o', hI3, ho3, hlt3⟩; have KT := Aside0.mk (LI_took KL.out Ks.out hp Ko.out Kbase.out hs1 Kf1.out (by rw [Int.add_zero]; exact KR1.out) hal hb3 hs3 hf3 hI3 ho3 hlt3); have Kb3 := Aside0.mk hb3; have KI3 := Aside0.mk hI3; have Klt3 := Aside0.mk hlt3; have hcell : w3.cell? ⟨w1.heap.size, 1, none⟩ = some (.int .i64 (0)) := (cell_of_row _ _ _ _ _ _ ((KT.out.2.2.2.2 w1.heap.size (by omega) (by simp) (Or.inl hs1)).trans (heap_alloc_new w1 _))).trans rfl; clear hal hb3 hs3 hf3 hI3 ho3 hlt3))
      rw [Exit.noGoto_ret]
      go_ret
      exact LI_last KL.out Kst.out KT.out.1 KT.out.2.1 Kb3.out KT.out.2.2.1 KI3.out KT.out.2.2.2.1 Klt3.out
    | seq lit off len rest =>
      rw [hstep] at Kn
      have Kst := Aside0.mk hstep
      clear hstep
      have Kfit := Aside0.mk (Ksp.out.2.2 _ _ _ _ Kst.out)
      have hoff : 1 ≤ off := Kfit.out.2.1
      go_wp2_with (first | (go_at_call 79; refine Kn.out.mono ?_; rintro e w1 ⟨hb1, hs1, hf1, A2, c2, at2, rfl, hR, hrest, hat2, hC2, hc2⟩; have Kb1 := Aside0.mk hb1; have Kf1 := Aside0.mk hf1; have KR1 := Aside0.mk hR; have KC2 := Aside0.mk hC2; have Kc2 := Aside0.mk hc2; have Krest := Aside0.mk hrest; have Kat2 := Aside0.mk hat2; clear hb1 hf1 hR hC2 hc2 hrest hat2 Kn) | (go_at_call 74; have hal : Below w1.heap.size w1 (w1.alloc (.cells #[.slice A2 lit.length c2, .int .i64 (off), .int .i64 (len)] 114)) := below_alloc (Below.refl _ _) _; refine (Kt.out _ acc o lit A2 c2 (off) (len) (LI_inv KL.out Ks.out hp Ko.out hs1 Kf1.out hal) (Kb1.out.trans (hal.mono (by have := Kbase.out; omega))) (by have := Kbase.out; have := hal.size; omega) Kfit.out.1 KL.out.tot0 KC2.out Kc2.out).mono ?_; rintro e w3 ⟨rfl, hb3, hs3, hf3, o', hI3, ho3, hlt3⟩; have KT := Aside0.mk (LI_took KL.out Ks.out hp Ko.out Kbase.out hs1 Kf1.out (KR1.out) hal hb3 hs3 hf3 hI3 ho3 hlt3); have Kb3 := Aside0.mk hb3; have KI3 := Aside0.mk hI3; have Klt3 := Aside0.mk hlt3; have hcell : w3.cell? ⟨w1.heap.size, 1, none⟩ = some (.int .i64 (off)) := (cell_of_row _ _ _ _ _ _ ((KT.out.2.2.2.2 w1.heap.size (by omega) (by simp) (Or.inl hs1)).trans (heap_alloc_new w1 _))).trans rfl; clear hal hb3 hs3 hf3 hI3 ho3 hlt3))
      obtain ⟨⟨f2, hL⟩, hlt⟩ := LI_seq KL.out Kst.out Kfit.out.1 Kfit.out.2.2.1 Krest.out Kat2.out KT.out.1 KT.out.2.1 Kb3.out KT.out.2.2.1 KI3.out KT.out.2.2.2.1 Klt3.out
      refine ⟨⟨_, at2, _, f2, ⟨hL⟩⟩, ?_⟩
      rw [(RD_cells hL.rd).2.1, (RD_cells KL.out.rd).2.1]
      have := Kat2.out
      simp only [intOf, Int.toNat_natCast]
      omega
end Go.Proofs.Ytpdggoapjbjmhaa.Lz
/- Blocks are unpacked: Decode. -/
set_option linter.unusedVariables false
set_option linter.unusedSimpArgs false
namespace Go.Proofs.Ytpdggoapjbjmhaa.Lz
open Go.RowKit Go.Proofs.YtpdggoapjbjmhaaW.PrintWords Go.Proofs.YtpdggoapjbjmhaaW.PrintLast Go.Proofs.YtpdggoapjbjmhaaW.PrintMore
/-- The closure's state: what is unpacked, in the box p. -/
def ID (base p : Nat) (wr : World) (acc : List Sq) (o : Option Nat) : Prop :=
  ∃ u, wr.heap[p]? = some (.cells #[u] 37 (0, 0)) ∧ Row.OwnB wr base u (outs [] acc) ∧ u.ownBlock = o
theorem own_frame {w w1 : World} {base : Nat} {u : Value} {xs : List Int} (h : Row.OwnB w base u xs) (hb : ∀ k, u.ownBlock = some k → w1.heap[k]? = w.heap[k]?) : Row.OwnB w1 base u xs := by
  have h0 := Kd.own_of_R h
  refine Kd.R_of_own ?_ (fun _ _ => trivial)
  obtain ⟨hl, h1 | ⟨g, cap, cur, hv, hg, hh, r1⟩⟩ := h0
  · exact ⟨hl, Or.inl h1⟩
  · exact ⟨hl, Or.inr ⟨g, cap, cur, hv, hg, (hb g (by rw [hv]; rfl)).trans hh, r1⟩⟩
theorem own_lt {w : World} {base : Nat} {u : Value} {xs : List Int} (h : Row.OwnB w base u xs) : ∀ k, u.ownBlock = some k → k < w.heap.size := Kd.R_lt h
theorem own_box {w : World} {base p : Nat} {u v : Value} {xs : List Int} (h : Row.OwnB w base u xs) (hp : w.heap[p]? = some (.cells #[v] 37 (0, 0))) : u.ownBlock ≠ some p := by
  intro e
  obtain ⟨cs, hc⟩ := own_typed (Kd.own_of_R h) p e
  rw [hp] at hc
  injection hc with hc
  injection hc with h1 h2
  cases h2
theorem outs_length (l : List Sq) : ∀ o : List Int, (∀ s ∈ l, 0 ≤ s.2.2) → ((outs o l).length : Int) = o.length + tot l := by
  induction l with
  | nil => intro o _; simp [outs, tot]
  | cons s l ih =>
    intro o h
    have h1 := h s (by simp)
    rw [outs, ih _ (fun t ht => h t (by simp [ht])), cp_length, List.length_append]
    simp only [tot]
    omega
theorem ID_stab (base p : Nat) : Stab p (ID base p) := by
  intro wr w' acc o ⟨u, h1, h2, h3⟩ hk
  have hp := (Array.getElem?_eq_some_iff.1 h1).1
  exact ⟨u, (hk p hp (Or.inl rfl)).trans h1, own_frame h2 (fun k e => hk k (own_lt h2 k e) (Or.inr (by rw [← h3, e]))), h3⟩
theorem load_box {w : World} {a : Addr} {v : Value} (h : w.cell? a = some v) : (loadVar 37 a).run Try.prog w = .ok v w := by
  have hu : Try.prog.underlying 37 = some (.slice 5) := Try.underlying37
  simp [go_sem, loadVar, run_underlying hu, h]
theorem results_cell3 {fn : Func} {p t u v : Nat} (h : fn.results = #[.cell p t, .tmp u, .tmp v]) (tmps : Array Value) (P : Program) (w : World) (a : Addr) (x : Value) (hp : tmps.getD p undef = .pointer (some a)) (hl : (loadVar t a).run P w = .ok x w) :
    (results fn tmps).run P w = .ok (.tuple #[x, tmps.getD u undef, tmps.getD v undef]) w := by
  simp only [results, h]
  have hp2 := hp
  simp only [Array.getD_eq_getD_getElem?] at hp2
  simp [asAddr, hp2, hl]
/-- What a block unpacks to; the error; its place. -/
def dec (b : List Int) (most : Int) : List Int × Int × Int :=
  if most < 0 ∨ 1048576 < most then ([], 1, 0)
  else if (run b.length most (b.length + 1) 0 b).2.1 = 0 then (outs [] (run b.length most (b.length + 1) 0 b).1, 0, b.length) else ([], (run b.length most (b.length + 1) 0 b).2)
set_option maxHeartbeats 4000000 in
set_option maxRecDepth 100000 in
theorem dec_take (w0 : World) (base p : Nat) (most : Int) (hm2 : most ≤ 1048576) (hbp : base ≤ p) (wr : World) (acc : List Sq) (o : Option Nat) (lit : List Int) (A2 : Option Addr) (c2 : Nat) (off len : Int) (hI : ID base p wr acc o ∧ ((outs [] acc).length : Int) = tot acc) (HB : Below base w0 wr) (hbase : base ≤ wr.heap.size) (hfit : Fits most (tot acc) lit off len) (h0 : 0 ≤ tot acc) (hC : ∀ w', Below base w0 w' → Kd.C (Kd.int .u8) w' A2 lit.length lit) (hc2 : lit.length ≤ c2) :
    Calls Try.prog 74 (#[.agg #[.slice A2 lit.length c2, .int .i64 off, .int .i64 len]] ++ #[.pointer (some ⟨p, 0, none⟩)]) wr fun e w' => e = .returned (.tuple #[]) ∧ Below base w0 w' ∧ wr.heap.size ≤ w'.heap.size ∧ (∀ k, k < wr.heap.size → k ≠ p → some k ≠ o → w'.heap[k]? = wr.heap[k]?) ∧ ∃ o', (ID base p w' (acc ++ [(lit, off, len)]) o' ∧ ((outs [] (acc ++ [(lit, off, len)])).length : Int) = tot (acc ++ [(lit, off, len)])) ∧ (o' = o ∨ ∃ q, o' = some q ∧ wr.heap.size ≤ q) ∧ (∀ q, o' = some q → q < w'.heap.size) := by
  obtain ⟨⟨u, hp, ho, rfl⟩, hlen⟩ := hI
  obtain ⟨f1, f2, f3, f4, f5⟩ := hfit
  obtain ⟨offn, rfl⟩ : ∃ n : Nat, off = n := ⟨off.toNat, by omega⟩
  obtain ⟨lenn, rfl⟩ : ∃ n : Nat, len = n := ⟨len.toNat, by omega⟩
  have hplt := (Array.getElem?_eq_some_iff.1 hp).1
  have hal : Below wr.heap.size wr (wr.alloc (.cells #[.slice A2 lit.length c2, .int .i64 offn, .int .i64 lenn] 114)) := below_alloc (Below.refl _ _) _
  have hun := unpack_any w0 base u (outs [] acc) lit A2 c2 offn lenn _ (ho.below hal) (HB.trans (hal.mono hbase)) (by have := hal.size; omega) hC (by omega) (by omega) (by omega) (by omega)
  have hcp : w0 = w0 := rfl
  have Ku := Aside0.mk hun
  have hp0 : wr.cell? ⟨p, 0, none⟩ = some u := (cell_of_row _ _ _ _ _ _ hp).trans rfl
  have hbox := own_box ho hp
  have K := Aside0.mk (And.intro hp (And.intro ho (And.intro hbox hal)))
  have Kl := Aside0.mk hlen
  have Kb := Aside0.mk HB
  have Kf := Aside0.mk (And.intro f2 (And.intro f3 f4))
  have Kr := Aside0.mk hplt
  have Kbs := Aside0.mk (And.intro hbp hbase)
  clear hp ho hbox hal hun hlen HB f1 f2 f3 f4 f5 hC hcp hbase hbp
  go_enter Try.func74, Try.ntmps74
  go_wp2_with (go_at_call 75; refine Ku.out.mono ?_; rintro e w1 ⟨v1, rfl, ho1, hb1, hg1, hat1⟩; have hp1 : w1.heap[p]? = some (.cells #[u] 37 (0, 0)) := (hg1.block p (by have := K.out.2.2.2.size; omega) (fun e => K.out.2.2.1 e.symm)).trans ((K.out.2.2.2.block p Kr.out).trans K.out.1); have hce : w1.cell? ⟨p, 0, none⟩ = some u := (cell_of_row _ _ _ _ _ _ hp1).trans rfl; have hfr : w1.frozen? ⟨p, 0, none⟩ = false := blk_frozen hp1 0; obtain ⟨A1, c1, hv1⟩ := Kd.R_slice ho1; obtain ⟨n1, hn1⟩ : ∃ n1, n1 = (cp (outs [] acc ++ lit) offn lenn).length := ⟨_, rfl⟩; rw [← hn1] at hv1; subst hv1; have K1 := Aside0.mk (And.intro hp1 (And.intro ho1 (And.intro hb1 (And.intro hg1 hat1)))); clear hp1 ho1 hb1 hg1 hat1 Ku hn1)
  go_end0
  obtain ⟨hp1, ho1, hb1, hg1, hat1⟩ := K1.out
  obtain ⟨f2, f3, f4⟩ := Kf.out
  have hal := K.out.2.2.2
  have hbox1 := own_box ho1 hp1
  have hsz := hg1.size
  have hsz0 := hal.size
  have hset : ∀ k, k ≠ p → (w1.setCell ⟨p, 0, none⟩ (.slice A1 n1 c1)).heap[k]? = w1.heap[k]? := fun k hk => Below.heap_setCell w1 ⟨p, 0, none⟩ _ k hk
  have ho2 : Row.OwnB (w1.setCell ⟨p, 0, none⟩ (.slice A1 n1 c1)) base (.slice A1 n1 c1) (cp (outs [] acc ++ lit) offn lenn) := own_frame ho1 fun k e => hset k fun e2 => hbox1 (by rw [e, e2])
  refine ⟨rfl, hb1.setCell Kbs.out.1 _, by simp only [World.size_setCell]; omega, fun k hk h1 h2 => (hset k h1).trans ((hg1.block k (by omega) h2).trans (hal.block k hk)), _, ⟨⟨_, blk_set hp1 0 _, ?_, rfl⟩, ?_⟩, ?_, own_lt ho2⟩
  · rw [outs_snoc]
    exact ho2
  · have := Kl.out
    rw [outs_snoc, tot_snoc, cp_length, List.length_append]
    simp only [Int.toNat_natCast]
    omega
  · rcases hat1 with e | ⟨q, e, hq⟩
    · exact Or.inl e
    · exact Or.inr ⟨q, e, by omega⟩
set_option maxHeartbeats 4000000 in
set_option maxRecDepth 100000 in
/-- Decode. -/
theorem decode_any (w : World) (b : List Int) (A : Option Addr) (c : Nat) (most : Int) (hC : ∀ w', Below w.heap.size w w' → Kd.C (Kd.int .u8) w' A b.length b) (hb : isB b) (hN : b.length ≤ 1000000) (hcap : b.length ≤ c) :
    Calls Try.prog 63 #[.slice A b.length c, .int .i64 most] w fun e w' => ∃ v, e = .returned (.tuple #[v, .int .i64 (dec b most).2.1, .int .i64 (dec b most).2.2]) ∧ Row.OwnB w' w.heap.size v (dec b most).1 ∧ Below w.heap.size w w' := by
  by_cases hm : most < 0 ∨ 1048576 < most
  · have hd : dec b most = ([], 1, 0) := by unfold dec; rw [if_pos hm]
    rw [hd]
    clear hC hd
    have hal : Below w.heap.size w (w.alloc (.cells #[.slice none 0 0] 37)) := below_alloc (Below.refl _ _) _
    have Kal := Aside0.mk hal
    clear hal
    rcases hm with hm | hm
    all_goals
      go_enter Try.func63, Try.ntmps63
      go_wp2
      refine bodyPost_ret (results_cell3 rfl _ _ _ ⟨w.heap.size, 0, none⟩ (.slice none 0 0) rfl (load_box ((cell_of_row _ _ _ _ _ _ (heap_alloc_new w _)).trans rfl))) rfl ?_
      exact ⟨_, rfl, Row.OwnB.nil _ _, Kal.out⟩
  obtain ⟨hm0, hm1⟩ : 0 ≤ most ∧ most ≤ 1048576 := by omega
  have KC := Aside0.mk hC
  have Kb := Aside0.mk hb
  have hal : Below w.heap.size w (w.alloc (.cells #[.slice none 0 0] 37)) := below_alloc (Below.refl _ _) _
  have hin := heap_alloc_new w (.cells #[.slice none 0 0] 37)
  have heach := each_dec w w.heap.size b A c most w.heap.size (fun wr acc o => ID w.heap.size w.heap.size wr acc o ∧ ((outs [] acc).length : Int) = tot acc) none (w.alloc (.cells #[.slice none 0 0] 37)) (fun wr w' acc o h hk => ⟨ID_stab _ _ wr w' acc o h.1 hk, h.2⟩) (fun wr acc o lit A2 c2 off len hI HB hbase hfit h0 hC hc2 => dec_take w w.heap.size w.heap.size most hm1 (Nat.le_refl _) wr acc o lit A2 c2 off len hI HB hbase hfit h0 hC hc2) ⟨⟨_, hin, Row.OwnB.nil _ _, rfl⟩, rfl⟩ (by simp) (by simp) hal (by simp) KC.out Kb.out hN hm0 hm1 hcap
  have hd : dec b most = if (run b.length most (b.length + 1) 0 b).2.1 = 0 then (outs [] (run b.length most (b.length + 1) 0 b).1, 0, (b.length : Int)) else ([], (run b.length most (b.length + 1) 0 b).2) := by unfold dec; rw [if_neg hm]
  unfold EP at heach
  obtain ⟨l, er, pp, hrun⟩ : ∃ l er pp, run b.length most (b.length + 1) 0 b = (l, er, pp) := ⟨_, _, _, rfl⟩
  rw [hrun] at hd heach
  simp only at hd heach
  have Ke := Aside0.mk heach
  clear hal hin heach hrun hC hb hm
  by_cases her : er = 0
  · subst her
    rw [if_pos rfl] at hd
    rw [hd]
    clear hd
    go_enter Try.func63, Try.ntmps63
    go_wp2_with (go_at_call 73; refine Ke.out.mono ?_; rintro e w1 ⟨g, at2, s2, o', rfl, hg, hR, htot, hb1, hs1, hf1, ⟨⟨u, hu1, hu2, hu3⟩, hlen⟩, ho', hlt'⟩; obtain ⟨A1, c1, hv1⟩ := Kd.R_slice hu2; obtain ⟨n1, hn1⟩ : ∃ n1, n1 = (outs [] l).length := ⟨_, rfl⟩; rw [← hn1] at hv1; subst hv1; have Kg := Aside0.mk (own_box hu2 hu1); have hpc : w1.cell? ⟨w.heap.size, 0, none⟩ = some (.slice A1 n1 c1) := (cell_of_row _ _ _ _ _ _ hu1).trans rfl; have hpf : w1.frozen? ⟨w.heap.size, 0, none⟩ = false := blk_frozen hu1 0; have hg4 := (RD_cells hR).2.2.2.2.1; have K1 := Aside0.mk (And.intro hu1 (And.intro hu2 hb1)); clear hR htot hb1 hs1 hf1 hu1 hu2 hu3 hlen ho' hlt' hn1 Ke)
    obtain ⟨hu1, hu2, hb1⟩ := K1.out
    refine bodyPost_ret (results_cell3 rfl _ _ _ ⟨w.heap.size, 0, none⟩ (.slice A1 n1 c1) rfl (load_box ((cell_of_row _ _ _ _ _ _ (blk_set hu1 0 _)).trans rfl))) rfl ?_
    exact ⟨_, rfl, own_frame hu2 fun k e => Below.heap_setCell w1 ⟨w.heap.size, 0, none⟩ _ k fun e2 => Kg.out (by rw [e, e2]), hb1.setCell (Nat.le_refl _) _⟩
  · rw [if_neg her] at hd
    rw [hd]
    clear hd
    have hne : ((er : Int) == 0) = false := by simpa using her
    go_enter Try.func63, Try.ntmps63
    go_wp2_with (go_at_call 73; refine Ke.out.mono ?_; rintro e w1 ⟨g, at2, s2, o', rfl, hg, hR, htot, hb1, hs1, hf1, ⟨⟨u, hu1, hu2, hu3⟩, hlen⟩, ho', hlt'⟩; obtain ⟨A1, c1, hv1⟩ := Kd.R_slice hu2; obtain ⟨n1, hn1⟩ : ∃ n1, n1 = (outs [] l).length := ⟨_, rfl⟩; rw [← hn1] at hv1; subst hv1; have hpc : w1.cell? ⟨w.heap.size, 0, none⟩ = some (.slice A1 n1 c1) := (cell_of_row _ _ _ _ _ _ hu1).trans rfl; have hpf : w1.frozen? ⟨w.heap.size, 0, none⟩ = false := blk_frozen hu1 0; obtain ⟨g0, g1, g2, g3, hg4, hg5⟩ := (RD_cells hR); have hgp : w.heap.size < g := Nat.lt_of_succ_le (by simpa using hg); have K1 := Aside0.mk (And.intro hu1 hb1); clear g0 g1 g2 g3 hg hR htot hb1 hs1 hf1 hu1 hu2 hu3 hlen ho' hlt' hn1 Ke)
    refine start_ (n := 11) (S := fun w' => w'.cell? ⟨g, 4, none⟩ = some (.int .i64 er) ∧ w'.cell? ⟨g, 5, none⟩ = some (.int .i64 pp)) (ds := []) #[false, false, false, false, false, false, false, false, false, false, false] (by kernel_rfl) rfl rfl ⟨(show w1.cell? _ = _ from hg4), (show w1.cell? _ = _ from hg5)⟩ (fun hHeld => ?_)
    refine pure_ (i := 0) (N := some 23) (v := ?_) (a' := ?_) #[true, false, false, false, false, false, false, false, false, false, false] rfl rfl (by kernel_rfl) (fun _ _ _ h => h) (Or.inl ⟨by rfl, ?_⟩) ?_ ?_
    rotate_left
    · intro w'
      go_simp
      with_reducible rfl
    rotate_left
    · simp only [Act.put, List.setIfInBounds_toArray, List.set_cons_zero, List.set_cons_succ, i64_w, i32_w]
      rfl
    refine pure_ (i := 1) (N := some 24) (v := ?_) (a' := ?_) #[true, true, false, false, false, false, false, false, false, false, false] rfl rfl (by kernel_rfl) (fun _ _ _ h => h) (Or.inl ⟨by rfl, ?_⟩) ?_ ?_
    rotate_left
    · intro w'
      go_simp
      with_reducible rfl
    rotate_left
    · simp only [Act.put, List.setIfInBounds_toArray, List.set_cons_zero, List.set_cons_succ, i64_w, i32_w]
      rfl
    refine pure_ (i := 2) (N := some 25) (v := ?_) (a' := ?_) #[true, true, true, false, false, false, false, false, false, false, false] rfl rfl (by kernel_rfl) (fun _ _ _ h => h) (Or.inl ⟨by rfl, ?_⟩) ?_ ?_
    rotate_left
    · intro w'
      go_simp
      with_reducible rfl
    rotate_left
    · simp only [Act.put, List.setIfInBounds_toArray, List.set_cons_zero, List.set_cons_succ, i64_w, i32_w]
      rfl
    refine pure_ (i := 4) (N := some 27) (v := ?_) (a' := ?_) #[true, true, true, false, true, false, false, false, false, false, false] rfl rfl (by kernel_rfl) (fun _ _ _ h => h) (Or.inl ⟨by rfl, ?_⟩) ?_ ?_
    rotate_left
    · intro w'
      go_simp
      with_reducible rfl
    rotate_left
    · simp only [Act.put, List.setIfInBounds_toArray, List.set_cons_zero, List.set_cons_succ, i64_w, i32_w]
      rfl
    refine pure_ (i := 5) (N := some 28) (v := ?_) (a' := ?_) #[true, true, true, false, true, true, false, false, false, false, false] rfl rfl (by kernel_rfl) (fun _ _ _ h => h) (Or.inl ⟨by rfl, ?_⟩) ?_ ?_
    rotate_left
    · intro w'
      go_simp
      with_reducible rfl
    rotate_left
    · simp only [Act.put, List.setIfInBounds_toArray, List.set_cons_zero, List.set_cons_succ, i64_w, i32_w]
      rfl
    refine pure_ (i := 6) (N := some 29) (v := ?_) (a' := ?_) #[true, true, true, false, true, true, true, false, false, false, false] rfl rfl (by kernel_rfl) (fun _ _ _ h => h) (Or.inl ⟨by rfl, ?_⟩) ?_ ?_
    rotate_left
    · intro w'
      go_simp
      with_reducible rfl
    rotate_left
    · simp only [Act.put, List.setIfInBounds_toArray, List.set_cons_zero, List.set_cons_succ, i64_w, i32_w]
      rfl
    refine take_ (i := 3) (N := some 26) (v := ?_) (a' := ?_) #[true, true, true, true, true, true, true, false, false, false, false] rfl rfl (by kernel_rfl) (fun _ _ _ h => h) (Or.inl ⟨by rfl, ?_⟩) hHeld ?_ ?_
    rotate_left
    · rintro w' ⟨s0, s1⟩
      go_simp
      with_reducible rfl
    rotate_left
    · simp only [Act.put, List.setIfInBounds_toArray, List.set_cons_zero, List.set_cons_succ, i64_w, i32_w]
      rfl
    refine take_ (i := 7) (N := some 30) (v := ?_) (a' := ?_) #[true, true, true, true, true, true, true, true, false, false, false] rfl rfl (by kernel_rfl) (fun _ _ _ h => h) (Or.inl ⟨by rfl, ?_⟩) hHeld ?_ ?_
    rotate_left
    · rintro w' ⟨s0, s1⟩
      go_simp
      with_reducible rfl
    rotate_left
    · simp only [Act.put, List.setIfInBounds_toArray, List.set_cons_zero, List.set_cons_succ, i64_w, i32_w]
      rfl
    refine one_ (i := 8) (N := none) #[true, true, true, true, true, true, true, true, true, false, false] rfl rfl (by kernel_rfl) (by decide) (fun K hK => ?_)
    refine skip_ (w1 := ?_) (by rfl) rfl ?_ ?_
    rotate_left
    · go_simp
      rfl
    refine hK.out _ _ ⟨((World.cell?_of_block (a := ⟨g, 4, none⟩) (Below.heap_setCell _ ⟨w.heap.size, 0, none⟩ _ g (Nat.ne_of_gt hgp))).trans hg4), ((World.cell?_of_block (a := ⟨g, 5, none⟩) (Below.heap_setCell _ ⟨w.heap.size, 0, none⟩ _ g (Nat.ne_of_gt hgp))).trans hg5)⟩ (fun hHeld => ?_)
    clear hK K
    refine pure_ (i := 9) (N := some 5) (v := ?_) (a' := ?_) #[true, true, true, true, true, true, true, true, true, true, false] rfl rfl (by kernel_rfl) (fun _ _ _ h => h) (Or.inl ⟨by rfl, ?_⟩) ?_ ?_
    rotate_left
    · intro w'
      go_simp
      with_reducible rfl
    rotate_left
    · simp only [Act.put, List.setIfInBounds_toArray, List.set_cons_zero, List.set_cons_succ, i64_w, i32_w]
      rfl
    refine pure_ (i := 10) (N := some 6) (v := ?_) (a' := ?_) #[true, true, true, true, true, true, true, true, true, true, true] rfl rfl (by kernel_rfl) (fun _ _ _ h => h) (Or.inl ⟨by rfl, ?_⟩) ?_ ?_
    rotate_left
    · intro w'
      go_simp
      with_reducible rfl
    rotate_left
    · simp only [Act.put, List.setIfInBounds_toArray, List.set_cons_zero, List.set_cons_succ, i64_w, i32_w]
      rfl
    refine done_ (by kernel_rfl) ?_
    go_wp2
    have hu3 := blk_set K1.out.1 0 (.slice none 0 0)
    refine bodyPost_ret (results_cell3 rfl _ _ _ ⟨w.heap.size, 0, none⟩ (.slice none 0 0) rfl (load_box ((cell_of_row _ _ _ _ _ _ (show (w1.setCell ⟨w.heap.size, 0, none⟩ (.slice none 0 0)).drew.heap[w.heap.size]? = _ from hu3)).trans rfl))) rfl ?_
    exact ⟨_, rfl, Row.OwnB.nil _ _, (K1.out.2.setCell (Nat.le_refl _) _).drew⟩
end Go.Proofs.Ytpdggoapjbjmhaa.Lz
/- Blocks are unpacked: the page's examples. -/
set_option linter.unusedVariables false
set_option linter.unusedSimpArgs false
namespace Go.Proofs.Ytpdggoapjbjmhaa.Lz
open Go.RowKit Go.Proofs.YtpdggoapjbjmhaaW.PrintWords Go.Proofs.YtpdggoapjbjmhaaW.PrintLast Go.Proofs.YtpdggoapjbjmhaaW.PrintMore
end Go.Proofs.Ytpdggoapjbjmhaa.Lz
/- Blocks are unpacked: lower bounds. -/
set_option linter.unusedVariables false
set_option linter.unusedSimpArgs false
namespace Go.Proofs.Ytpdggoapjbjmhaa
open Go.RowKit Go.Proofs.YtpdggoapjbjmhaaW.PrintWords Go.Proofs.YtpdggoapjbjmhaaW.PrintLast Go.Proofs.YtpdggoapjbjmhaaW.PrintMore
namespace Lz
theorem step_low {N : Nat} {M most size : Int} {r : List Int} (hb : isB r) (hr : r.length ≤ N) (hs : 0 ≤ size) (hsm : size ≤ most) (hM : most ≤ M) :
    step N most size r = step N M size r ∨ ∃ p, step N most size r = .fail 2 p ∧ p < N ∧ (∀ lit, step N M size r = .last lit → most < size + lit.length) ∧ (∀ lit off len rest, step N M size r = .seq lit off len rest → most < size + lit.length + len) := by
  match r, hb, hr with
  | [], _, _ => exact Or.inl rfl
  | t :: r, hb, hr =>
    have ht := hb t (by simp)
    have hb1 : isB r := fun x hx => hb x (by simp [hx])
    simp only [step]
    split
    · exact Or.inl rfl
    · rename_i n r1 hL
      obtain ⟨s1, s2, s3, k, rfl⟩ := lenH_spec hb1 (by omega) hL
      by_cases h1 : most - size < n
      · refine Or.inr ⟨(N : Int) - (r.length + 1), by rw [if_pos h1], by omega, ?_, ?_⟩
        · intro lit
          split
          · intro h; cases h
          split
          · intro h; cases h
          have hll : (((r.drop k).take n.toNat).length : Int) = n := by rw [List.length_take]; omega
          unfold tailS
          split
          · intro h; injection h with h; subst h; omega
          · intro h; cases h
          · split
            · intro h; cases h
            split
            · intro h; cases h
            split <;> (intro h; cases h)
        · intro lit off len rest
          split
          · intro h; cases h
          split
          · intro h; cases h
          have hll : (((r.drop k).take n.toNat).length : Int) = n := by rw [List.length_take]; omega
          unfold tailS
          split
          · intro h; cases h
          · intro h; cases h
          · rename_i x y r3 hr3
            have hbj : isB (x :: y :: r3) := by rw [← hr3]; exact isB_drop (isB_drop hb1 k) _
            have hb3 : isB r3 := fun z hz => hbj z (by simp [hz])
            split
            · intro h; cases h
            split
            · intro h; cases h
            · rename_i m r4 hM2
              have := (lenH_spec hb3 (by omega) hM2).2.1
              split
              · intro h; cases h
              · intro h; injection h with e1 e2 e3 e4; subst e1 e3; omega
      · rw [if_neg h1, if_neg (by omega : ¬ M - size < n)]
        by_cases h2 : ((r.drop k).length : Int) < n
        · rw [if_pos h2, if_pos h2]; exact Or.inl rfl
        rw [if_neg h2, if_neg h2]
        have hll : (((r.drop k).take n.toNat).length : Int) = n := by rw [List.length_take]; omega
        unfold tailS
        split
        · exact Or.inl rfl
        · exact Or.inl rfl
        · split
          · exact Or.inl rfl
          split
          · exact Or.inl rfl
          · rename_i m r4 hM2
            by_cases h3 : most - (size + n) < m + 4
            · refine Or.inr ⟨(N : Int) - (r.length + 1), by rw [if_pos h3], by omega, ?_, ?_⟩
              · intro lit
                split <;> (intro h; cases h)
              · intro lit off len rest
                split
                · intro h; cases h
                · intro h; injection h with e1 e2 e3 e4; subst e1 e3; omega
            · rw [if_neg h3, if_neg (by omega : ¬ M - (size + n) < m + 4)]; exact Or.inl rfl
theorem run_tot {N : Nat} {most : Int} : ∀ (f : Nat) (size : Int) (r : List Int), isB r → 0 ≤ size → size ≤ most → 0 ≤ tot (run N most f size r).1 ∧ (∀ s ∈ (run N most f size r).1, 0 ≤ s.2.2) ∧ ((run N most f size r).2.1 = 0 → size + tot (run N most f size r).1 ≤ most) ∧ ((run N most f size r).2.1 = 0 ∨ (run N most f size r).2.1 = 2 ∨ (run N most f size r).2.1 = 6 ∨ (run N most f size r).2.1 = 9)
  | 0, size, r, _, _, _ => by simp [run, tot]
  | f + 1, size, r, hb, hs, hsm => by
    obtain ⟨s1, s2, s3⟩ := step_spec (N := N) hb hs hsm
    unfold run
    cases h : step N most size r with
    | fail e p => have := s1 e p h; simp [tot]; omega
    | last lit => have := (s2 lit h).lit0; simp [tot]; omega
    | seq lit off len rest =>
      obtain ⟨hf, h1, h2, k, rfl⟩ := s3 _ _ _ _ h
      obtain ⟨g1, g2, g3, g4, g5⟩ := hf
      obtain ⟨i1, i2, i3, i4⟩ := run_tot (N := N) (most := most) f (size + lit.length + len) (r.drop k) (isB_drop hb k) (by omega) (by omega)
      refine ⟨by simp only [tot]; omega, fun s hs => ?_, fun h => ?_, i4⟩
      · simp only [List.mem_cons] at hs
        rcases hs with rfl | hs
        · exact g2
        · exact i2 s hs
      · have := i3 h
        simp only [tot]
        omega
theorem run_low {N : Nat} {M most : Int} (hM : most ≤ M) : ∀ (f : Nat) (size : Int) (r : List Int), isB r → r.length ≤ N → 0 ≤ size → size ≤ most → r.length < f →
    (run N most f size r = run N M f size r ∧ ((run N M f size r).2.1 = 0 → size + tot (run N M f size r).1 ≤ most)) ∨
    ((run N most f size r).2.1 = 2 ∧ (run N most f size r).2.2 < N ∧ ((run N M f size r).2.1 = 0 → most < size + tot (run N M f size r).1))
  | 0, size, r, _, _, _, _, h => by omega
  | f + 1, size, r, hb, hr, hs, hsm, hf => by
    obtain ⟨s1, s2, s3⟩ := step_spec (N := N) hb hs hsm
    obtain ⟨t1, t2, t3⟩ := step_spec (N := N) (most := M) hb hs (by omega)
    rcases step_low (N := N) hb hr hs hsm hM with he | ⟨p, he, hp, q1, q2⟩
    · simp only [run]
      rw [he]
      rw [he] at s1 s2 s3
      cases h : step N M size r with
      | fail e p => exact Or.inl ⟨rfl, fun h0 => by have := s1 e p h; simp only at h0; omega⟩
      | last lit => exact Or.inl ⟨rfl, fun _ => by have := (s2 lit h).lit0; simp only [tot]; omega⟩
      | seq lit off len rest =>
        obtain ⟨hfit, h1, h2, k, rfl⟩ := s3 _ _ _ _ h
        obtain ⟨g1, g2, g3, g4, g5⟩ := hfit
        rcases run_low (N := N) (M := M) (most := most) hM f (size + lit.length + len) (r.drop k) (isB_drop hb k) (by rw [List.length_drop]; omega) (by omega) (by omega) (by omega) with ⟨i1, i2⟩ | ⟨i1, i2, i3⟩
        · refine Or.inl ⟨by simp only; rw [i1], fun h0 => ?_⟩
          have := i2 h0
          simp only [tot]
          omega
        · refine Or.inr ⟨i1, i2, fun h0 => ?_⟩
          have := i3 h0
          simp only [tot]
          omega
    · refine Or.inr ?_
      simp only [run]
      rw [he]
      refine ⟨rfl, hp, ?_⟩
      cases h : step N M size r with
      | fail e p => intro h0; have := t1 e p h; simp only at h0; omega
      | last lit => intro _; have := q1 lit h; simp only [tot]; omega
      | seq lit off len rest =>
        intro h0
        obtain ⟨hfit, h1, h2, k, rfl⟩ := t3 _ _ _ _ h
        have := q2 _ _ _ _ h
        have := (run_tot (N := N) (most := M) f (size + lit.length + len) (r.drop k) (isB_drop hb k) (by have := hfit.len0; omega) (by have := hfit.len1; omega)).1
        simp only [tot]
        omega
end Lz
namespace LzBounds
end LzBounds
end Go.Proofs.Ytpdggoapjbjmhaa
/- Blocks are unpacked: the document's lengths; rows of sequences. -/
set_option linter.unusedVariables false
set_option linter.unusedSimpArgs false
namespace Go.Proofs.Ytpdggoapjbjmhaa.Lz
open Go.RowKit Go.Proofs.YtpdggoapjbjmhaaW.PrintWords Go.Proofs.YtpdggoapjbjmhaaW.PrintLast Go.Proofs.YtpdggoapjbjmhaaW.PrintMore
set_option maxHeartbeats 1000000 in
set_option maxRecDepth 100000 in
theorem reflen_any {w : World} {A : Option Addr} {c : Nat} {at_ : Nat} {b : List Int} (hC : Kd.C (Kd.int .u8) w A b.length b) (hb : isB b) (hN : b.length ≤ 4000000) (ha : at_ ≤ b.length) (n : Int) (hn0 : 0 ≤ n) (hn1 : n ≤ 15) :
    Calls Try.prog 72 #[.slice A b.length c, .int .i64 n, .int .i64 at_] w fun e w' => w' = w ∧ ((lenH n (b.drop at_) = none ∧ e = .returned (.tuple #[.int .i64 (-1), .int .i64 b.length])) ∨
      (∃ (m : Int) (at2 : Nat), lenH n (b.drop at_) = some (m, b.drop at2) ∧ at_ ≤ at2 ∧ at2 ≤ b.length ∧ 0 ≤ m ∧ m ≤ 15 + 255 * b.length ∧ e = .returned (.tuple #[.int .i64 m, .int .i64 at2]))) := by
  by_cases hlt : n < 15
  · clear hC
    go_enter Try.func72, Try.ntmps72
    go_wp2
    go_ret2
    exact ⟨rfl, Or.inr ⟨n, at_, by simp [lenH, hlt], Nat.le_refl _, ha, hn0, by omega, rfl⟩⟩
  have hL : lenH n (b.drop at_) = lenL n (b.drop at_) := by simp [lenH, hlt]
  rw [hL]
  have KC := Aside0.mk hC
  have Kb := Aside0.mk hb
  clear hC hb hL
  go_enter Try.func72, Try.ntmps72
  go_wp2
  go_loopw [1, 2] (fun v i wr => ∃ (k : Nat) (m : Int), at_ ≤ k ∧ k ≤ b.length ∧ 0 ≤ m ∧ m ≤ 15 + 255 * (k : Int) ∧ v = .int .i64 m ∧ i = .int .i64 k ∧ wr = w ∧ Aside0 (lenL n (b.drop at_) = lenL m (b.drop k))) (fun _ i _ => b.length - (intOf i).toNat)
  case atStart => exact ⟨at_, n, Nat.le_refl _, ha, hn0, by omega, rfl, rfl, rfl, ⟨rfl⟩⟩
  case round =>
    obtain ⟨k, m, hk0, hk, hm0, hm1, rfl, rfl, rfl, HL⟩ := hrel
    by_cases hlt2 : k < b.length
    · obtain ⟨ad, e, hx⟩ := Kd.at_int KC.out (k : Int) (by omega) (by omega)
      subst e
      obtain ⟨x, hxx⟩ : ∃ x, x = b[k] := ⟨_, rfl⟩
      rw [rd_at hlt2, ← hxx, Int.toNat_natCast] at hx
      have hxb := Kb.out x (by rw [hxx]; exact List.getElem_mem hlt2)
      have hdr : b.drop k = x :: b.drop (k + 1) := by rw [hxx]; exact drop_cons hlt2
      have Kdr := Aside0.mk hdr
      clear hxx hdr
      by_cases h255 : x = 255
      · subst h255
        go_wp2
        refine ⟨⟨k + 1, m + 255, by omega, by omega, by omega, by omega, rfl, by go_num, trivial, ⟨?_⟩⟩, ?_⟩
        · rw [HL.out, Kdr.out]
          conv => lhs; unfold lenL
          rw [if_neg (by omega)]
        · simp [intOf]
          omega
      · have hne : (x == 255) = false := by simpa using h255
        go_wp2
        go_ret2
        refine ⟨rfl, Or.inr ⟨m + x, k + 1, ?_, by omega, by omega, by omega, by omega, rfl⟩⟩
        rw [HL.out, Kdr.out]
        unfold lenL
        rw [if_pos (by omega)]
    · obtain rfl : k = b.length := by omega
      go_wp2
      go_ret2
      refine ⟨rfl, Or.inl ⟨?_, rfl⟩⟩
      rw [HL.out, List.drop_length]
      rfl
/-- A row of sequences, cell by cell. -/
inductive SC (w0 : World) (base : Nat) : List Sq → List Value → Prop
  | nil : SC w0 base [] []
  | snoc {acc : List Sq} {cells : List Value} {lit : List Int} {off len : Int} {A : Option Addr} {c : Nat} (h : SC w0 base acc cells) (hC : ∀ w', Below base w0 w' → Kd.C (Kd.int .u8) w' A lit.length lit) (hc : lit.length ≤ c) : SC w0 base (acc ++ [(lit, off, len)]) (cells ++ [.slice A lit.length c, .int .i64 off, .int .i64 len])
/-- A row of sequences of the call's own. -/
def RowL (w0 : World) (base : Nat) (wr : World) (v : Value) (acc : List Sq) : Prop := ∃ cells, wr.ownsRow base 114 3 v acc.length cells ∧ SC w0 base acc cells
section
variable {w0 w wr w1 : World} {base sb : Nat} {u8 u9 : Value} {acc : List Sq} {ys : List Int}
theorem RowL.nil (w0 w : World) (base : Nat) : RowL w0 base w (.slice none 0 0) [] := ⟨[], World.ownsRow_nil _ _ _ _, .nil⟩
theorem RowL.lt (h : RowL w0 base wr u9 acc) : ∀ k, u9.ownBlock = some k → k < wr.heap.size := fun k hk => by obtain ⟨cells, h1, _⟩ := h; exact (h1.lt k hk).2
theorem RowL.frame (h : RowL w0 base wr u9 acc) (hb : ∀ k, u9.ownBlock = some k → w1.heap[k]? = wr.heap[k]?) : RowL w0 base w1 u9 acc := by
  obtain ⟨cells, h0, hs⟩ := h
  refine ⟨cells, ?_, hs⟩
  obtain ⟨hl, h1 | ⟨g, cap, cur, hv, hg, hh, r1⟩⟩ := h0
  · exact ⟨hl, Or.inl h1⟩
  · exact ⟨hl, Or.inr ⟨g, cap, cur, hv, hg, (hb g (by rw [hv]; rfl)).trans hh, r1⟩⟩
theorem RowL.below (h : RowL w0 base wr u9 acc) (hb : Below wr.heap.size wr w1) : RowL w0 base w1 u9 acc := h.frame fun k hk => hb.block k (h.lt k hk)
theorem RowL.grown (h : RowL w0 base wr u9 acc) (ho : Row.OwnB wr base u8 ys) (hg : wr.grownBy w1 u8.ownBlock) : RowL w0 base w1 u9 acc := by
  obtain ⟨cells, h0, hs⟩ := h
  exact ⟨cells, own_other h0 hg (own_type_ne h0 (Kd.own_of_R ho) (by decide)), hs⟩
theorem own_grown_l (h : RowL w0 base wr u9 acc) (ho : Row.OwnB wr base u8 ys) (hg : wr.grownBy w1 u9.ownBlock) : Row.OwnB w1 base u8 ys := by
  obtain ⟨cells, h0, hs⟩ := h
  exact ho.grown hg (own_type_ne (Kd.own_of_R ho) h0 (by decide))
theorem box_ne (ho : Row.OwnB wr base u8 ys) {cs : Array Value} (hs : wr.heap[sb]? = some (.cells cs 114 (0, 0))) : u8.ownBlock ≠ some sb := fun e => own_ne (Kd.own_of_R ho) hs (by decide) e.symm
end
end Go.Proofs.Ytpdggoapjbjmhaa.Lz
/- Blocks are unpacked: the document's answer. -/
set_option linter.unusedVariables false
set_option linter.unusedSimpArgs false
namespace Go.Proofs.Ytpdggoapjbjmhaa.Lz
open Go.RowKit Go.Proofs.YtpdggoapjbjmhaaW.PrintWords Go.Proofs.YtpdggoapjbjmhaaW.PrintLast Go.Proofs.YtpdggoapjbjmhaaW.PrintMore
/-- What stands at the head of the loop. -/
structure LR (w : World) (b : List Int) (most : Int) (wr : World) (u8 u9 : Value) (acc : List Sq) (n at_ f : Nat) : Prop where
  own : Row.OwnB wr w.heap.size u8 (outs [] acc)
  row : RowL w w.heap.size wr u9 acc
  below : Below w.heap.size w wr
  len : (outs [] acc).length = n
  tot : tot acc = n
  tot1 : (n : Int) ≤ most
  at0 : at_ ≤ b.length
  cnt : acc.length ≤ at_
  fuel : b.length - at_ < f
  eq : run b.length most (b.length + 1) 0 b = (acc ++ (run b.length most f n (b.drop at_)).1, (run b.length most f n (b.drop at_)).2)
/-- What the document's Decode answers. -/
def RP (w : World) (b : List Int) (most : Int) (e : Ending) (w' : World) : Prop :=
  ∃ v8 v9, e = .returned (.tuple #[v8, v9, .int .i64 (run b.length most (b.length + 1) 0 b).2.1, .int .i64 (if (run b.length most (b.length + 1) 0 b).2.1 = 0 then (b.length : Int) else (run b.length most (b.length + 1) 0 b).2.2)]) ∧ Below w.heap.size w w' ∧
    Row.OwnB w' w.heap.size v8 (if (run b.length most (b.length + 1) 0 b).2.1 = 0 then outs [] (run b.length most (b.length + 1) 0 b).1 else []) ∧ RowL w w.heap.size w' v9 (if (run b.length most (b.length + 1) 0 b).2.1 = 0 then (run b.length most (b.length + 1) 0 b).1 else [])
section
variable {w wr w' : World} {b : List Int} {most : Int} {u8 u9 : Value} {acc : List Sq} {n at_ f : Nat}
theorem LR_fail {er pp : Int} (h : LR w b most wr u8 u9 acc n at_ f) (hst : step b.length most n (b.drop at_) = .fail er pp) (hne : er ≠ 0) (hb : Below w.heap.size w w') : RP w b most (.returned (.tuple #[.slice none 0 0, .slice none 0 0, .int .i64 er, .int .i64 pp])) w' := by
  obtain ⟨f', rfl⟩ : ∃ f', f = f' + 1 := ⟨f - 1, by have := h.fuel; omega⟩
  have hrun : run b.length most (b.length + 1) 0 b = (acc, er, pp) := by
    have h0 := h.eq
    simp only [run, hst, List.append_nil] at h0
    simpa only [run] using h0
  unfold RP
  rw [hrun]
  simp only
  rw [if_neg hne, if_neg hne, if_neg hne]
  exact ⟨_, _, rfl, hb, Row.OwnB.nil _ _, RowL.nil _ _ _⟩
theorem LR_last {lit : List Int} {v8 v9 : Value} (h : LR w b most wr u8 u9 acc n at_ f) (hst : step b.length most n (b.drop at_) = .last lit) (ho : Row.OwnB w' w.heap.size v8 (outs [] acc ++ lit)) (hr : RowL w w.heap.size w' v9 (acc ++ [(lit, 0, 0)])) (hb : Below w.heap.size w w') : RP w b most (.returned (.tuple #[v8, v9, .int .i64 0, .int .i64 b.length])) w' := by
  obtain ⟨f', rfl⟩ : ∃ f', f = f' + 1 := ⟨f - 1, by have := h.fuel; omega⟩
  have hrun : run b.length most (b.length + 1) 0 b = (acc ++ [(lit, 0, 0)], 0, 0) := by
    have h0 := h.eq
    simp only [run, hst] at h0
    simpa only [run] using h0
  unfold RP
  rw [hrun]
  simp only
  rw [if_pos True.intro, if_pos True.intro, if_pos True.intro, outs_snoc]
  exact ⟨_, _, rfl, hb, ho, hr⟩
theorem LR_seq {lit rest : List Int} {off len : Nat} {at2 : Nat} {v8 v9 : Value} (h : LR w b most wr u8 u9 acc n at_ f) (hst : step b.length most n (b.drop at_) = .seq lit off len rest) (hrest : rest = b.drop at2) (hat2 : at2 ≤ b.length) (hlt : at_ < at2) (hm : (n : Int) + lit.length + len ≤ most)
    (ho : Row.OwnB w' w.heap.size v8 (cp (outs [] acc ++ lit) off len)) (hr : RowL w w.heap.size w' v9 (acc ++ [(lit, (off : Int), (len : Int))])) (hb : Below w.heap.size w w') : ∃ f', LR w b most w' v8 v9 (acc ++ [(lit, (off : Int), (len : Int))]) (n + lit.length + len) at2 f' := by
  obtain ⟨f', rfl⟩ : ∃ f', f = f' + 1 := ⟨f - 1, by have := h.fuel; omega⟩
  subst hrest
  have h1 := h.len
  have h2 := h.tot
  have h3 := h.fuel
  have h4 := h.cnt
  refine ⟨f', ?_, hr, hb, ?_, ?_, by omega, hat2, by simp; omega, by omega, ?_⟩
  · rw [outs_snoc]; exact ho
  · rw [outs_snoc, cp_length, List.length_append]; simp only [Int.toNat_natCast]; omega
  · rw [tot_snoc, h2]; simp only; omega
  · have h0 := h.eq
    rw [show run b.length most (f' + 1) n (b.drop at_) = ((lit, (off : Int), (len : Int)) :: (run b.length most f' (n + lit.length + len) (b.drop at2)).1, (run b.length most f' (n + lit.length + len) (b.drop at2)).2) by
      conv => lhs; unfold run
      rw [hst]] at h0
    rw [h0, List.append_assoc, List.singleton_append]
    simp only [Int.natCast_add]
end
theorem infoSeq : (Try.prog.info? 114).map (fun i => (i.zero, i.size, i.bytes)) = some (some (.agg #[.slice none 0 0, .int .i64 0, .int .i64 0]), 3, 40) := by kernel_rfl
theorem row_slice {w : World} {base e size n : Nat} {v : Value} {xs : List Value} (h : w.ownsRow base e size v n xs) : ∃ A c, v = .slice A n c := by
  obtain ⟨_, ⟨h1, h2⟩ | ⟨g, cap, cur, hv, _⟩⟩ := h
  · exact ⟨none, 0, by rw [h1, h2]⟩
  · exact ⟨_, _, hv⟩
theorem RowL_snoc {w0 w1 : World} {base nn cL : Nat} {v1 : Value} {acc : List Sq} {cells : List Value} {lit : List Int} {off len : Int} {A : Option Addr} (h : SC w0 base acc cells) (hl : lit.length = nn) (hC : ∀ w', Below base w0 w' → Kd.C (Kd.int .u8) w' A lit.length lit) (hc : nn ≤ cL) (hr : w1.ownsRow base 114 3 v1 (acc.length + 1) (cells ++ [.slice A nn cL, .int .i64 off, .int .i64 len])) : RowL w0 base w1 v1 (acc ++ [(lit, off, len)]) := by
  subst hl
  exact ⟨_, by simpa using hr, .snoc h hC hc⟩
theorem ref_off {x y : Int} {o : Nat} (hx : 0 ≤ x ∧ x < 256) (hy : 0 ≤ y ∧ y < 256) (h : (o : Int) = x + y * 256) : wrap64 (wrap64 x + wrap64 (256 * wrap64 y)) = (o : Int) := by
  rw [show wrap64 y = y by unfold wrap64; omega, show wrap64 x = x by unfold wrap64; omega, show wrap64 (256 * y) = 256 * y by unfold wrap64; omega]
  unfold wrap64
  omega
theorem reflen_none {w : World} {A : Option Addr} {c : Nat} {at_ : Nat} {b : List Int} (hC : Kd.C (Kd.int .u8) w A b.length b) (hb : isB b) (hN : b.length ≤ 4000000) (ha : at_ ≤ b.length) (n : Int) (hn0 : 0 ≤ n) (hn1 : n ≤ 15) (hL : lenH n (b.drop at_) = none) :
    Calls Try.prog 72 #[.slice A b.length c, .int .i64 n, .int .i64 at_] w fun e w' => e = .returned (.tuple #[.int .i64 (-1), .int .i64 b.length]) ∧ w = w' :=
  (reflen_any hC hb hN ha n hn0 hn1).mono fun e w' ⟨hw, h⟩ => by
    rcases h with ⟨_, he⟩ | ⟨m, at2, h, _⟩
    · exact ⟨he, hw.symm⟩
    · rw [hL] at h; cases h
theorem drop_inj {b : List Int} {i j : Nat} (hi : i ≤ b.length) (hj : j ≤ b.length) (h : b.drop i = b.drop j) : i = j := by
  have := congrArg List.length h
  simp only [List.length_drop] at this
  omega
theorem reflen_some {w : World} {A : Option Addr} {c : Nat} {at_ at2 : Nat} {m : Int} {b : List Int} (hC : Kd.C (Kd.int .u8) w A b.length b) (hb : isB b) (hN : b.length ≤ 4000000) (ha : at_ ≤ b.length) (n : Int) (hn0 : 0 ≤ n) (hn1 : n ≤ 15) (hL : lenH n (b.drop at_) = some (m, b.drop at2)) (h2 : at2 ≤ b.length) :
    Calls Try.prog 72 #[.slice A b.length c, .int .i64 n, .int .i64 at_] w fun e w' => e = .returned (.tuple #[.int .i64 m, .int .i64 at2]) ∧ w = w' :=
  (reflen_any hC hb hN ha n hn0 hn1).mono fun e w' ⟨hw, h⟩ => by
    rcases h with ⟨h, _⟩ | ⟨m', at3, h, _, h3, _, _, he⟩
    · rw [hL] at h; cases h
    · rw [hL] at h
      injection h with h
      injection h with e1 e2
      rw [he, e1, drop_inj h2 h3 e2]
      exact ⟨rfl, hw.symm⟩
theorem lenH_at {b : List Int} {k : Nat} {n m : Int} {r : List Int} (hb : isB b) (hN : b.length ≤ 1000000) (hk : k ≤ b.length) (hn : 0 ≤ n ∧ n ≤ 15) (h : lenH n (b.drop k) = some (m, r)) : ∃ (k2 nn : Nat), r = b.drop k2 ∧ k ≤ k2 ∧ k2 ≤ b.length ∧ m = (nn : Int) ∧ nn ≤ 300000000 := by
  obtain ⟨h1, h2, h3, j, rfl⟩ := lenH_spec (isB_drop hb k) hn.1 h
  simp only [List.drop_drop, List.length_drop] at h1 h3 ⊢
  by_cases hj : k + j ≤ b.length
  · exact ⟨k + j, m.toNat, rfl, by omega, hj, by omega, by omega⟩
  · exact ⟨b.length, m.toNat, by rw [List.drop_eq_nil_of_le (by omega), List.drop_length], hk, Nat.le_refl _, by omega, by omega⟩
/-- What stands at the head of the copy's loop. -/
def CI (w : World) (sb : Nat) (AL : Option Addr) (nn cL offn ln : Nat) (wr : World) (u8 u9 : Value) (ys : List Int) (acc : List Sq) : Prop :=
  Row.OwnB wr w.heap.size u8 ys ∧ RowL w w.heap.size wr u9 acc ∧ Below w.heap.size w wr ∧ wr.heap[sb]? = some (.cells #[.slice AL nn cL, .int .i64 offn, .int .i64 ln] 114 (0, 0)) ∧ u9.ownBlock ≠ some sb
theorem CI.next {w wr w5 : World} {sb : Nat} {AL : Option Addr} {nn cL offn ln : Nat} {u8 u9 v5 : Value} {ys zs : List Int} {acc : List Sq} (h : CI w sb AL nn cL offn ln wr u8 u9 ys acc) (h5 : Row.OwnB w5 w.heap.size v5 zs) (hb5 : Below w.heap.size w w5) (hg5 : wr.grownBy w5 u8.ownBlock) : CI w sb AL nn cL offn ln w5 v5 u9 zs acc :=
  ⟨h5, h.2.1.grown h.1 hg5, hb5, (hg5.block _ (blk_lt h.2.2.2.1) (fun e => box_ne h.1 h.2.2.2.1 e.symm)).trans h.2.2.2.1, h.2.2.2.2⟩
set_option maxHeartbeats 4000000 in
set_option maxRecDepth 100000 in
theorem refdec_any (w : World) (b : List Int) (A : Option Addr) (c : Nat) (most : Int) (hC : Kd.C (Kd.int .u8) w A b.length b) (hb : isB b) (hN : b.length ≤ 1000000) (hcap : b.length ≤ c) (hm0 : 0 ≤ most) (hm1 : most ≤ 1048576) :
    Calls Try.prog 58 #[.slice A b.length c, .int .i64 most] w (RP w b most) := by
  have KC0 := Aside0.mk hC
  have KC : Aside0 (∀ w', Below w.heap.size w w' → Kd.C (Kd.int .u8) w' A b.length b) := ⟨fun w' hB => Kd.C_below hC hB⟩
  have Kb := Aside0.mk hb
  clear hC hb
  go_enter Try.func58, Try.ntmps58
  go_wp2
  go_loopw [8, 9, 10] (fun u8 u9 i wr => ∃ (acc : List Sq) (n at_ f : Nat) (A8 A9 : Option Addr) (c8 c9 : Nat), i = .int .i64 at_ ∧ u8 = .slice A8 n c8 ∧ u9 = .slice A9 acc.length c9 ∧ Aside0 (LR w b most wr (.slice A8 n c8) (.slice A9 acc.length c9) acc n at_ f)) (fun _ _ i _ => b.length - (intOf i).toNat)
  case atStart => exact ⟨[], 0, 0, b.length + 1, none, none, 0, 0, rfl, rfl, rfl, ⟨⟨Row.OwnB.nil _ _, RowL.nil _ _ _, Below.refl _ _, rfl, rfl, hm0, Nat.zero_le _, Nat.le_refl _, by omega, by simp⟩⟩⟩
  case round =>
    obtain ⟨acc, n, at_, f, A8, A9, c8, c9, rfl, rfl, rfl, KL⟩ := hrel
    have hat := KL.out.at0
    have hn1 := KL.out.tot1
    obtain ⟨la, hla⟩ : ∃ la, la = acc.length := ⟨_, rfl⟩
    rw [← hla] at KL
    rw [← hla]
    have Kla := Aside0.mk hla
    clear hla
    by_cases hlt : at_ < b.length
    · have hCr := KC.out wr KL.out.below
      obtain ⟨ad, e, hx⟩ := Kd.at_int hCr (at_ : Int) (by omega) (by omega)
      subst e
      obtain ⟨x, hxx⟩ : ∃ x, x = b[at_] := ⟨_, rfl⟩
      rw [rd_at hlt, ← hxx, Int.toNat_natCast] at hx
      have hxb := Kb.out x (by rw [hxx]; exact List.getElem_mem hlt)
      have Kdr := Aside0.mk (show b.drop at_ = x :: b.drop (at_ + 1) by rw [hxx]; exact drop_cons hlt)
      have KCr := Aside0.mk hCr
      obtain ⟨tq, htq⟩ : ∃ tq, x / 16 = tq := ⟨_, rfl⟩
      have htd : x.tdiv 16 = tq := by rw [Int.tdiv_eq_ediv_of_nonneg hxb.1]; exact htq
      have htq1 : 0 ≤ tq ∧ tq ≤ 15 := by omega
      have Ktq := Aside0.mk htq
      have Kxb := Aside0.mk hxb
      obtain ⟨tq0, tq1⟩ := htq1
      obtain ⟨x0, x1⟩ := hxb
      clear hCr hxx htq
      cases hL : lenH tq (b.drop (at_ + 1)) with
      | none =>
        have Kst : Aside0 (step b.length most n (b.drop at_) = .fail 6 b.length) := ⟨by rw [Kdr.out]; simp only [step, Ktq.out, hL]⟩
        have KL1 := Aside0.mk (reflen_none (c := c) KCr.out Kb.out (by omega) (by omega) tq tq0 tq1 hL)
        clear hL
        go_wp2_with (go_at_call 72; refine KL1.out.mono ?_; rintro e w' ⟨rfl, rfl⟩)
        refine bodyPost_ret (results_list (rs := [.tmp 4, .tmp 5, .tmp 6, .tmp 7]) rfl (by simp) (.tmp (.tmp (.tmp (.tmp .nil))))) rfl ?_
        exact LR_fail KL.out Kst.out (by decide) KL.out.below
      | some p =>
        obtain ⟨m, r1⟩ := p
        obtain ⟨k2, nn, rfl, hk, hk2, rfl, hnn⟩ := lenH_at Kb.out hN (by omega : at_ + 1 ≤ b.length) ⟨tq0, tq1⟩ hL
        have KL1 := Aside0.mk (reflen_some (c := c) KCr.out Kb.out (by omega) (by omega) tq tq0 tq1 hL hk2)
        have KLH := Aside0.mk (show lenH (x / 16) (b.drop (at_ + 1)) = some ((nn : Int), b.drop k2) by rw [Ktq.out]; exact hL)
        clear hL
        by_cases c3 : most - (n : Int) < (nn : Int)
        · have Kst : Aside0 (step b.length most n (b.drop at_) = .fail 2 at_) := ⟨by rw [Kdr.out]; simp only [step, KLH.out]; rw [if_pos c3, tok_place hlt]⟩
          go_wp2_with (go_at_call 72; refine KL1.out.mono ?_; rintro e w' ⟨rfl, rfl⟩)
          refine bodyPost_ret (results_list (rs := [.tmp 4, .tmp 5, .tmp 6, .tmp 7]) rfl (by simp) (.tmp (.tmp (.tmp (.tmp .nil))))) rfl ?_
          exact LR_fail KL.out Kst.out (by decide) KL.out.below
        by_cases c4 : (b.length : Int) - (k2 : Int) < (nn : Int)
        · have Kst : Aside0 (step b.length most n (b.drop at_) = .fail 6 b.length) := ⟨by rw [Kdr.out]; simp only [step, KLH.out]; rw [if_neg c3, if_pos (by rw [List.length_drop]; omega)]⟩
          go_wp2_with (go_at_call 72; refine KL1.out.mono ?_; rintro e w' ⟨rfl, rfl⟩)
          refine bodyPost_ret (results_list (rs := [.tmp 4, .tmp 5, .tmp 6, .tmp 7]) rfl (by simp) (.tmp (.tmp (.tmp (.tmp .nil))))) rfl ?_
          exact LR_fail KL.out Kst.out (by decide) KL.out.below
        obtain ⟨ee, hw, he1, he2, he3, he4, hee⟩ := slice_bounds (N := b.length) (at2 := k2) (nn := nn) (c := c) (by omega) hcap hN
        have Kee := Aside0.mk hee
        obtain ⟨AL, hAL⟩ : ∃ AL, (if c = k2 then some ad else some (ad.add k2)) = AL := ⟨_, rfl⟩
        obtain ⟨cL, hcL⟩ : ∃ cL, c - k2 = cL := ⟨_, rfl⟩
        have Kc3 := Aside0.mk c3
        have Kc4 := Aside0.mk c4
        have c3' : (nn : Int) ≤ most - (n : Int) := by omega
        have c4' : (nn : Int) ≤ (b.length : Int) - (k2 : Int) := by omega
        clear hee c3 c4
        go_wp2_with (first | (go_at_call 72; refine KL1.out.mono ?_; rintro e w' ⟨rfl, rfl⟩) | ((with_reducible refine gate_builtin (b := .append) (xs := #[.tmp 63, .tmp 65]) rfl ?_); apply Aside0.out))
        refine ⟨?_⟩
        obtain ⟨lit, hlit⟩ : ∃ lit, lit = (b.drop k2).take nn := ⟨_, rfl⟩
        obtain ⟨hl1, hl2, hl3⟩ : lit.length = nn ∧ nn ≤ cL ∧ ∀ w1, Below w.heap.size w w1 → Kd.C (Kd.int .u8) w1 AL lit.length lit := by rw [hlit]; exact lit_reads hAL.symm hcL.symm rfl hk2 Kee.out he4 hcap KC.out
        have Klit := Aside0.mk hlit
        have Kl1 := Aside0.mk hl1
        have Kl2 := Aside0.mk hl2
        have Kl3 := Aside0.mk hl3
        have hal : Below wr.heap.size wr (wr.alloc (.cells #[.slice AL nn cL, .int .i64 0, .int .i64 0] 114)) := below_alloc (Below.refl _ _) _
        have hal2 : Below w.heap.size w (wr.alloc (.cells #[.slice AL nn cL, .int .i64 0, .int .i64 0] 114)) := below_then KL.out.below KL.out.below.size hal
        have hCl : Kd.C (Kd.int .u8) (wr.alloc (.cells #[.slice AL nn cL, .int .i64 0, .int .i64 0] 114)) AL nn lit := by have := hl3 _ hal2; rw [hl1] at this; exact this
        have hlen := KL.out.len
        have hrow := KL.out.row.below hal
        have hown := KL.out.own.below hal
        have hsb0 := heap_alloc_new wr (.cells #[.slice AL nn cL, .int .i64 0, .int .i64 0] 114)
        have hne9 := KL.out.row.lt
        refine Row.app_rows (w0 := w) w.heap.size rfl (.tmp 63) (.tmp 65) rfl (.slice A8 n c8) (outs [] acc) lit AL nn cL rfl rfl hown hCl hal2 hal2.size (by rw [hlen]; omega) ?_
        intro zs A2 c2 w2 e1 e2 e3 h4 h5 e4 hb2 e5 e6 e7
        obtain ⟨n2, hn2⟩ : ∃ n2, n2 = zs.length := ⟨_, rfl⟩
        obtain ⟨sb, hsb⟩ : ∃ sb, sb = wr.heap.size := ⟨_, rfl⟩
        have hn3 : n2 = n + nn := by rw [hn2, e3.out, hlen]
        rw [← hn2] at e2 h4 h5 e4 ⊢
        have KO2 : Aside0 (Row.OwnB w2 w.heap.size (.slice A2 n2 c2) (outs [] acc ++ lit)) := ⟨by rw [← e1.out]; exact e2.out⟩
        have KR2 : Aside0 (RowL w w.heap.size w2 (.slice A9 la c9) acc) := ⟨hrow.grown hown e6.out⟩
        have KS2 : Aside0 (w2.heap[sb]? = some (.cells #[.slice AL nn cL, .int .i64 0, .int .i64 0] 114 (0, 0))) := ⟨by rw [hsb]; exact (e6.out.block _ (by simp) (fun e => box_ne hown hsb0 e.symm)).trans hsb0⟩
        have Kne : Aside0 ((Value.slice A9 la c9).ownBlock ≠ some sb) := ⟨fun e => by have := hne9 _ e; omega⟩
        have Kn2 := Aside0.mk hn3
        have Ksb : Aside0 (w.heap.size ≤ sb) := ⟨by rw [hsb]; exact KL.out.below.size⟩
        rw [← hsb]
        have hn2a : n2 ≤ 1048576 := by omega
        have hn2b : (n2 : Int) ≤ most := by omega
        clear hlit hl1 hl2 hl3 hal hal2 hCl hlen hrow hown hsb0 hne9 e1 e2 e3 h4 e4 e5 e6 e7 hn2 hsb hn3 hAL hcL
        have hy0 : w2.cell? ⟨sb, 0, none⟩ = some (.slice AL nn cL) := (cell_of_row _ _ _ _ _ _ KS2.out).trans rfl
        have hy1 : w2.cell? ⟨sb, 1, none⟩ = some (.int .i64 0) := (cell_of_row _ _ _ _ _ _ KS2.out).trans rfl
        have hy2 : w2.cell? ⟨sb, 2, none⟩ = some (.int .i64 0) := (cell_of_row _ _ _ _ _ _ KS2.out).trans rfl
        have hadd : (k2 : Int) + (nn : Int) = (ee : Int) := by omega
        have Kdd : Aside0 ((b.drop k2).drop nn = b.drop ee) := ⟨by rw [List.drop_drop, Kee.out]⟩
        have Kc4'' : Aside0 ((nn : Int) ≤ ((b.drop k2).length : Int)) := ⟨by rw [List.length_drop]; omega⟩
        by_cases c5 : ee = b.length
        · have Kst : Aside0 (step b.length most n (b.drop at_) = .last lit) := ⟨by
            rw [Kdr.out, step_d KLH.out c3' Kc4''.out, Kdd.out, c5, List.drop_length, Klit.out]
            rfl⟩
          have heq : ((ee : Int) == (b.length : Int)) = true := by rw [c5]; simp
          clear c5
          go_wp2_with ((with_reducible refine gate_builtin (b := .append) (xs := #[.tmp 75, .tmp 77]) rfl ?_); apply Aside0.out)
          refine ⟨?_⟩
          obtain ⟨cells, hcells, hsc⟩ := KR2.out
          have hla := Kla.out
          have hcnt := KL.out.cnt
          refine print_append_cells (w0 := w) (W := w2) w.heap.size rfl (.tmp 75) (.tmp 77) 98 114 (.agg #[.slice none 0 0, .int .i64 0, .int .i64 0]) 3 40 rfl Try.underlying98 infoSeq rfl (by decide) (by decide) (.slice A9 la c9) acc.length cells [.slice AL nn cL, .int .i64 0, .int .i64 0] rfl rfl rfl (by simp [Value.oneCell']) hcells hb2.out hb2.out.size (by omega) ?_
          intro v5 w5 h5 hb5 hg5 hat5
          obtain ⟨A5, c55, rfl⟩ := row_slice h5
          have KR5 := Aside0.mk (RowL_snoc hsc Kl1.out Kl3.out Kl2.out h5)
          have KO5 := Aside0.mk (own_grown_l KR2.out KO2.out hg5)
          have Kb5 := Aside0.mk hb5
          clear h5 hb5 hg5 hat5 hsc hcells hla hcnt
          go_wp2
          refine bodyPost_ret (results_list (rs := [.tmp 4, .tmp 5, .tmp 6, .tmp 7]) rfl (by simp) (.tmp (.tmp (.tmp (.tmp .nil))))) rfl ?_
          exact LR_last KL.out Kst.out KO5.out KR5.out Kb5.out
        by_cases c6 : (b.length : Int) - ee < 2
        · have Kst : Aside0 (step b.length most n (b.drop at_) = .fail 6 b.length) := ⟨by
            obtain ⟨z, hz⟩ := drop_one he4 c5 c6
            rw [Kdr.out, step_d KLH.out c3' Kc4''.out, Kdd.out, hz]
            rfl⟩
          have heq : ((ee : Int) == (b.length : Int)) = false := by simp; omega
          have heq2 : ((ee : Int) + 1 == (b.length : Int)) = true := by simp; omega
          clear c5 c6
          go_wp2
          refine bodyPost_ret (results_list (rs := [.tmp 4, .tmp 5, .tmp 6, .tmp 7]) rfl (by simp) (.tmp (.tmp (.tmp (.tmp .nil))))) rfl ?_
          exact LR_fail KL.out Kst.out (by decide) hb2.out
        obtain ⟨y1, y2, Kd2⟩ : ∃ y1 y2, Aside0 (b.drop ee = y1 :: y2 :: b.drop (ee + 2) ∧ (0 ≤ y1 ∧ y1 < 256) ∧ (0 ≤ y2 ∧ y2 < 256) ∧ rd b (ee : Int) = y1 ∧ rd b ((ee + 1 : Nat) : Int) = y2 ∧ ee + 2 ≤ b.length ∧ ee < b.length ∧ ee + 1 < b.length) := by
          obtain ⟨y1, y2, h⟩ := drop_two Kb.out he4 (by omega)
          exact ⟨y1, y2, ⟨h⟩⟩
        have heq : ((ee : Int) == (b.length : Int)) = false := by simp; omega
        have heq2 : ((ee : Int) + 1 == (b.length : Int)) = false := by simp; omega
        clear c5 c6
        go_wp2
        obtain ⟨z1, z2, z3, z4, z5, z6, z7, z8⟩ := Kd2.out
        obtain ⟨ef, hef, hef1, hef2⟩ := next_idx z8 hN
        have hC2 := KC.out w2 hb2.out
        obtain ⟨ad', e', hq1⟩ := Kd.at_int hC2 (ee : Int) (by omega) (by omega)
        injection e' with e'
        subst e'
        obtain ⟨ad', e', hq2⟩ := Kd.at_int hC2 ((ee + 1 : Nat) : Int) (by omega) (by omega)
        injection e' with e'
        subst e'
        rw [Int.toNat_natCast, z4] at hq1
        rw [z5, Int.toNat_natCast, ← hef2] at hq2
        have hef' : (ee : Int) + 1 = (ef : Int) := by omega
        have hwf : wrap64 (ef : Int) = (ef : Int) := by unfold wrap64; omega
        obtain ⟨y1a, y1b⟩ := z2
        obtain ⟨y2a, y2b⟩ := z3
        obtain ⟨offn, hoffn⟩ : ∃ offn : Nat, (offn : Int) = y1 + y2 * 256 := ⟨(y1 + y2 * 256).toNat, by omega⟩
        have hoffw : wrap64 (wrap64 y1 + wrap64 (256 * wrap64 y2)) = (offn : Int) := ref_off ⟨y1a, y1b⟩ ⟨y2a, y2b⟩ hoffn
        have hoffb : offn ≤ 65535 := by omega
        have Koffn := Aside0.mk hoffn
        have hf1 : w2.frozen? ⟨sb, 1, none⟩ = false := blk_frozen KS2.out 1
        clear z1 z4 z5 z6 z8 hef2 hC2 hoffn
        refine start_ (n := 15) (S := fun w' => w'.cell? (ad.add ee) = some (.int .u8 y1) ∧ w'.cell? (ad.add ef) = some (.int .u8 y2)) (ds := [14]) #[false, false, false, false, false, false, false, false, false, false, false, false, false, false, false] (by kernel_rfl) rfl rfl ⟨(show w2.cell? _ = _ from hq1), (show w2.cell? _ = _ from hq2)⟩ (fun hHeld => ?_)
        refine pure_ (i := 0) (N := some 88) (v := ?_) (a' := ?_) #[true, false, false, false, false, false, false, false, false, false, false, false, false, false, false] rfl rfl (by kernel_rfl) (fun _ _ _ h => h) (Or.inl ⟨by rfl, ?_⟩) ?_ ?_
        rotate_left
        · intro w'
          go_simp
          with_reducible rfl
        rotate_left
        · simp only [Act.put, List.setIfInBounds_toArray, List.set_cons_zero, List.set_cons_succ, i64_w, i32_w]
          rfl
        refine pure_ (i := 1) (N := some 89) (v := ?_) (a' := ?_) #[true, true, false, false, false, false, false, false, false, false, false, false, false, false, false] rfl rfl (by kernel_rfl) (fun _ _ _ h => h) (Or.inl ⟨by rfl, ?_⟩) ?_ ?_
        rotate_left
        · intro w'
          go_simp
          with_reducible rfl
        rotate_left
        · simp only [Act.put, List.setIfInBounds_toArray, List.set_cons_zero, List.set_cons_succ, i64_w, i32_w]
          rfl
        refine pure_ (i := 2) (N := some 90) (v := ?_) (a' := ?_) #[true, true, true, false, false, false, false, false, false, false, false, false, false, false, false] rfl rfl (by kernel_rfl) (fun _ _ _ h => h) (Or.inl ⟨by rfl, ?_⟩) ?_ ?_
        rotate_left
        · intro w'
          go_simp
          with_reducible rfl
        rotate_left
        · simp only [Act.put, List.setIfInBounds_toArray, List.set_cons_zero, List.set_cons_succ, i64_w, i32_w]
          rfl
        refine pure_ (i := 5) (N := some 93) (v := ?_) (a' := ?_) #[true, true, true, false, false, true, false, false, false, false, false, false, false, false, false] rfl rfl (by kernel_rfl) (fun _ _ _ h => h) (Or.inl ⟨by rfl, ?_⟩) ?_ ?_
        rotate_left
        · intro w'
          go_simp
          with_reducible rfl
        rotate_left
        · simp only [Act.put, List.setIfInBounds_toArray, List.set_cons_zero, List.set_cons_succ, i64_w, i32_w]
          rfl
        refine pure_ (i := 6) (N := some 94) (v := ?_) (a' := ?_) #[true, true, true, false, false, true, true, false, false, false, false, false, false, false, false] rfl rfl (by kernel_rfl) (fun _ _ _ h => h) (Or.inl ⟨by rfl, ?_⟩) ?_ ?_
        rotate_left
        · intro w'
          go_simp
          with_reducible rfl
        rotate_left
        · simp only [Act.put, List.setIfInBounds_toArray, List.set_cons_zero, List.set_cons_succ, i64_w, i32_w]
          rfl
        refine pure_ (i := 7) (N := some 95) (v := ?_) (a' := ?_) #[true, true, true, false, false, true, true, true, false, false, false, false, false, false, false] rfl rfl (by kernel_rfl) (fun _ _ _ h => h) (Or.inl ⟨by rfl, ?_⟩) ?_ ?_
        rotate_left
        · intro w'
          go_simp
          with_reducible rfl
        rotate_left
        · simp only [Act.put, List.setIfInBounds_toArray, List.set_cons_zero, List.set_cons_succ, i64_w, i32_w]
          rfl
        refine pure_ (i := 8) (N := some 96) (v := ?_) (a' := ?_) #[true, true, true, false, false, true, true, true, true, false, false, false, false, false, false] rfl rfl (by kernel_rfl) (fun _ _ _ h => h) (Or.inl ⟨by rfl, ?_⟩) ?_ ?_
        rotate_left
        · intro w'
          go_simp
          with_reducible rfl
        rotate_left
        · simp only [Act.put, List.setIfInBounds_toArray, List.set_cons_zero, List.set_cons_succ, i64_w, i32_w]
          rfl
        refine take_ (i := 3) (N := some 91) (v := ?_) (a' := ?_) #[true, true, true, true, false, true, true, true, true, false, false, false, false, false, false] rfl rfl (by kernel_rfl) (fun _ _ _ h => h) (Or.inl ⟨by rfl, ?_⟩) hHeld ?_ ?_
        rotate_left
        · rintro w' ⟨s0, s1⟩
          go_simp
          with_reducible rfl
        rotate_left
        · simp only [Act.put, List.setIfInBounds_toArray, List.set_cons_zero, List.set_cons_succ, i64_w, i32_w]
          rfl
        refine pure_ (i := 4) (N := some 92) (v := ?_) (a' := ?_) #[true, true, true, true, true, true, true, true, true, false, false, false, false, false, false] rfl rfl (by kernel_rfl) (fun _ _ _ h => h) (Or.inl ⟨by rfl, ?_⟩) ?_ ?_
        rotate_left
        · intro w'
          go_simp
          with_reducible rfl
        rotate_left
        · simp only [Act.put, List.setIfInBounds_toArray, List.set_cons_zero, List.set_cons_succ, i64_w, i32_w]
          rfl
        refine take_ (i := 9) (N := some 97) (v := ?_) (a' := ?_) #[true, true, true, true, true, true, true, true, true, true, false, false, false, false, false] rfl rfl (by kernel_rfl) (fun _ _ _ h => h) (Or.inl ⟨by rfl, ?_⟩) hHeld ?_ ?_
        rotate_left
        · rintro w' ⟨s0, s1⟩
          go_simp
          with_reducible rfl
        rotate_left
        · simp only [Act.put, List.setIfInBounds_toArray, List.set_cons_zero, List.set_cons_succ, i64_w, i32_w]
          rfl
        refine pure_ (i := 10) (N := some 98) (v := ?_) (a' := ?_) #[true, true, true, true, true, true, true, true, true, true, true, false, false, false, false] rfl rfl (by kernel_rfl) (fun _ _ _ h => h) (Or.inl ⟨by rfl, ?_⟩) ?_ ?_
        rotate_left
        · intro w'
          go_simp
          with_reducible rfl
        rotate_left
        · simp only [Act.put, List.setIfInBounds_toArray, List.set_cons_zero, List.set_cons_succ, i64_w, i32_w]
          rfl
        refine pure_ (i := 11) (N := some 99) (v := ?_) (a' := ?_) #[true, true, true, true, true, true, true, true, true, true, true, true, false, false, false] rfl rfl (by kernel_rfl) (fun _ _ _ h => h) (Or.inl ⟨by rfl, ?_⟩) ?_ ?_
        rotate_left
        · intro w'
          go_simp
          with_reducible rfl
        rotate_left
        · simp only [Act.put, List.setIfInBounds_toArray, List.set_cons_zero, List.set_cons_succ, i64_w, i32_w]
          rfl
        refine pure_ (i := 12) (N := some 100) (v := ?_) (a' := ?_) #[true, true, true, true, true, true, true, true, true, true, true, true, true, false, false] rfl rfl (by kernel_rfl) (fun _ _ _ h => h) (Or.inl ⟨by rfl, ?_⟩) ?_ ?_
        rotate_left
        · intro w'
          go_simp
          with_reducible rfl
        rotate_left
        · simp only [Act.put, List.setIfInBounds_toArray, List.set_cons_zero, List.set_cons_succ, i64_w, i32_w]
          rfl
        refine pure_ (i := 13) (N := some 101) (v := ?_) (a' := ?_) #[true, true, true, true, true, true, true, true, true, true, true, true, true, true, false] rfl rfl (by kernel_rfl) (fun _ _ _ h => h) (Or.inl ⟨by rfl, ?_⟩) ?_ ?_
        rotate_left
        · intro w'
          go_simp
          with_reducible rfl
        rotate_left
        · simp only [Act.put, List.setIfInBounds_toArray, List.set_cons_zero, List.set_cons_succ, i64_w, i32_w]
          rfl
        refine last_ (i := 14) (N := none) #[true, true, true, true, true, true, true, true, true, true, true, true, true, true, true] rfl rfl (by kernel_rfl) (by decide) (fun K hK => ?_)
        refine skip_ (w1 := ?_) (by rfl) rfl ?_ ?_
        rotate_left
        · go_simp
          rfl
        refine hK.out _ _ ?_
        clear hK K
        refine done_ (by kernel_rfl) ?_
        have KS8 := Aside0.mk (blk_set KS2.out 1 (.int .i64 (offn : Int)))
        have hfr : ∀ k, k ≠ sb → (w2.setCell ⟨sb, 1, none⟩ (.int .i64 (offn : Int))).drew.heap[k]? = w2.heap[k]? := fun k hk => Below.heap_setCell w2 ⟨sb, 1, none⟩ _ k hk
        have KO8 := Aside0.mk (own_frame KO2.out fun k e => hfr k fun e2 => box_ne KO2.out KS2.out (by rw [e, e2]))
        have KR8 := Aside0.mk (KR2.out.frame fun k e => hfr k fun e2 => Kne.out (by rw [e, e2]))
        have Kb8 : Aside0 (Below w.heap.size w (w2.setCell ⟨sb, 1, none⟩ (.int .i64 (offn : Int))).drew) := ⟨(hb2.out.setCell Ksb.out _).drew⟩
        obtain ⟨W8, hW8⟩ : ∃ W8, W8 = (w2.setCell ⟨sb, 1, none⟩ (.int .i64 (offn : Int))).drew := ⟨_, rfl⟩
        rw [← hW8] at KO8 KR8 Kb8 ⊢
        have KS8' : Aside0 (W8.heap[sb]? = some (.cells #[.slice AL nn cL, .int .i64 offn, .int .i64 0] 114 (0, 0))) := ⟨by rw [hW8]; exact KS8.out⟩
        clear hfr KS8 hW8 hHeld hy0 hy1 hy2 hq1 hq2 hf1 hoffw
        have hy1 : W8.cell? ⟨sb, 1, none⟩ = some (.int .i64 offn) := (cell_of_row _ _ _ _ _ _ KS8'.out).trans rfl
        have hy2 : W8.cell? ⟨sb, 2, none⟩ = some (.int .i64 0) := (cell_of_row _ _ _ _ _ _ KS8'.out).trans rfl
        by_cases c7 : offn = 0 ∨ n2 < offn
        · have Kst : Aside0 (step b.length most n (b.drop at_) = .fail 9 ee) := ⟨by
            rw [Kdr.out, step_d KLH.out c3' Kc4''.out, Kdd.out, Kd2.out.1]
            exact tail_range (by have := Koffn.out; have := Kn2.out; omega) Kd2.out.2.2.2.2.2.1⟩
          have Kc7 := Aside0.mk c7
          rcases c7 with rfl | c7
          · go_wp2
            refine bodyPost_ret (results_list (rs := [.tmp 4, .tmp 5, .tmp 6, .tmp 7]) rfl (by simp) (.tmp (.tmp (.tmp (.tmp .nil))))) rfl ?_
            exact LR_fail KL.out Kst.out (by decide) Kb8.out
          · have hz : ((offn : Int) == 0) = false := by simp; omega
            go_wp2
            refine bodyPost_ret (results_list (rs := [.tmp 4, .tmp 5, .tmp 6, .tmp 7]) rfl (by simp) (.tmp (.tmp (.tmp (.tmp .nil))))) rfl ?_
            exact LR_fail KL.out Kst.out (by decide) Kb8.out
        have c7a : ((offn : Int) == 0) = false := by simp; omega
        have c7b : offn ≤ n2 := by omega
        have Kc7 : Aside0 (¬ (y1 + y2 * 256 = 0 ∨ (n : Int) + (nn : Int) < y1 + y2 * 256)) := ⟨by have := Koffn.out; have := Kn2.out; omega⟩
        clear c7
        have Kae : Aside0 (at_ < ee) := ⟨Nat.lt_of_lt_of_le hk he1⟩
        have Kc3' : Aside0 ((nn : Int) ≤ most - (n : Int)) := ⟨c3'⟩
        rename_i q1 q2 q3 q4 K0 hK0
        clear q1 q2 q3 q4 hk hk2 hnn hw he1 he2 he3 c3' c4' hadd hef hef1 hef' hwf y1a y1b y2a y2b tq0 tq1 htd heq heq2 h5
        obtain ⟨tr, htr⟩ : ∃ tr, x % 16 = tr := ⟨_, rfl⟩
        have htm : x.tmod 16 = tr := by rw [Int.tmod_eq_emod_of_nonneg x0]; exact htr
        have tr0 : 0 ≤ tr := by omega
        have tr1 : tr ≤ 15 := by omega
        have Ktr := Aside0.mk htr
        clear htr
        have he5 : ee + 2 ≤ b.length := Kd2.out.2.2.2.2.2.1
        have hx8 : W8.cell? (ad.add at_) = some (.int .u8 x) := by
          obtain ⟨ad', e', hq⟩ := Kd.at_int (KC.out W8 Kb8.out) (at_ : Int) (by omega) (by omega)
          injection e' with e'
          subst e'
          obtain ⟨ad', e', hq2⟩ := Kd.at_int (KC.out wr KL.out.below) (at_ : Int) (by omega) (by omega)
          injection e' with e'
          subst e'
          rw [Int.toNat_natCast] at hq hq2
          rw [hx] at hq2
          rw [hq]
          exact hq2.symm
        have he6 : ((ee + 2 : Nat) : Int) = (ee : Int) + 2 := by omega
        cases hL : lenH tr (b.drop (ee + 2)) with
        | none =>
          have Kst : Aside0 (step b.length most n (b.drop at_) = .fail 6 b.length) := ⟨by
            rw [Kdr.out, step_d KLH.out Kc3'.out Kc4''.out, Kdd.out, Kd2.out.1]
            exact tail_none Kc7.out (by rw [Ktr.out]; exact hL)⟩
          have hc2 := reflen_none (c := c) (KC.out W8 Kb8.out) Kb.out (by omega) he5 tr tr0 tr1 hL
          rw [he6] at hc2
          have KL2 := Aside0.mk hc2
          clear hL hc2 he6 he5
          go_wp2_with (go_at_call 72; refine KL2.out.mono ?_; rintro e w' ⟨rfl, rfl⟩)
          refine bodyPost_ret (results_list (rs := [.tmp 4, .tmp 5, .tmp 6, .tmp 7]) rfl (by simp) (.tmp (.tmp (.tmp (.tmp .nil))))) rfl ?_
          exact LR_fail KL.out Kst.out (by decide) Kb8.out
        | some p =>
          obtain ⟨mm, r4⟩ := p
          obtain ⟨k4, m4, rfl, hk4, hk4b, rfl, hm4⟩ := lenH_at Kb.out hN he5 ⟨tr0, tr1⟩ hL
          have hts := tail_some (N := b.length) (rl := (b.drop (at_ + 1)).length) (most := most) (size := n) (t := x) (n := nn) (x := y1) (y := y2) (m := (m4 : Int)) (lit := lit) (r3 := b.drop (ee + 2)) (r4 := b.drop k4) Kc7.out (by rw [Ktr.out]; exact hL)
          have hc2 := reflen_some (c := c) (KC.out W8 Kb8.out) Kb.out (by omega) he5 tr tr0 tr1 hL hk4b
          rw [he6] at hc2
          have KL2 := Aside0.mk hc2
          have Kk4 : Aside0 (ee + 2 ≤ k4 ∧ k4 ≤ b.length) := ⟨⟨hk4, hk4b⟩⟩
          have Kk4b : Aside0 (k4 ≤ b.length) := ⟨hk4b⟩
          have hf2 : W8.frozen? ⟨sb, 2, none⟩ = false := blk_frozen KS8'.out 2
          obtain ⟨ln, hln⟩ : ∃ ln : Nat, (m4 : Int) + 4 = (ln : Int) := ⟨m4 + 4, by omega⟩
          have hln1 : ln ≤ 300000004 := by omega
          have Kln := Aside0.mk hln
          rw [hln] at hts
          clear hL hc2 he6 he5 hk4 hk4b
          by_cases cq9 : most - (n2 : Int) < (ln : Int)
          · have Kst : Aside0 (step b.length most n (b.drop at_) = .fail 2 at_) := ⟨by
              rw [Kdr.out, step_d KLH.out Kc3'.out Kc4''.out, Kdd.out, Kd2.out.1, ← Klit.out, hts, if_pos (by have := Kn2.out; omega), tok_place hlt]⟩
            clear hts
            go_wp2_with (go_at_call 72; refine KL2.out.mono ?_; rintro e w' ⟨rfl, rfl⟩)
            refine bodyPost_ret (results_list (rs := [.tmp 4, .tmp 5, .tmp 6, .tmp 7]) rfl (by simp) (.tmp (.tmp (.tmp (.tmp .nil))))) rfl ?_
            exact LR_fail KL.out Kst.out (by decide) (Kb8.out.setCell Ksb.out _)
          have Kst : Aside0 (step b.length most n (b.drop at_) = .seq lit (offn : Int) (ln : Int) (b.drop k4)) := ⟨by
            rw [Kdr.out, step_d KLH.out Kc3'.out Kc4''.out, Kdd.out, Kd2.out.1, ← Klit.out, hts, if_neg (by have := Kn2.out; omega), ← Koffn.out]⟩
          clear hts
          go_wp2_with (go_at_call 72; refine KL2.out.mono ?_; rintro e w' ⟨rfl, rfl⟩)
          have KS9' := blk_set KS8'.out 2 (.int .i64 (ln : Int))
          obtain ⟨W9, hW9⟩ : ∃ W9, W9 = W8.setCell ⟨sb, 2, none⟩ (.int .i64 (ln : Int)) := ⟨_, rfl⟩
          rw [← hW9] at KS9' ⊢
          have hfr : ∀ k, k ≠ sb → W9.heap[k]? = W8.heap[k]? := fun k hk => by rw [hW9]; exact Below.heap_setCell W8 ⟨sb, 2, none⟩ _ k hk
          have KI9 : Aside0 (CI w sb AL nn cL offn ln W9 (.slice A2 n2 c2) (.slice A9 la c9) (outs [] acc ++ lit) acc) := ⟨own_frame KO8.out (fun k e => hfr k fun e2 => box_ne KO8.out KS8'.out (by rw [e, e2])), KR8.out.frame (fun k e => hfr k fun e2 => Kne.out (by rw [e, e2])), (by rw [hW9]; exact Kb8.out.setCell Ksb.out _), KS9', Kne.out⟩
          have Kll : Aside0 ((outs [] acc ++ lit).length = n2) := ⟨by rw [List.length_append, KL.out.len, Kl1.out, Kn2.out]⟩
          have Kat : Aside0 (at_ < k4) := ⟨by have := Kk4.out; have := Kae.out; omega⟩
          have Kmm : Aside0 ((n : Int) + lit.length + ln ≤ most) := ⟨by have := Kn2.out; have := Kl1.out; omega⟩
          have hlnm : (ln : Int) ≤ 1048576 := by omega
          have Ko1 : Aside0 (1 ≤ offn ∧ offn ≤ n2) := ⟨by simp at c7a; omega⟩
          obtain ⟨wo, rfl⟩ : ∃ wo : World, wo = wr := ⟨_, rfl⟩
          clear hfr hW9 KS9' hy1 hy2 hx8 hf2 hln hx KO8 KR8 Kb8 KS8' hb2 KO2 KR2 KS2 KLH KL1 KL2 cq9 c7a c7b Kdd Kc4'' Kc7 Kd2 KCr htm tr0 tr1 Ktr x0 x1 hm4 hln1 hoffb
          go_wp2
          go_loopw [8, 16] (fun u i wr => ∃ (k : Nat) (A : Option Addr) (cc : Nat), k ≤ ln ∧ i = .int .i64 k ∧ u = .slice A (n2 + k) cc ∧ Aside0 (CI w sb AL nn cL offn ln wr (.slice A (n2 + k) cc) (.slice A9 la c9) (cp (outs [] acc ++ lit) offn k) acc)) (fun _ i _ => ln - (intOf i).toNat)
          case atStart => exact ⟨0, A2, c2, by omega, rfl, rfl, KI9⟩
          case round =>
            obtain ⟨k, A, cc, hk, rfl, rfl, HU⟩ := hrel
            obtain ⟨q, hq⟩ : ∃ q, q = n2 + k := ⟨_, rfl⟩
            obtain ⟨ys, hys⟩ : ∃ ys, ys = cp (outs [] acc ++ lit) offn k := ⟨_, rfl⟩
            have hyl : ys.length = q := by rw [hys, cp_length, Kll.out, hq]
            rw [← hq, ← hys] at HU
            have y0 : wr.cell? ⟨sb, 0, none⟩ = some (.slice AL nn cL) := (cell_of_row _ _ _ _ _ _ HU.out.2.2.2.1).trans rfl
            have y1 : wr.cell? ⟨sb, 1, none⟩ = some (.int .i64 offn) := (cell_of_row _ _ _ _ _ _ HU.out.2.2.2.1).trans rfl
            have y2 : wr.cell? ⟨sb, 2, none⟩ = some (.int .i64 ln) := (cell_of_row _ _ _ _ _ _ HU.out.2.2.2.1).trans rfl
            rw [← hq]
            have Kq := Aside0.mk hq
            have Kys := Aside0.mk hys
            have Kyl := Aside0.mk hyl
            have hqb : q ≤ 3000000 := by omega
            have hqb2 : (q : Int) ≤ 3000000 := by omega
            clear hys
            by_cases hkl : k < ln
            · have ho1 : 1 ≤ offn := Ko1.out.1
              have ho2 : offn ≤ q := by have := Ko1.out.2; omega
              have hC := (Row.OwnB.reads HU.out.1).2.2
              rw [hyl] at hC
              obtain ⟨ad2, e, hx⟩ := Kd.at_int hC ((q - offn : Nat) : Int) (by omega) (by omega)
              rw [Int.toNat_natCast] at hx
              subst e
              obtain ⟨xx, hxv⟩ : ∃ xx, xx = rd ys ((q - offn : Nat) : Int) := ⟨_, rfl⟩
              rw [← hxv] at hx
              have Kx := Aside0.mk hxv
              clear hq hyl hC hxv
              go_wp2_with ((with_reducible refine gate_builtin (b := .append) (xs := #[.tmp 147, .tmp 156]) rfl ?_); apply Aside0.out)
              refine ⟨?_⟩
              refine Kd.R_append (Kd.int .u8) (w0 := w) (W := wr) w.heap.size rfl (.tmp 147) (.tmp 156) 37 5 (.int .u8 0) 1 rfl Try.underlying37 Row.info8 rfl (by decide) (by decide) (.slice (some ad2) q cc) ys xx [.int .u8 xx] (fun _ => True) (fun _ => False) rfl rfl rfl (fun _ h => h.elim) (fun _ _ => trivial) HU.out.1 HU.out.2.2.1 HU.out.2.2.1.size (by rw [Kyl.out]; omega) ?_
              intro v5 w5 h5 hb5 hg5 hat5
              have KU5 := Aside0.mk (HU.out.next h5 hb5 hg5)
              obtain ⟨A5, c5', hv5⟩ := Kd.R_slice h5
              rw [List.length_append, List.length_singleton, Kyl.out] at hv5
              subst hv5
              clear h5 hb5 hg5 hat5
              go_wp2
              refine ⟨⟨k + 1, A5, c5', by omega, by simp, by rw [Kq.out, Nat.add_assoc], ?_⟩, by simp [intOf]; omega⟩
              have hh : n2 + (k + 1) = q + 1 := by rw [Kq.out]; omega
              have hcp : cp (outs [] acc ++ lit) offn (k + 1) = ys ++ [xx] := by
                simp only [cp]
                rw [← Kys.out, Kyl.out, Kx.out]
                simp [rd]
              rw [hh, hcp]
              exact KU5
            · obtain rfl : k = ln := by omega
              clear hq hyl
              go_wp2_with ((with_reducible refine gate_builtin (b := .append) (xs := #[.tmp 158, .tmp 160]) rfl ?_); apply Aside0.out)
              refine ⟨?_⟩
              obtain ⟨HO, HR, HB, HS, Hne⟩ := HU.out
              obtain ⟨cells, hcells, hsc⟩ := HR
              have hla := Kla.out
              have hcnt := KL.out.cnt
              refine print_append_cells (w0 := w) (W := wr) w.heap.size rfl (.tmp 158) (.tmp 160) 98 114 (.agg #[.slice none 0 0, .int .i64 0, .int .i64 0]) 3 40 rfl Try.underlying98 infoSeq rfl (by decide) (by decide) (.slice A9 la c9) acc.length cells [.slice AL nn cL, .int .i64 offn, .int .i64 k] rfl rfl rfl (by simp [Value.oneCell']) hcells HB HB.size (by omega) ?_
              intro v5 w5 h5 hb5 hg5 hat5
              obtain ⟨A5, c55, rfl⟩ := row_slice h5
              have KR5 := Aside0.mk (RowL_snoc hsc Kl1.out Kl3.out Kl2.out h5)
              have KO5 := Aside0.mk (own_grown_l HU.out.2.1 HU.out.1 hg5)
              rw [Kys.out] at KO5
              have KLL := Aside0.mk (LR_seq KL.out Kst.out rfl Kk4b.out Kat.out Kmm.out KO5.out KR5.out hb5)
              have hnn2 : n + lit.length + k = q := by rw [Kl1.out, Kq.out, Kn2.out]
              have Ksn : Aside0 ((acc ++ [(lit, (offn : Int), (k : Int))]).length = acc.length + 1) := ⟨by simp⟩
              clear h5 hb5 hg5 hat5 hsc hcells hla hcnt HO HB HS Hne hn1 hlnm
              go_wp2
              obtain ⟨f', hLL⟩ := KLL.out
              rw [hnn2] at hLL
              have Ka1 := Kat.out
              have Ka2 := Kk4b.out
              refine ⟨⟨acc ++ [(lit, (offn : Int), (k : Int))], q, k4, f', A, A5, cc, c55, rfl, rfl, by rw [Ksn.out], ?_⟩, by simp [intOf]; omega⟩
              rw [Ksn.out]
              exact ⟨hLL⟩
    · obtain rfl : at_ = b.length := by omega
      go_wp2
      refine bodyPost_ret (results_list (rs := [.tmp 4, .tmp 5, .tmp 6, .tmp 7]) rfl (by simp) (.tmp (.tmp (.tmp (.tmp .nil))))) rfl ?_
      exact LR_fail KL.out (by rw [List.drop_length]; rfl) (by decide) KL.out.below
end Go.Proofs.Ytpdggoapjbjmhaa.Lz
/- Blocks are unpacked: sequence by sequence, for a closure that keeps many blocks; Size; Cut. -/
set_option linter.unusedVariables false
set_option linter.unusedSimpArgs false
namespace Go.Proofs.Ytpdggoapjbjmhaa.Lz
open Go.RowKit Go.Proofs.YtpdggoapjbjmhaaW.PrintWords Go.Proofs.YtpdggoapjbjmhaaW.PrintLast Go.Proofs.YtpdggoapjbjmhaaW.PrintMore
section
variable {w0 w : World} {base : Nat} {P : Nat → Prop} {b : List Int} {A : Option Addr} {c : Nat} {most : Int} {I : World → List Sq → Option Nat → Prop} {o0 : Option Nat} {wr w1 w2 : World} {acc : List Sq} {at_ : Nat} {o : Option Nat} {f : Nat}
end
end Go.Proofs.Ytpdggoapjbjmhaa.Lz
/- Blocks are unpacked: how much; the sequences, in memory of their own. -/
set_option linter.unusedVariables false
set_option linter.unusedSimpArgs false
namespace Go.Proofs.Ytpdggoapjbjmhaa.Lz
open Go.RowKit Go.Proofs.YtpdggoapjbjmhaaW.PrintWords Go.Proofs.YtpdggoapjbjmhaaW.PrintLast Go.Proofs.YtpdggoapjbjmhaaW.PrintMore
/-- A sequence, as it lies in a row. -/
def kS : Kd Sq := Kd.pair (Kd.slice 5 (Kd.int .u8)) (Kd.pair (Kd.int .i64) (Kd.int .i64))
/-- A block's sequences; the error; its place. -/
def cuts (b : List Int) : List Sq × Int × Int :=
  if (run b.length 1048576 (b.length + 1) 0 b).2.1 = 0 then ((run b.length 1048576 (b.length + 1) 0 b).1, 0, b.length) else ([], (run b.length 1048576 (b.length + 1) 0 b).2)
end Go.Proofs.Ytpdggoapjbjmhaa.Lz
/- Blocks are unpacked: literals alone. -/
set_option linter.unusedVariables false
set_option linter.unusedSimpArgs false
namespace Go.Proofs.Ytpdggoapjbjmhaa
open Go.RowKit Go.Proofs.YtpdggoapjbjmhaaW.PrintWords Go.Proofs.YtpdggoapjbjmhaaW.PrintLast Go.Proofs.YtpdggoapjbjmhaaW.PrintMore
namespace Lz
/-- A length's further bytes, written. -/
def told (n : Nat) : List Int := List.replicate (n / 255) 255 ++ [((n % 255 : Nat) : Int)]
theorem lenL_told (m : Int) (r : List Int) : ∀ (k : Nat) (d : Nat), d < 255 → lenL m (List.replicate k 255 ++ [(d : Int)] ++ r) = some (m + 255 * k + d, r) := by
  intro k
  induction k generalizing m with
  | zero => intro d hd; simp only [List.replicate_zero, List.nil_append, List.singleton_append, lenL]; rw [if_pos (by omega)]; simp
  | succ k ih =>
    intro d hd
    rw [List.replicate_succ, List.cons_append, List.cons_append]
    unfold lenL
    rw [if_neg (by omega), ih _ d hd]
    simp only [Option.some.injEq, Prod.mk.injEq, and_true]
    omega
def plain (b : List Int) : List Int := if b.length < 15 then (16 * (b.length : Int)) :: b else 240 :: (told (b.length - 15) ++ b)
theorem told_length (n : Nat) : (told n).length = n / 255 + 1 := by simp [told]
end Lz
namespace LzPlain
end LzPlain
end Go.Proofs.Ytpdggoapjbjmhaa
/- Blocks are unpacked: what bytes unpack to. -/
set_option linter.unusedVariables false
set_option linter.unusedSimpArgs false
namespace Go.Proofs.Ytpdggoapjbjmhaa
open Go.RowKit Go.Proofs.YtpdggoapjbjmhaaW.PrintWords Go.Proofs.YtpdggoapjbjmhaaW.PrintLast Go.Proofs.YtpdggoapjbjmhaaW.PrintMore
namespace Lz
/-- The document's Decode, in the words of the program's. -/
theorem refdec_dec (w : World) (b : List Int) (A : Option Addr) (c : Nat) (most : Int) (hC : Kd.C (Kd.int .u8) w A b.length b) (hb : isB b) (hN : b.length ≤ 1000000) (hcap : b.length ≤ c) (hm0 : 0 ≤ most) (hm1 : most ≤ 1048576) :
    Calls Try.prog 58 #[.slice A b.length c, .int .i64 most] w fun e w' => ∃ v8 v9, e = .returned (.tuple #[v8, v9, .int .i64 (dec b most).2.1, .int .i64 (dec b most).2.2]) ∧ Below w.heap.size w w' ∧ Row.OwnB w' w.heap.size v8 (dec b most).1 ∧ RowL w w.heap.size w' v9 (if (dec b most).2.1 = 0 then (run b.length most (b.length + 1) 0 b).1 else []) := by
  refine (refdec_any w b A c most hC hb hN hcap hm0 hm1).mono fun e w' ⟨v8, v9, he, hB, h8, h9⟩ => ⟨v8, v9, ?_⟩
  unfold dec
  rw [if_neg (by omega)]
  by_cases h : (run b.length most (b.length + 1) 0 b).2.1 = 0
  · rw [if_pos h] at h8 h9 ⊢
    rw [if_pos h, h] at he
    exact ⟨he, hB, h8, by simpa using h9⟩
  · rw [if_neg h] at h8 h9 ⊢
    rw [if_neg h] at he
    refine ⟨he, hB, h8, ?_⟩
    rw [if_neg h]
    exact h9
end Lz
namespace LzDecodes
end LzDecodes
end Go.Proofs.Ytpdggoapjbjmhaa
/- Rows of sequences as they are read; the same ones are told to be the same. -/
set_option linter.unusedVariables false
set_option linter.unusedSimpArgs false
namespace Go.Proofs.Ytpdggoapjbjmhaa.Lz
open Go.RowKit Go.Proofs.YtpdggoapjbjmhaaW.PrintWords Go.Proofs.YtpdggoapjbjmhaaW.PrintLast Go.Proofs.YtpdggoapjbjmhaaW.PrintMore
theorem SC_reps {w0 w' : World} {base : Nat} (hB : Below base w0 w') {acc : List Sq} {cells : List Value} (h : SC w0 base acc cells) : Reps (kS.K w') 3 acc cells := by
  induction h with
  | nil => exact Reps.none _ _
  | snoc h hC hc ih => exact Reps.snoc ih ⟨[_], [_, _], rfl, ⟨_, _, rfl, hc, hC w' hB⟩, ⟨[_], [_], rfl, rfl, rfl⟩⟩ rfl
theorem RowL_C {w0 w' : World} {base : Nat} {v : Value} {acc : List Sq} (h : RowL w0 base w' v acc) (hB : Below base w0 w') : ∃ A c, v = .slice A acc.length c ∧ acc.length ≤ c ∧ Kd.C kS w' A acc.length acc := by
  obtain ⟨cells, h0, hs⟩ := h
  exact OwnRow.reads (R := kS.K w') ⟨cells, h0, SC_reps hB hs⟩
theorem at_kS {w : World} {A : Option Addr} {n : Nat} {xs : List Sq} (h : Kd.C kS w A n xs) (k : Nat) (h1 : k < n) : ∃ ad A0 c0, ∃ s : Sq, xs[k]? = some s ∧ A = some ad ∧ w.cell? (ad.add (k * 3)) = some (.slice A0 s.1.length c0) ∧ w.cell? ⟨(ad.add (k * 3)).block, (ad.add (k * 3)).off + 1, none⟩ = some (.int .i64 s.2.1) ∧ w.cell? ⟨(ad.add (k * 3)).block, (ad.add (k * 3)).off + 2, none⟩ = some (.int .i64 s.2.2) ∧ s.1.length ≤ c0 ∧ (Kd.int .u8).C w A0 s.1.length s.1 := by
  obtain ⟨ad, e, hc⟩ := h.2.2 (by omega)
  have hl := h.1
  have hk : k < xs.length := by omega
  obtain ⟨c, _, hK, hc0⟩ := hc k _ (List.getElem?_eq_getElem hk)
  obtain ⟨_, _, rfl, ⟨A0, c0, rfl, l0, g0⟩, ⟨_, _, rfl, rfl, rfl⟩⟩ := hK
  exact ⟨ad, A0, c0, xs[k], List.getElem?_eq_getElem hk, e, hc0 0 _ rfl, by rw [← add_field _ _ 1 (by omega)]; exact hc0 1 _ rfl, by rw [← add_field _ _ 2 (by omega)]; exact hc0 2 _ rfl, l0, g0⟩
end Go.Proofs.Ytpdggoapjbjmhaa.Lz
