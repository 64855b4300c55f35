/- Numbers in bytes: what the program's and the document's functions do: walks. -/
import Derived.Test.YtogplkochcalpaaRow
import Derived.Test.YtogplkochcalpaaWZeros
import Derived.Test.YtogplkochcalpaaRows
import Derived.OpenShut
set_option linter.unusedVariables false
set_option linter.unusedSimpArgs false
namespace Go.Proofs.Ytogplkochcalpaa.Fd
open Go.RowKit Go.Proofs.YtogplkochcalpaaW.PrintWords Go.Proofs.YtogplkochcalpaaW.PrintLast Go.Proofs.YtogplkochcalpaaW.PrintMore
/-- A number's bytes, the lowest first. -/
def le (n : Nat) : Nat → List Int
  | 0 => []
  | k + 1 => le n k ++ [((n / 2 ^ (8 * k) % 256 : Nat) : Int)]
theorem le_length (n : Nat) : ∀ k, (le n k).length = k
  | 0 => rfl
  | k + 1 => by rw [le, List.length_append, le_length n k]; rfl
/-- The row of the own bytes, what grew. -/
structure Gr (w0 w : World) (base : Nat) (r : Option Nat) (wr : World) (u : Value) (ys : List Int) : Prop where
  own : Row.OwnB wr base u ys
  below : Below base w0 wr
  grown : w.grownBy wr r
  at_ : u.ownBlock = r ∨ ∃ b, u.ownBlock = some b ∧ w.heap.size ≤ b
theorem Gr.refl {w0 w : World} {base : Nat} {v : Value} {xs : List Int} (h : Row.OwnB w base v xs) (hb : Below base w0 w) : Gr w0 w base v.ownBlock w v xs := ⟨h, hb, ⟨rfl, rfl, rfl, Nat.le_refl _, fun _ _ _ => rfl⟩, Or.inl rfl⟩
theorem Gr.next {w0 w wr w1 : World} {base : Nat} {r : Option Nat} {u u1 : Value} {ys zs : List Int} (h : Gr w0 w base r wr u ys) (h1 : Row.OwnB w1 base u1 zs) (hb : Below base w0 w1) (hg : wr.grownBy w1 u.ownBlock) (hat : u1.ownBlock = u.ownBlock ∨ ∃ b, u1.ownBlock = some b ∧ wr.heap.size ≤ b) : Gr w0 w base r w1 u1 zs := by
  have hs := h.grown.size
  refine ⟨h1, hb, ⟨hg.os.trans h.grown.os, hg.tape.trans h.grown.tape, hg.output.trans h.grown.output, Nat.le_trans h.grown.size hg.size, fun k hk hne => (hg.block k (Nat.lt_of_lt_of_le hk hs) ?_).trans (h.grown.block k hk hne)⟩, ?_⟩
  · rcases h.at_ with e | ⟨b, e, hb⟩
    · rw [e]; exact hne
    · rw [e]; intro e2; injection e2 with e2; omega
  · rcases hat with e | ⟨b, e, hb⟩
    · rw [e]; exact h.at_
    · exact Or.inr ⟨b, e, by omega⟩
set_option maxHeartbeats 1000000 in
theorem store_any (w0 w : World) (base : Nat) (v : Value) (xs : List Int) (n k : Nat) (HO : Row.OwnB w base v xs) (HB : Below base w0 w) (hbase : base ≤ w.heap.size) (hx : xs.length ≤ 100000000) (hk : k ≤ 8) :
    Calls Try.prog 60 #[v, .int .u64 n, .int .i64 k] w fun e w' => ∃ v', e = .returned v' ∧ Gr w0 w base v.ownBlock w' v' (xs ++ le n k) := by
  obtain ⟨A1, c1, rfl, hle, hC1⟩ := HO.slice
  have KG := Aside0.mk (Gr.refl HO HB)
  clear HO HB hC1
  go_enter Try.func60, Try.ntmps60
  go_wp2
  go_loopw [0, 9] (fun u i wr => ∃ (j : Nat) (A : Option Addr) (c : Nat), j ≤ k ∧ i = .int .i64 j ∧ u = .slice A (xs.length + j) c ∧ base ≤ wr.heap.size ∧ Aside0 (Gr w0 w base (Value.slice A1 xs.length c1).ownBlock wr (.slice A (xs.length + j) c) (xs ++ le n j))) (fun _ i _ => k - (intOf i).toNat)
  case atStart => exact ⟨0, A1, c1, by omega, rfl, rfl, hbase, ⟨by simpa [le] using KG.out⟩⟩
  case round =>
    obtain ⟨j, A, c, hj, rfl, rfl, hbr, HG⟩ := hrel
    obtain ⟨m, hm⟩ : ∃ m, m = xs.length + j := ⟨_, rfl⟩
    rw [← hm] at HG
    rw [← hm]
    have Km := Aside0.mk hm
    have hyl : Aside0 ((xs ++ le n j).length = m) := ⟨by rw [List.length_append, le_length, hm]⟩
    clear hm
    by_cases hlt : j < k
    · have hd0 : Aside0 (0 ≤ n / 2 ^ (8 * j)) := ⟨Nat.zero_le _⟩
      go_wp2_with ((with_reducible refine gate_builtin (b := .append) (xs := #[.tmp 12, .tmp 18]) rfl ?_); apply Aside0.out)
      refine ⟨?_⟩
      refine Kd.R_append (Kd.int .u8) (w0 := w0) (W := wr) base rfl (.tmp 12) (.tmp 18) 22 5 (.int .u8 0) 1 rfl Try.underlying22 Row.info8 rfl (by decide) (by decide) (.slice A m c) (xs ++ le n j) ((n : Int) / 2 ^ (8 * j) % 256) [.int .u8 ((n : Int) / 2 ^ (8 * j) % 256)] (fun _ => True) (fun _ => False) rfl rfl rfl (fun _ h => h.elim) (fun _ _ => trivial) HG.out.own HG.out.below hbr (by rw [hyl.out]; have := Km.out; omega) ?_
      intro v5 w5 h5 hb5 hg5 hat5
      have KG5 := Aside0.mk (HG.out.next h5 hb5 hg5 hat5)
      have hbr5 : base ≤ w5.heap.size := Nat.le_trans hbr hg5.size
      obtain ⟨A5, c5, hv5⟩ := Kd.R_slice h5
      rw [List.length_append, List.length_singleton, hyl.out] at hv5
      subst hv5
      clear h5 hb5 hg5 hat5
      go_wp2
      have hh : xs.length + (j + 1) = m + 1 := by rw [Km.out]; omega
      refine ⟨⟨j + 1, A5, c5, by omega, by go_num, by rw [hh], hbr5, ?_⟩, by simp [intOf]; omega⟩
      rw [hh, le, ← List.append_assoc]
      exact KG5
    · obtain rfl : j = k := by omega
      go_wp2
      go_ret
      exact ⟨_, rfl, HG.out⟩
/-- A width that may be. -/
def wid (k : Nat) : Prop := k = 1 ∨ k = 2 ∨ k = 4 ∨ k = 8
theorem wide_yes (k : Nat) (hk : wid k) (w : World) : Calls Try.prog 58 #[.int .i64 k] w fun e w' => e = .returned (.bool true) ∧ w = w' := by
  rcases hk with rfl | rfl | rfl | rfl
  all_goals
    go_enter Try.func58, Try.ntmps58
    go_wp2
    go_ret
    exact ⟨rfl, rfl⟩
theorem fits_yes (n k : Nat) (hk : wid k) (hn : n < 2 ^ (8 * k)) (w : World) : Calls Try.prog 59 #[.int .u64 n, .int .i64 k] w fun e w' => e = .returned (.bool true) ∧ w = w' := by
  rcases hk with rfl | rfl | rfl | rfl
  · have h1 : (((n : Int) / 256) == 0) = true := by simp at hn ⊢; omega
    clear hn
    go_enter Try.func59, Try.ntmps59
    go_wp2
    go_ret
    exact ⟨rfl, rfl⟩
  · have h1 : (((n : Int) / 65536) == 0) = true := by simp at hn ⊢; omega
    clear hn
    go_enter Try.func59, Try.ntmps59
    go_wp2
    go_ret
    exact ⟨rfl, rfl⟩
  · have h1 : (((n : Int) / 4294967296) == 0) = true := by simp at hn ⊢; omega
    clear hn
    go_enter Try.func59, Try.ntmps59
    go_wp2
    go_ret
    exact ⟨rfl, rfl⟩
  · clear hn
    go_enter Try.func59, Try.ntmps59
    go_wp2
    go_ret
    exact ⟨rfl, rfl⟩
/-- A writer in memory: what it has, nothing wrong. -/
structure FW (w0 : World) (base g : Nat) (most : Int) (w : World) (v : Value) (xs : List Int) : Prop where
  blk : w.heap[g]? = some (.cells #[v, .int .i64 most, .int .i64 0] 97 (0, 0))
  own : Row.OwnB w base v xs
  below : Below base w0 w
  bg : base ≤ g
section
variable {w0 w w1 : World} {base g : Nat} {most : Int} {v v1 : Value} {xs ys : List Int}
theorem FW.lt (h : FW w0 base g most w v xs) : g < w.heap.size := blk_lt h.blk
theorem FW.size (h : FW w0 base g most w v xs) : base ≤ w.heap.size := by have := h.lt; have := h.bg; omega
theorem FW.keep (h : FW w0 base g most w v xs) (hb : Below w.heap.size w w1) : FW w0 base g most w1 v xs := ⟨blk_below h.blk hb, h.own.below hb, below_then h.below h.size hb, h.bg⟩
theorem FW.cells (h : FW w0 base g most w v xs) : w.cell? ⟨g, 0, none⟩ = some v ∧ w.cell? ⟨g, 1, none⟩ = some (.int .i64 most) ∧ w.cell? ⟨g, 2, none⟩ = some (.int .i64 0) :=
  ⟨(cell_of_row _ _ _ _ _ _ h.blk).trans rfl, (cell_of_row _ _ _ _ _ _ h.blk).trans rfl, (cell_of_row _ _ _ _ _ _ h.blk).trans rfl⟩
theorem FW.again (h : FW w0 base g most w v xs) : FW w0 base g most (w.setCell ⟨g, 2, none⟩ (.int .i64 0)) v xs :=
  ⟨blk_set h.blk 2 _, Kd.R_set h.own h.blk (fun q hq => by simp [Kd.int, Kd.scalar] at hq; omega) 2 _, h.below.setCell h.bg _, h.bg⟩
theorem FW.next (h : FW w0 base g most w v xs) (hG : Gr w0 w base v.ownBlock w1 v1 ys) : FW w0 base g most (w1.setCell ⟨g, 0, none⟩ v1) v1 ys := by
  have hne : some g ≠ v.ownBlock := Kd.R_ne h.own h.blk (by decide)
  have hb1 := (hG.grown.block g h.lt hne).trans h.blk
  exact ⟨blk_set hb1 0 _, Kd.R_set hG.own hb1 (fun q hq => by simp [Kd.int, Kd.scalar] at hq; omega) 0 _, hG.below.setCell h.bg _, h.bg⟩
theorem right_ok (h : FW w0 base g most w v xs) (k : Int) (hk : k ≤ most - xs.length) (hm : most ≤ 100000000) (h0 : 0 ≤ most) (hk0 : 0 ≤ k) (hx : (xs.length : Int) ≤ most) : Calls Try.prog 57 #[.pointer (some ⟨g, 0, none⟩), .int .i64 0, .int .i64 k] w fun e w' => e = .returned (.bool true) ∧ FW w0 base g most w' v xs ∧ KeepBut w w' g none := by
  obtain ⟨c0, c1, c2⟩ := h.cells
  obtain ⟨A, c, rfl, hle, hC⟩ := h.own.slice
  have hf : w.frozen? ⟨g, 2, none⟩ = false := blk_frozen h.blk 2
  have KH := Aside0.mk h
  obtain ⟨n, hn⟩ : ∃ n : Nat, n = xs.length := ⟨_, rfl⟩
  rw [← hn] at c0 hk hx
  have Kn := Aside0.mk hn
  clear h hC hn hle
  go_enter Try.func57, Try.ntmps57
  go_wp2
  go_quiet (fail)
  go_wp2
  go_ret
  refine ⟨rfl, ?_, ?_⟩
  · exact FW.again (KH.out.keep (pw_below_drewN (Below.refl _ _) _))
  · exact (KeepBut.of_below (pw_below_drewN (Below.refl _ _) _) _ _).set_ _ _
theorem FW.frz (h : FW w0 base g most w v xs) (hG : Gr w0 w base v.ownBlock w1 v1 ys) : w1.frozen? ⟨g, 0, none⟩ = false := blk_frozen ((hG.grown.block g h.lt (Kd.R_ne h.own h.blk (by decide))).trans h.blk) 0
theorem FW.cel (h : FW w0 base g most w v xs) (hG : Gr w0 w base v.ownBlock w1 v1 ys) : w1.cell? ⟨g, 0, none⟩ = some v := (cell_of_row _ _ _ _ _ _ ((hG.grown.block g h.lt (Kd.R_ne h.own h.blk (by decide))).trans h.blk)).trans rfl
theorem FW.len (h : FW w0 base g most w v xs) : ∃ A c, v = .slice A xs.length c := Kd.R_slice h.own
theorem keep_any {w w' : World} {g : Nat} {row : Option Nat} (h : KeepBut w w' g none) : KeepBut w w' g row := ⟨h.1, fun i hi hg _ => h.2 i hi hg (by simp)⟩
theorem FW.kept {w2 : World} (h : KeepBut w w1 g none) (hG : Gr w0 w1 base v.ownBlock w2 v1 ys) : KeepBut w (w2.setCell ⟨g, 0, none⟩ v1) g v.ownBlock := ((keep_any h).trans (KeepBut.of_grown hG.grown g) (Or.inl rfl)).set_ 0 v1
/-- A number behind the others. -/
theorem num_ok (h : FW w0 base g most w v xs) (n k : Nat) (hk : wid k) (hn : n < 2 ^ (8 * k)) (hk2 : (k : Int) ≤ most - xs.length) (hm : most ≤ 100000000) : Calls Try.prog 41 #[.pointer (some ⟨g, 0, none⟩), .int .u64 n, .int .i64 k] w fun e w' => e = .returned (.tuple #[]) ∧ ∃ v', FW w0 base g most w' v' (xs ++ le n k) ∧ KeepBut w w' g v.ownBlock := by
  have hx : (xs.length : Int) ≤ most := by omega
  have hx2 : xs.length ≤ 100000000 := by omega
  have hk8 : k ≤ 8 := by rcases hk with h | h | h | h <;> omega
  have K1 := Aside0.mk (wide_yes k hk)
  have K2 := Aside0.mk (fits_yes n k hk hn)
  have K3 := Aside0.mk (right_ok h k hk2 hm (by omega) (by omega) hx)
  have K4 : Aside0 (∀ w1 : World, FW w0 base g most w1 v xs → _) := ⟨fun w1 h1 => store_any w0 w1 base v xs n k h1.own h1.below h1.size hx2 hk8⟩
  clear hn hk h hk2 hx hx2
  go_enter Try.func41, Try.ntmps41
  go_wp2_with (first | (go_at_call 58; refine (K1.out _).mono ?_; rintro e w' ⟨rfl, rfl⟩) | (go_at_call 59; refine (K2.out _).mono ?_; rintro e w' ⟨rfl, rfl⟩) | (go_at_call 57; refine K3.out.mono ?_; rintro e w1 ⟨rfl, h1, hk1⟩; have c0 := h1.cells.1; have KH := Aside0.mk h1; have KK := Aside0.mk hk1; clear h1 hk1) | (go_at_call 60; refine (K4.out _ KH.out).mono ?_; rintro e w2 ⟨v2, rfl, hG⟩; have KF := Aside0.mk (KH.out.next hG); have KM := Aside0.mk (FW.kept KK.out hG); have hfz := KH.out.frz hG; have hcl := KH.out.cel hG; obtain ⟨A2, c2, hv2⟩ := Kd.R_slice hG.own; obtain ⟨n2, hn2⟩ : ∃ n2, (xs ++ le n k).length = n2 := ⟨_, rfl⟩; rw [hn2] at hv2; subst hv2; clear hG hn2))
  go_end0
  exact ⟨rfl, _, KF.out, KM.out⟩
/-- Bytes behind the others. -/
theorem bytes_ok (h : FW w0 base g most w v xs) (l : List Int) (A : Option Addr) (c : Nat) (hC : ∀ w', KeepBut w w' g none → Kd.C (Kd.int .u8) w' A l.length l) (hk2 : (l.length : Int) ≤ most - xs.length) (hm : most ≤ 100000000) : Calls Try.prog 40 #[.pointer (some ⟨g, 0, none⟩), .slice A l.length c] w fun e w' => e = .returned (.tuple #[]) ∧ ∃ v', FW w0 base g most w' v' (xs ++ l) ∧ KeepBut w w' g v.ownBlock := by
  have hx : (xs.length : Int) ≤ most := by omega
  have hx2 : xs.length ≤ 100000000 := by omega
  have hl2 : l.length ≤ 100000000 := by omega
  have K3 := Aside0.mk (right_ok h l.length hk2 hm (by omega) (by omega) hx)
  have K4 := Aside0.mk hC
  clear h hk2 hx hC
  go_enter Try.func40, Try.ntmps40
  go_wp2_with (first | (go_at_call 57; refine K3.out.mono ?_; rintro e w1 ⟨rfl, h1, hk1⟩; have c0 := h1.cells.1; have KH := Aside0.mk h1; have KK := Aside0.mk hk1; clear h1 hk1) | ((with_reducible refine gate_builtin (b := .append) (xs := #[.tmp 12, .tmp 13]) rfl ?_); apply Aside0.out))
  refine ⟨?_⟩
  refine Row.app_rows (w0 := w0) base rfl (.tmp 12) (.tmp 13) rfl v xs l A l.length c rfl rfl KH.out.own (K4.out _ KK.out) KH.out.below KH.out.size (by omega) ?_
  intro zs A1 c1 w1 hz ho hzl hzle hzc hC1 hb1 hbs hg1 hat1
  have hG : Gr w0 _ base v.ownBlock w1 (.slice A1 zs.length c1) zs := ⟨ho.out, hb1.out, hg1.out, hat1.out⟩
  have KF := Aside0.mk (KH.out.next hG)
  have KM := Aside0.mk (FW.kept KK.out hG)
  have hfz := KH.out.frz hG
  have hcl := KH.out.cel hG
  have hz := hz.out
  obtain ⟨n, hn⟩ : ∃ n, n = zs.length := ⟨_, rfl⟩
  rw [← hn] at KF KM hzc ⊢
  have Kz := Aside0.mk hz
  clear hG hn ho hzl hC1 hg1 hat1 hb1 hz hzle
  go_wp2
  go_end0
  exact ⟨rfl, _, by rw [← Kz.out]; exact KF.out, KM.out⟩
end
end Go.Proofs.Ytogplkochcalpaa.Fd
