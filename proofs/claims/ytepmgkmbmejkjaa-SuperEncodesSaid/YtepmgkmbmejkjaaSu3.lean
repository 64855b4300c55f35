/- An image's head as bytes: the program's Encode: walks. -/
import Derived.Test.YtepmgkmbmejkjaaSu1
import Derived.Test.YtepmgkmbmejkjaaFd3
import Derived.Test.YtepmgkmbmejkjaaSumN
import Derived.Lib.SlBytesConst
set_option linter.unusedVariables false
set_option linter.unusedSimpArgs false
namespace Go.Proofs.Ytepmgkmbmejkjaa.Su
open Go.RowKit Go.Proofs.Ytepmgkmbmejkjaa.Fd Go.Proofs.YtepmgkmbmejkjaaW.PrintWords Go.Proofs.YtepmgkmbmejkjaaW.PrintLast Go.Proofs.YtepmgkmbmejkjaaW.PrintMore
/-- The bytes of the first spans. -/
def spansB (s : Sup) : Nat → List Int
  | 0 => []
  | k + 1 => spansB s k ++ le (s.a k).toNat 4 ++ le (s.z k).toNat 4
def headB (s : Sup) : List Int := [80, 77, 83, 49] ++ le 1 2 ++ le s.log.toNat 2 ++ le s.ino.toNat 4 ++ le s.len.toNat 4
def bodyB (s : Sup) : List Int := headB s ++ spansB s 6
/-- A right head's bytes. -/
def bytesB (s : Sup) : List Int := bodyB s ++ le (Sum.crc 0 (bodyB s)) 4
theorem spansB_len (s : Sup) : ∀ k, (spansB s k).length = 8 * k
  | 0 => rfl
  | k + 1 => by rw [spansB, List.length_append, List.length_append, le_length, le_length, spansB_len s k]; omega
theorem headB_len (s : Sup) : (headB s).length = 16 := by simp [headB, le_length]
theorem bodyB_len (s : Sup) : (bodyB s).length = 64 := by rw [bodyB, List.length_append, headB_len, spansB_len]
theorem bytesB_len (s : Sup) : (bytesB s).length = 68 := by rw [bytesB, List.length_append, bodyB_len, le_length]
theorem isB_app {a b : List Int} (ha : ∀ x ∈ a, 0 ≤ x ∧ x < 256) (hb : ∀ x ∈ b, 0 ≤ x ∧ x < 256) : ∀ x ∈ a ++ b, 0 ≤ x ∧ x < 256 := fun x hx => (List.mem_append.1 hx).elim (ha x) (hb x)
theorem spansB_isB (s : Sup) : ∀ k, ∀ x ∈ spansB s k, 0 ≤ x ∧ x < 256
  | 0, x, hx => by cases hx
  | k + 1, x, hx => isB_app (isB_app (spansB_isB s k) (le_isB _ _)) (le_isB _ _) x hx
theorem magic_isB : ∀ x ∈ ([80, 77, 83, 49] : List Int), 0 ≤ x ∧ x < 256 := by decide
theorem headB_isB (s : Sup) : ∀ x ∈ headB s, 0 ≤ x ∧ x < 256 := isB_app (isB_app (isB_app (isB_app magic_isB (le_isB _ _)) (le_isB _ _)) (le_isB _ _)) (le_isB _ _)
theorem bodyB_isB (s : Sup) : ∀ x ∈ bodyB s, 0 ≤ x ∧ x < 256 := isB_app (headB_isB s) (spansB_isB s 6)
theorem bytesB_isB (s : Sup) : ∀ x ∈ bytesB s, 0 ≤ x ∧ x < 256 := isB_app (bodyB_isB s) (le_isB _ _)
theorem crc_lt (l : List Int) : Sum.crc 0 l < 4294967296 := by unfold Sum.crc; omega
/-- What the spans keep to. -/
theorem span_bds {s : Sup} (h : right s) {k : Nat} (hk : k < 6) : 0 ≤ s.a k ∧ s.a k ≤ 8388608 ∧ 0 ≤ s.z k ∧ s.z k ≤ 16777216 := by
  have key : ∀ j, j < 6 → 68 ≤ s.a j := by
    intro j
    induction j with
    | zero => intro _; exact (h.2 0 (by decide)).1.1
    | succ j ih =>
      intro hj
      have h1 := ih (by omega)
      have h2 := (h.2 (j + 1) hj).1.1
      have h3 : lastOf s (j + 1) = s.a j := rfl
      omega
  have h1 := key k hk
  have h2 := (h.2 k hk)
  have h3 := h.1.2.2.2
  exact ⟨by omega, by have := h2.1.2; omega, h2.2.1, h2.2.2⟩
section
variable {w0 w w1 : World} {s : Sup} {g : Nat} {most : Int} {v : Value} {xs : List Int}
theorem SB.of (h : SB w s w0) (hF : FW w0 w0.heap.size g most w1 v xs) : SB w s w1 := ⟨(hF.below.block _ (blk_lt h.1)).trans h.1, below_then h.2 h.2.size hF.below⟩
end
theorem lt16 {n : Int} (h : n < 65536) : n < 2 ^ (8 * 2) := h
theorem lt32n {n : Nat} (h : n < 4294967296) : n < 2 ^ (8 * 4) := by simpa using h
theorem lt32 {n : Int} (h : n < 4294967296) : n < 2 ^ (8 * 4) := h
theorem SB.all {w wr : World} {s : Sup} (h : SB w s wr) : wr.cell? ⟨w.heap.size, 0, none⟩ = some (.int .i64 s.log) ∧ wr.cell? ⟨w.heap.size, 1, none⟩ = some (.int .i64 s.ino) ∧ wr.cell? ⟨w.heap.size, 2, none⟩ = some (.int .i64 s.len) := ⟨(cell_of_row _ _ _ _ _ _ h.1).trans rfl, (cell_of_row _ _ _ _ _ _ h.1).trans rfl, (cell_of_row _ _ _ _ _ _ h.1).trans rfl⟩
theorem SB.c0 {w wr : World} {s : Sup} (h : SB w s wr) : wr.cell? ⟨w.heap.size, 3, none⟩ = some (.int .i64 (s.a 0)) ∧ wr.cell? ⟨w.heap.size, 4, none⟩ = some (.int .i64 (s.z 0)) := ⟨(cell_of_row _ _ _ _ _ _ h.1).trans rfl, (cell_of_row _ _ _ _ _ _ h.1).trans rfl⟩
theorem SB.c1 {w wr : World} {s : Sup} (h : SB w s wr) : wr.cell? ⟨w.heap.size, 5, none⟩ = some (.int .i64 (s.a 1)) ∧ wr.cell? ⟨w.heap.size, 6, none⟩ = some (.int .i64 (s.z 1)) := ⟨(cell_of_row _ _ _ _ _ _ h.1).trans rfl, (cell_of_row _ _ _ _ _ _ h.1).trans rfl⟩
theorem SB.c2 {w wr : World} {s : Sup} (h : SB w s wr) : wr.cell? ⟨w.heap.size, 7, none⟩ = some (.int .i64 (s.a 2)) ∧ wr.cell? ⟨w.heap.size, 8, none⟩ = some (.int .i64 (s.z 2)) := ⟨(cell_of_row _ _ _ _ _ _ h.1).trans rfl, (cell_of_row _ _ _ _ _ _ h.1).trans rfl⟩
theorem SB.c3 {w wr : World} {s : Sup} (h : SB w s wr) : wr.cell? ⟨w.heap.size, 9, none⟩ = some (.int .i64 (s.a 3)) ∧ wr.cell? ⟨w.heap.size, 10, none⟩ = some (.int .i64 (s.z 3)) := ⟨(cell_of_row _ _ _ _ _ _ h.1).trans rfl, (cell_of_row _ _ _ _ _ _ h.1).trans rfl⟩
theorem SB.c4 {w wr : World} {s : Sup} (h : SB w s wr) : wr.cell? ⟨w.heap.size, 11, none⟩ = some (.int .i64 (s.a 4)) ∧ wr.cell? ⟨w.heap.size, 12, none⟩ = some (.int .i64 (s.z 4)) := ⟨(cell_of_row _ _ _ _ _ _ h.1).trans rfl, (cell_of_row _ _ _ _ _ _ h.1).trans rfl⟩
theorem SB.c5 {w wr : World} {s : Sup} (h : SB w s wr) : wr.cell? ⟨w.heap.size, 13, none⟩ = some (.int .i64 (s.a 5)) ∧ wr.cell? ⟨w.heap.size, 14, none⟩ = some (.int .i64 (s.z 5)) := ⟨(cell_of_row _ _ _ _ _ _ h.1).trans rfl, (cell_of_row _ _ _ _ _ _ h.1).trans rfl⟩
theorem lit_cells (w : World) (g : Nat) (c : Array Value) (fr : Nat × Nat) (hg : w.heap[g]? = some (.cells c 5 fr)) (l : List Int) (hc : c.toList = nums .u8 l) (hl : l.length ≤ 9223372036854775807) : Kd.C (Kd.int .u8) w (some ⟨g, 0, none⟩) l.length l := by
  refine Kd.C_of_reads (d := (0 : Int)) ⟨rfl, hl, fun _ => ⟨_, rfl, fun j hj => ?_⟩⟩
  rw [add_plain, cell_of_row _ _ _ _ _ _ hg, ← Array.getElem?_toList, hc]
  simp [nums, List.getElem?_eq_getElem hj]
theorem lit_foot {w0 w2 : World} {base g : Nat} {most : Int} {v : Value} {xs : List Int} (h : FW w0 base g most w2 v xs) {a b c d : Int} {fr : Nat × Nat} : ∀ w', KeepBut (w2.alloc (.cells #[.int .u8 a, .int .u8 b, .int .u8 c, .int .u8 d] 5 fr)) w' g none → Kd.C (Kd.int .u8) w' (some ⟨w2.heap.size, 0, none⟩) ([a, b, c, d] : List Int).length [a, b, c, d] := fun w' hk => by
  have hlt := h.lt
  have h1 : w'.heap[w2.heap.size]? = some (.cells #[.int .u8 a, .int .u8 b, .int .u8 c, .int .u8 d] 5 fr) := by
    exact (hk.2 w2.heap.size (by simp) (by omega) (by simp)).trans (heap_alloc_new _ _)
  exact lit_cells w' _ _ fr h1 [a, b, c, d] rfl (by simp)
theorem span_kept {w1 wr w9 : World} {base g : Nat} {most a z : Int} {v : Value} {xs : List Int} (h : FW w1 base g most (wr.alloc (.cells #[.int .i64 a, .int .i64 z] 62)) v xs) (hg : g < wr.heap.size) (hK : KeepBut (wr.alloc (.cells #[.int .i64 a, .int .i64 z] 62)) w9 g v.ownBlock) : w9.cell? ⟨wr.heap.size, 1, none⟩ = some (.int .i64 z) := by
  have h0 := heap_alloc_new wr (.cells #[.int .i64 a, .int .i64 z] 62)
  have h1 := (hK.2 wr.heap.size (by simp) (by omega) (Kd.R_ne h.own h0 (by decide))).trans h0
  exact (cell_of_row _ _ _ _ _ _ h1).trans rfl
set_option maxHeartbeats 8000000 in
set_option maxRecDepth 100000 in
theorem encode_ok (s : Sup) (hr : right s) (w : World) : Calls Try.prog 36 #[.agg #[.int .i64 s.log, .int .i64 s.ino, .int .i64 s.len, .int .i64 (s.a 0), .int .i64 (s.z 0), .int .i64 (s.a 1), .int .i64 (s.z 1), .int .i64 (s.a 2), .int .i64 (s.z 2), .int .i64 (s.a 3), .int .i64 (s.z 3), .int .i64 (s.a 4), .int .i64 (s.z 4), .int .i64 (s.a 5), .int .i64 (s.z 5)]] w fun e w' => ∃ u, e = .returned (.tuple #[u, .int .i64 0]) ∧ Row.OwnB w' w.heap.size u (bytesB s) ∧ Below w.heap.size w w' := by
  have hal : Below w.heap.size w (w.alloc (.cells #[.int .i64 s.log, .int .i64 s.ino, .int .i64 s.len, .int .i64 (s.a 0), .int .i64 (s.z 0), .int .i64 (s.a 1), .int .i64 (s.z 1), .int .i64 (s.a 2), .int .i64 (s.z 2), .int .i64 (s.a 3), .int .i64 (s.z 3), .int .i64 (s.a 4), .int .i64 (s.z 4), .int .i64 (s.a 5), .int .i64 (s.z 5)] 65)) := below_alloc (Below.refl _ _) _
  have KB0 : Aside0 (SB w s (w.alloc (.cells #[.int .i64 s.log, .int .i64 s.ino, .int .i64 s.len, .int .i64 (s.a 0), .int .i64 (s.z 0), .int .i64 (s.a 1), .int .i64 (s.z 1), .int .i64 (s.a 2), .int .i64 (s.z 2), .int .i64 (s.a 3), .int .i64 (s.z 3), .int .i64 (s.a 4), .int .i64 (s.z 4), .int .i64 (s.a 5), .int .i64 (s.z 5)] 65))) := ⟨heap_alloc_new _ _, hal⟩
  have KC := Aside0.mk (fun w1 => check_any s w1)
  unfold chk at KC
  rw [if_pos hr] at KC
  have Kr := Aside0.mk hr
  obtain ⟨⟨a1, a2⟩, ⟨a3, a4⟩, ⟨a5, a6⟩⟩ := hr.1
  have L0 : 0 ≤ s.log := by omega
  have L1 : 0 ≤ s.ino := by omega
  have L2 : 0 ≤ s.len := by omega
  have kc := fun (w : World) (C : Array Value) (n c : Nat) => Lib.run_convert_bytes_const (P := Try.prog) w 30 5 C n c Try.underlying30 Try.underlying5
  clear hal hr
  go_enter Try.func36, Try.ntmps36
  go_wp2_with (first
    | (go_at_call 37; refine (KC.out _).mono ?_; rintro e w1 ⟨rfl, hb⟩; have KB1 : Aside0 (SB w s w1) := ⟨⟨blk_below KB0.out.1 hb, below_then KB0.out.2 KB0.out.2.size hb⟩⟩; clear hb)
    | (go_at_call 52; have _t := KB1; refine (writer_new 68 (by decide) w1).mono ?_; rintro e w2 ⟨rfl, hF⟩; have KF2 := Aside0.mk hF; clear hF)
    | (go_at_call 53; apply Aside0.out))
  refine ⟨?_⟩
  refine (bytes_ok (KF2.out.keep (below_alloc (Below.refl _ _) _)) [80, 77, 83, 49] _ 4 (lit_foot KF2.out) (by decide) (by decide)).mono ?_
  rintro e w3 ⟨rfl, v3, hF, -⟩
  have KF3 := Aside0.mk hF
  clear hF
  go_wp2_with (go_at_call 54; apply Aside0.out)
  refine ⟨?_⟩
  refine (num_okI KF3.out 1 2 (by decide) (Or.inr (Or.inl rfl)) (by decide) (by simp [le_length]) (by decide)).mono ?_
  rintro e w4 ⟨rfl, v4, hF, -⟩
  have KF4 := Aside0.mk hF
  clear hF
  have q0 := (SB.of KB1.out KF4.out).all.1
  go_wp2_with (go_at_call 54; apply Aside0.out)
  refine ⟨?_⟩
  refine (num_okI KF4.out s.log 2 L0 (Or.inr (Or.inl rfl)) (lt16 (by omega)) (by simp [le_length]) (by decide)).mono ?_
  rintro e w5 ⟨rfl, v5, hF, -⟩
  have KF5 := Aside0.mk hF
  clear hF
  have q1 := (SB.of KB1.out KF5.out).all.2.1
  go_wp2_with (go_at_call 54; apply Aside0.out)
  refine ⟨?_⟩
  refine (num_okI KF5.out s.ino 4 L1 (Or.inr (Or.inr (Or.inl rfl))) (lt32 (by omega)) (by simp [le_length]) (by decide)).mono ?_
  rintro e w6 ⟨rfl, v6, hF, -⟩
  have KF6 := Aside0.mk hF
  clear hF
  have q2 := (SB.of KB1.out KF6.out).all.2.2
  go_wp2_with (go_at_call 54; apply Aside0.out)
  refine ⟨?_⟩
  refine (num_okI KF6.out s.len 4 L2 (Or.inr (Or.inr (Or.inl rfl))) (lt32 (by omega)) (by simp [le_length]) (by decide)).mono ?_
  rintro e w7 ⟨rfl, v7, hF, -⟩
  have KF7 : Aside0 (FW w1 w1.heap.size w1.heap.size 68 w7 v7 (headB s)) := Aside0.mk hF
  clear hF
  obtain ⟨x0, y0⟩ := (SB.of KB1.out KF7.out).c0
  obtain ⟨x1, y1⟩ := (SB.of KB1.out KF7.out).c1
  obtain ⟨x2, y2⟩ := (SB.of KB1.out KF7.out).c2
  obtain ⟨x3, y3⟩ := (SB.of KB1.out KF7.out).c3
  obtain ⟨x4, y4⟩ := (SB.of KB1.out KF7.out).c4
  obtain ⟨x5, y5⟩ := (SB.of KB1.out KF7.out).c5
  go_wp2
  clear x0 x1 x2 x3 x4 x5 y0 y1 y2 y3 y4 y5
  go_loopw [36] (fun i wr => ∃ (k : Nat) (v' : Value), k ≤ 6 ∧ i = .int .i64 k ∧ Aside0 (FW w1 w1.heap.size w1.heap.size 68 wr v' (headB s ++ spansB s k))) (fun i _ => 6 - (intOf i).toNat)
  case atStart => exact ⟨0, v7, by omega, rfl, by rw [show headB s ++ spansB s 0 = headB s from List.append_nil _]; exact KF7⟩
  case round =>
    obtain ⟨k, v8, hk, rfl, KF8⟩ := hrel
    by_cases hlt : k < 6
    · obtain ⟨b0, b1, b2, b3⟩ := span_bds Kr.out hlt
      have hsz := KF8.out.lt
      have hl : Aside0 ((headB s ++ spansB s k).length = 16 + 8 * k) := ⟨by rw [List.length_append, headB_len, spansB_len]⟩
      have KF9 : Aside0 (∀ o, FW w1 w1.heap.size w1.heap.size 68 (wr.alloc o) v8 (headB s ++ spansB s k)) := ⟨fun o => KF8.out.keep (below_alloc (Below.refl _ _) _)⟩
      have KA : Aside0 (FW w1 w1.heap.size w1.heap.size 68 (wr.alloc (.cells #[.int .i64 (s.a k), .int .i64 (s.z k)] 62)) v8 (headB s ++ spansB s k)) := ⟨KF9.out _⟩
      have K10 := Aside0.mk (num_okI KA.out (s.a k) 4 b0 (Or.inr (Or.inr (Or.inl rfl))) (lt32 (by omega)) (by rw [hl.out]; omega) (by decide))
      have K11 : Aside0 (∀ (w9 : World) (v9 : Value), FW w1 w1.heap.size w1.heap.size 68 w9 v9 (headB s ++ spansB s k ++ le (s.a k).toNat 4) → _) := ⟨fun w9 v9 h9 => num_okI h9 (s.z k) 4 b2 (Or.inr (Or.inr (Or.inl rfl))) (lt32 (by omega)) (by rw [List.length_append, hl.out, le_length]; omega) (by decide)⟩
      have I0 := ix0 s
      have I1 := ix1 s
      have I2 := ix2 s
      have I3 := ix3 s
      have I4 := ix4 s
      have I5 := ix5 s
      have hkc : k = 0 ∨ k = 1 ∨ k = 2 ∨ k = 3 ∨ k = 4 ∨ k = 5 := by omega
      rcases hkc with rfl | rfl | rfl | rfl | rfl | rfl
      all_goals
        go_wp2_with (go_at_call 54; apply Aside0.out)
        refine ⟨?_⟩
        refine K10.out.mono ?_
        rintro e w9 ⟨rfl, v9, hF, hK⟩
        have KF10 := Aside0.mk hF
        have hy : w9.cell? ⟨wr.heap.size, 1, none⟩ = some (.int .i64 (s.z _)) := span_kept KA.out hsz hK
        clear hF hK
        go_wp2_with (go_at_call 54; apply Aside0.out)
        refine ⟨?_⟩
        refine (K11.out _ _ KF10.out).mono ?_
        rintro e w10 ⟨rfl, v10, hF, -⟩
        have KF11 := Aside0.mk hF
        clear hF
        go_wp2
        first
          | exact ⟨⟨1, v10, by decide, rfl, by rw [spansB, ← List.append_assoc, ← List.append_assoc]; exact KF11⟩, by simp [intOf]⟩
          | exact ⟨⟨2, v10, by decide, rfl, by rw [spansB, ← List.append_assoc, ← List.append_assoc]; exact KF11⟩, by simp [intOf]⟩
          | exact ⟨⟨3, v10, by decide, rfl, by rw [spansB, ← List.append_assoc, ← List.append_assoc]; exact KF11⟩, by simp [intOf]⟩
          | exact ⟨⟨4, v10, by decide, rfl, by rw [spansB, ← List.append_assoc, ← List.append_assoc]; exact KF11⟩, by simp [intOf]⟩
          | exact ⟨⟨5, v10, by decide, rfl, by rw [spansB, ← List.append_assoc, ← List.append_assoc]; exact KF11⟩, by simp [intOf]⟩
          | exact ⟨⟨6, v10, by decide, rfl, by rw [spansB, ← List.append_assoc, ← List.append_assoc]; exact KF11⟩, by simp [intOf]⟩
    · obtain rfl : k = 6 := by omega
      have hl : Aside0 ((bodyB s).length = 64) := ⟨bodyB_len s⟩
      have KF8 : Aside0 (FW w1 w1.heap.size w1.heap.size 68 wr v8 (bodyB s)) := KF8
      have KD := Aside0.mk (done_ok KF8.out (by rw [hl.out]; decide))
      have KCr : Aside0 (∀ (wa : World) (A : Option Addr) (c : Nat), Kd.C (Kd.int .u8) wa A (bodyB s).length (bodyB s) → _) := ⟨fun wa A c hC => Sum.crc_nil A c (bodyB s) wa hC (by rw [hl.out]; decide) (bodyB_isB s)⟩
      obtain ⟨x, hx⟩ : ∃ x, x = Sum.crc 0 (bodyB s) := ⟨_, rfl⟩
      have hxb : Aside0 (x < 4294967296) := ⟨by rw [hx]; exact crc_lt _⟩
      have hby : Aside0 (bodyB s ++ le x 4 = bytesB s) := ⟨by rw [hx]; rfl⟩
      rw [← hx] at KCr
      clear hx
      obtain ⟨nb, hnb⟩ : ∃ nb, nb = (bodyB s).length := ⟨_, rfl⟩
      rw [← hnb] at KCr
      have Knb := Aside0.mk hnb
      clear hnb
      go_wp2_with (go_at_call 55; apply Aside0.out)
      refine ⟨?_⟩
      refine KD.out.mono ?_
      rintro e w9 ⟨u9, rfl, hO, hB⟩
      obtain ⟨A9, c9, rfl, hc9, hC9⟩ := hO.slice
      have KF9 := Aside0.mk (KF8.out.keep hB)
      rw [← Knb.out] at hC9 hO
      rw [← Knb.out]
      have KC9 := Aside0.mk hC9
      clear hO hB hC9 hc9
      go_wp2_with (first | (go_at_call 56; refine (KCr.out _ _ _ KC9.out).mono ?_; rintro e w' ⟨rfl, rfl⟩) | (go_at_call 54; apply Aside0.out))
      refine ⟨?_⟩
      rw [u64_small (x : Int) (by omega) (by have := hxb.out; omega)]
      refine (num_ok KF9.out x 4 (Or.inr (Or.inr (Or.inl rfl))) (lt32n hxb.out) (by rw [hl.out]; decide) (by decide)).mono ?_
      rintro e w10 ⟨rfl, v10, hF, -⟩
      rw [hby.out] at hF
      have KF10 := Aside0.mk hF
      have KD2 := Aside0.mk (done_ok KF10.out (by rw [bytesB_len]; decide))
      clear hF
      go_wp2_with (go_at_call 55; apply Aside0.out)
      refine ⟨?_⟩
      refine KD2.out.mono ?_
      rintro e w11 ⟨u11, rfl, hO, hB⟩
      have hw : w.heap.size ≤ w10.heap.size := (SB.of KB1.out KF10.out).2.size
      have KO := Aside0.mk (hO.lower hw)
      have KB := Aside0.mk (below_then (SB.of KB1.out KF10.out).2 hw hB)
      obtain ⟨A11, c11, rfl, -, -⟩ := hO.slice
      clear hO hB
      go_wp2
      go_ret2
      exact ⟨_, rfl, KO.out, KB.out⟩
end Go.Proofs.Ytepmgkmbmejkjaa.Su
