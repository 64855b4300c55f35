/- Deltas: the page's example: Make of two bytes: a walk. -/
import Derived.Test.YtogplkochcalpaaDe6
set_option linter.unusedVariables false
set_option linter.unusedSimpArgs false
namespace Go.Proofs.Ytogplkochcalpaa.De
open Go.RowKit Go.Proofs.Ytogplkochcalpaa.PD Go.Proofs.Ytogplkochcalpaa.Fd Go.Proofs.Ytogplkochcalpaa.Bg Go.Proofs.YtogplkochcalpaaW.PrintWords Go.Proofs.YtogplkochcalpaaW.PrintLast Go.Proofs.YtogplkochcalpaaW.PrintMore
theorem szDel : (Try.prog.info? 27).map (·.size) = some 5 := by kernel_rfl
theorem store_del {ops : Array Oper} {rest : List Oper} {o : Oper} {a : Act} {w : World} {Q : Exit → Act → World → Prop} (hgd : o.guard = none) (x y : Operand) (ho : o.op = .store 27 x y) (g : Nat) (cells old : Array Value) (hx : a.eval x = .pointer (some ⟨g, 0, none⟩)) (hy : a.eval y = .agg cells) (hg : w.heap[g]? = some (.cells old 27 (0, 0))) (hs : cells.size = 5) (hold : old.size = 5) (h1 : cells.all (·.oneCell') = true)
    (h : ∀ w', w'.heap[g]? = some (.cells cells 27 (0, 0)) → (∀ b w0, b ≤ g → Below b w0 w → Below b w0 w') → (∀ k, k ≠ g → w'.heap[k]? = w.heap[k]?) → w'.heap.size = w.heap.size → wpList Try.prog ops Q rest (a.put o.dst undef) w') : wpList Try.prog ops Q (o :: rest) a w := by
  refine wpList_store_row hgd 27 x y ho g cells hx hy 27 old hg (by rw [hs]; exact szDel) (by rw [hs, hold]) h1 (h _ (setRow_heap w g _ _ _ (0, 0) hg) (fun b w0 hb hB => ⟨hB.os, hB.tape, hB.output, by have := hB.size; simpa [World.setRow] using this, fun k hk => (setRow_other w g k cells (by omega)).trans (hB.block k hk)⟩) (fun k hk => setRow_other w g k cells hk) (by simp [World.setRow]))
set_option maxHeartbeats 4000000 in
set_option maxRecDepth 100000 in
theorem make_nil (w : World) (b : List Int) (B : Option Addr) (cb : Nat) (hC : Kd.C (Kd.int .u8) w B b.length b) (hcb : b.length ≤ cb) (h0 : 0 < b.length) (hb : b.length < 16) (hB : ∀ x ∈ b, 0 ≤ x ∧ x < 256) :
    Calls Try.prog 11 #[.slice none 0 0, .slice B b.length cb] w fun e w' => ∃ ov, e = .returned (.tuple #[.agg #[.int .i64 0, .int .i64 b.length, .int .u64 (digF []), .int .u64 (digF b), ov], .int .i64 0]) ∧ Kd.N k37 37 w' w.heap.size (fun k => w.heap.size ≤ k) ov [⟨0, 0, b⟩] ∧ Below w.heap.size w w' := by
  have hz0 := heap_alloc_new w (.cells #[.int .i64 0, .int .i64 0, .int .u64 0, .int .u64 0, .slice none 0 0] 27)
  have hB0 := below_alloc (Below.refl w.heap.size w) (.cells #[.int .i64 0, .int .i64 0, .int .u64 0, .int .u64 0, .slice none 0 0] 27)
  have KZ0 := Aside0.mk hz0
  have KB0 := Aside0.mk hB0
  have KD0 : Aside0 (∀ w1 : World, _) := ⟨fun w1 => digest_any [] none 0 w1 (Kd.C_nil _ _) (by simp) (by simp)⟩
  have KD1 : Aside0 (∀ w1 : World, Below w.heap.size w w1 → _) := ⟨fun w1 h => digest_any b B cb w1 (Kd.C_below hC h) hcb (by omega)⟩
  have KEq : Aside0 (∀ w1 : World, Below w.heap.size w w1 → _) := ⟨fun w1 h => Eq_.equal_any none 0 [] B cb b w1 (Kd.C_nil _ _) (by simp) (Kd.C_below hC h) hcb (by simp) hB⟩
  have hne : decide (([] : List Int) = b) = false := by
    rw [decide_eq_false_iff_not]; intro e; rw [← e] at h0; simp at h0
  rw [hne] at KEq
  have KR : Aside0 (∀ (w1 w2 : World) (g : Nat), Below w.heap.size w w1 → MS w1 g (.slice none 0 0) (.slice B b.length cb) none w2 (.slice none 0 0) [] 0 → _) := ⟨fun w1 w2 g h1 h2 => run_short (n := 0) (ca := 0) (A := none) b h2 (by decide) hb (Kd.C_below hC h1) hcb h0⟩
  obtain ⟨d0, hd0⟩ : ∃ d0, d0 = digF [] := ⟨_, rfl⟩
  obtain ⟨d1, hd1⟩ : ∃ d1, d1 = digF b := ⟨_, rfl⟩
  obtain ⟨k, hk⟩ : ∃ k, k = b.length := ⟨_, rfl⟩
  simp only [List.length_nil] at KD0 KEq
  rw [← hd0] at KD0 ⊢
  rw [← hd1] at KD1 ⊢
  rw [← hk] at KD1 KEq KR hb h0 hcb ⊢
  have Kk := Aside0.mk hk
  clear hC hB hne hd0 hd1 hz0 hB0 hk
  go_enter Try.func11, Try.ntmps11
  go_wp2_with (go_at_call 27; apply Aside0.out)
  refine ⟨?_⟩
  refine (KD0.out _).mono ?_
  rintro e w1 ⟨rfl, hdr⟩
  have KB1 := Aside0.mk (below_then KB0.out KB0.out.size hdr.below)
  have KZ1 := Aside0.mk (blk_below KZ0.out (hdr.below))
  clear hdr KZ0 KB0
  go_wp2_with (go_at_call 27; apply Aside0.out)
  refine ⟨?_⟩
  refine (KD1.out _ KB1.out).mono ?_
  rintro e w2 ⟨rfl, hdr⟩
  have KB2 := Aside0.mk (below_then KB1.out KB1.out.size hdr.below)
  have KZ2 := Aside0.mk (blk_below KZ1.out (hdr.below))
  have hX := heap_alloc_new w2 (.cells #[.int .i64 0, .int .i64 k, .int .u64 d0, .int .u64 d1, .slice none 0 0] 27)
  have hXb := below_alloc (Below.refl w2.heap.size w2) (.cells #[.int .i64 0, .int .i64 k, .int .u64 d0, .int .u64 d1, .slice none 0 0] 27)
  have KX3 := Aside0.mk hX
  have KZ3 := Aside0.mk (blk_below KZ2.out hXb)
  have KB3 := Aside0.mk (below_then KB2.out KB2.out.size hXb)
  clear hdr KB1 KZ1 hX hXb
  go_wp2_with (go_at_call 28; apply Aside0.out)
  refine ⟨?_⟩
  refine (KEq.out _ KB3.out).mono ?_
  rintro e w3 ⟨rfl, hw3⟩
  subst hw3
  obtain ⟨w3, hw3⟩ : ∃ w3, w3 = w2.alloc (.cells #[.int .i64 0, .int .i64 k, .int .u64 d0, .int .u64 d1, .slice none 0 0] 27) := ⟨_, rfl⟩
  rw [← hw3] at KX3 KZ3 KB3
  rw [← hw3]
  have hMg := heap_alloc_new w3 (.cells #[.slice none 0 0, .slice B k cb, .map none, .slice none 0 0, .int .i64 0] 60)
  have hMb := below_alloc (Below.refl w3.heap.size w3) (.cells #[.slice none 0 0, .slice B k cb, .map none, .slice none 0 0, .int .i64 0] 60)
  have KM4 : Aside0 (MS w3 w3.heap.size (.slice none 0 0) (.slice B k cb) none (w3.alloc (.cells #[.slice none 0 0, .slice B k cb, .map none, .slice none 0 0, .int .i64 0] 60)) (.slice none 0 0) [] 0) := ⟨⟨hMg, Kd.N_nil _ _ _ _ _, hMb, Nat.le_refl _⟩⟩
  have hsz : w2.heap.size < w3.heap.size := blk_lt KX3.out
  clear hMg hMb hw3
  go_wp2_with (go_at_call 29; apply Aside0.out)
  refine ⟨?_⟩
  refine (KR.out _ _ _ KB3.out KM4.out).mono ?_
  rintro e w5 ⟨rfl, m, ov, h5⟩
  have KM5 := Aside0.mk h5
  obtain ⟨c0, c1, c2, c3, c4⟩ := h5.cells
  have KB5 := Aside0.mk (below_then KB3.out KB3.out.size h5.below)
  have KX5 := Aside0.mk ((h5.below.block _ (blk_lt KX3.out)).trans KX3.out)
  have KZ5 := Aside0.mk ((h5.below.block _ (blk_lt KZ3.out)).trans KZ3.out)
  have x4 : w5.cell? ⟨w2.heap.size, 4, none⟩ = some (.slice none 0 0) := (cell_of_row _ _ _ _ _ _ KX5.out).trans rfl
  have xf : w5.frozen? ⟨w2.heap.size, 4, none⟩ = false := blk_frozen KX5.out 4
  obtain ⟨A5, C5, hv5⟩ := Kd.N_slice h5.own
  simp only [List.length_singleton] at hv5
  subst hv5
  clear h5 c0 c1 c2 c4
  have KX6 := Aside0.mk (blk_set KX5.out 4 (.slice A5 1 C5))
  obtain ⟨w6, hw6⟩ : ∃ w6, w6 = w5.setCell ⟨w2.heap.size, 4, none⟩ (.slice A5 1 C5) := ⟨_, rfl⟩
  have KZ6 : Aside0 (w6.heap[w.heap.size]? = some (.cells #[.int .i64 0, .int .i64 0, .int .u64 0, .int .u64 0, .slice none 0 0] 27 (0, 0))) := ⟨by rw [hw6]; exact (Below.heap_setCell _ ⟨w2.heap.size, 4, none⟩ _ w.heap.size (by have := blk_lt KZ2.out; show w.heap.size ≠ w2.heap.size; omega)).trans KZ5.out⟩
  have KB6 : Aside0 (Below w.heap.size w w6) := ⟨by rw [hw6]; exact KB5.out.setCell KB2.out.size _⟩
  have hN6 : Kd.N k37 37 w6 w3.heap.size (fun k => w3.heap.size ≤ k ∧ k ≠ w3.heap.size) (.slice A5 1 C5) [⟨0, 0, b⟩] := by rw [hw6]; exact Kd.N_far KM5.out.own (p := ⟨w2.heap.size, 4, none⟩) (fun k hk => by have h9 : w3.heap.size ≤ k := hk.1; intro h10; have h11 : k = w2.heap.size := h10; omega) _
  have KN6 := Aside0.mk hN6
  rw [← hw6] at KX6
  have z0 : w6.cell? ⟨w2.heap.size, 0, none⟩ = some (.int .i64 0) := (cell_of_row _ _ _ _ _ _ KX6.out).trans rfl
  have z1 : w6.cell? ⟨w2.heap.size, 1, none⟩ = some (.int .i64 k) := (cell_of_row _ _ _ _ _ _ KX6.out).trans rfl
  have z2 : w6.cell? ⟨w2.heap.size, 2, none⟩ = some (.int .u64 d0) := (cell_of_row _ _ _ _ _ _ KX6.out).trans rfl
  have z3 : w6.cell? ⟨w2.heap.size, 3, none⟩ = some (.int .u64 d1) := (cell_of_row _ _ _ _ _ _ KX6.out).trans rfl
  have z4 : w6.cell? ⟨w2.heap.size, 4, none⟩ = some (.slice A5 1 C5) := (cell_of_row _ _ _ _ _ _ KX6.out).trans rfl
  rw [hw6] at z0 z1 z2 z3 z4
  clear hN6
  go_wp2_with ((with_reducible refine gate_store (t := 27) (p := 4) rfl ?_); apply Aside0.out)
  refine ⟨?_⟩
  rw [← hw6]
  refine store_del rfl (.tmp 4) (.tmp 50) rfl w.heap.size _ _ rfl rfl KZ6.out rfl rfl (by simp [Value.oneCell']) ?_
  intro w7 hg hB hE hS
  have KB7 := Aside0.mk (hB _ _ (Nat.le_refl _) KB6.out)
  have KZ7 := Aside0.mk hg
  have KN7 : Aside0 (Kd.N k37 37 w7 w.heap.size (fun k => w.heap.size ≤ k) (.slice A5 1 C5) [⟨0, 0, b⟩]) := ⟨Kd.N_mono (Kd.N_lower (Kd.N_step KN6.out (fun k hk _ => hE k (by have := hk.1; have := KB3.out.size; have := blk_lt KZ2.out; omega))) KB3.out.size) (fun k hk => by have := hk.1; have := KB3.out.size; omega)⟩
  clear hg hB hE hS z0 z1 z2 z3 z4 hw6 x4 xf
  go_wp2
  refine bodyPost_ret (results_list (rs := [.cell 4 27, .tmp 5]) rfl (by simp) (.cell w.heap.size 27 _ _ _ rfl KZ7.out Try.underlying27 rfl szDel (.tmp .nil))) rfl ?_
  exact ⟨_, rfl, KN7.out, KB7.out⟩
end Go.Proofs.Ytogplkochcalpaa.De
