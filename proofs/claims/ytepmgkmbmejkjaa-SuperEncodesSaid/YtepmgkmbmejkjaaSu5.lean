/- An image's head: the page's example; an argument that is a head: walks. -/
import Derived.Test.YtepmgkmbmejkjaaSu4
import Derived.Test.YtepmgkmbmejkjaaOpen3
set_option linter.unusedVariables false
set_option linter.unusedSimpArgs false
namespace Go.Proofs.Ytepmgkmbmejkjaa.Su
open Go.RowKit Go.Proofs.Ytepmgkmbmejkjaa.Fd Go.Proofs.YtepmgkmbmejkjaaW.PrintWords Go.Proofs.YtepmgkmbmejkjaaW.PrintLast Go.Proofs.YtepmgkmbmejkjaaW.PrintMore
/-- The example's head, k streams told. -/
def supK (k : Nat) : Sup := ⟨12, 1, 68, fun j => if j < k then 68 else 0, fun _ => 0⟩
theorem supK_right : right (supK 6) := by decide
theorem live_0 {w wr : World} (h : SB w (supK 0) wr) : SB w (supK 1) (wr.setCell ⟨w.heap.size, 3, none⟩ (.int .i64 68)) := ⟨blk_set h.1 3 _, h.2.setCell (Nat.le_refl _) _⟩
theorem live_1 {w wr : World} (h : SB w (supK 1) wr) : SB w (supK 2) (wr.setCell ⟨w.heap.size, 5, none⟩ (.int .i64 68)) := ⟨blk_set h.1 5 _, h.2.setCell (Nat.le_refl _) _⟩
theorem live_2 {w wr : World} (h : SB w (supK 2) wr) : SB w (supK 3) (wr.setCell ⟨w.heap.size, 7, none⟩ (.int .i64 68)) := ⟨blk_set h.1 7 _, h.2.setCell (Nat.le_refl _) _⟩
theorem live_3 {w wr : World} (h : SB w (supK 3) wr) : SB w (supK 4) (wr.setCell ⟨w.heap.size, 9, none⟩ (.int .i64 68)) := ⟨blk_set h.1 9 _, h.2.setCell (Nat.le_refl _) _⟩
theorem live_4 {w wr : World} (h : SB w (supK 4) wr) : SB w (supK 5) (wr.setCell ⟨w.heap.size, 11, none⟩ (.int .i64 68)) := ⟨blk_set h.1 11 _, h.2.setCell (Nat.le_refl _) _⟩
theorem live_5 {w wr : World} (h : SB w (supK 5) wr) : SB w (supK 6) (wr.setCell ⟨w.heap.size, 13, none⟩ (.int .i64 68)) := ⟨blk_set h.1 13 _, h.2.setCell (Nat.le_refl _) _⟩
theorem live_area (w : World) : Calls Try.prog 32 #[.agg #[.int .i64 (supK 6).log, .int .i64 (supK 6).ino, .int .i64 (supK 6).len, .int .i64 ((supK 6).a 0), .int .i64 ((supK 6).z 0), .int .i64 ((supK 6).a 1), .int .i64 ((supK 6).z 1), .int .i64 ((supK 6).a 2), .int .i64 ((supK 6).z 2), .int .i64 ((supK 6).a 3), .int .i64 ((supK 6).z 3), .int .i64 ((supK 6).a 4), .int .i64 ((supK 6).z 4), .int .i64 ((supK 6).a 5), .int .i64 ((supK 6).z 5)], .int .i64 5] w fun e w' => e = .returned (.tuple #[.int .i64 68, .int .i64 68, .int .i64 0]) ∧ Below w.heap.size w w' := area_ok (supK 6) supK_right 5 (by decide) w
theorem live_block (w : World) : Calls Try.prog 38 #[.agg #[.int .i64 (supK 6).log, .int .i64 (supK 6).ino, .int .i64 (supK 6).len, .int .i64 ((supK 6).a 0), .int .i64 ((supK 6).z 0), .int .i64 ((supK 6).a 1), .int .i64 ((supK 6).z 1), .int .i64 ((supK 6).a 2), .int .i64 ((supK 6).z 2), .int .i64 ((supK 6).a 3), .int .i64 ((supK 6).z 3), .int .i64 ((supK 6).a 4), .int .i64 ((supK 6).z 4), .int .i64 ((supK 6).a 5), .int .i64 ((supK 6).z 5)]] w fun e w' => e = .returned (.int .i64 4096) ∧ Below w.heap.size w w' := by
  have h := block_any (supK 6) w
  rw [if_pos supK_right, show wrap64 (2 ^ (supK 6).log.toNat) = 4096 by (show wrap64 ((2 : Int) ^ (12 : Nat)) = 4096); unfold wrap64; omega] at h
  exact h
theorem live_enc (w : World) : Calls Try.prog 36 #[.agg #[.int .i64 (supK 6).log, .int .i64 (supK 6).ino, .int .i64 (supK 6).len, .int .i64 ((supK 6).a 0), .int .i64 ((supK 6).z 0), .int .i64 ((supK 6).a 1), .int .i64 ((supK 6).z 1), .int .i64 ((supK 6).a 2), .int .i64 ((supK 6).z 2), .int .i64 ((supK 6).a 3), .int .i64 ((supK 6).z 3), .int .i64 ((supK 6).a 4), .int .i64 ((supK 6).z 4), .int .i64 ((supK 6).a 5), .int .i64 ((supK 6).z 5)]] w fun e w' => ∃ A c, e = .returned (.tuple #[.slice A 68 c, .int .i64 0]) ∧ Below w.heap.size w w' :=
  (encode_ok (supK 6) supK_right w).mono fun e w' ⟨u, he, ho, hb⟩ => by
    obtain ⟨A, c, rfl, -, -⟩ := ho.slice
    rw [bytesB_len] at he
    exact ⟨A, c, he, hb⟩
set_option maxHeartbeats 4000000 in
set_option maxRecDepth 100000 in
theorem live_any (w : World) : Calls Try.prog 35 #[] w fun e w' => e = .returned (.bool true) ∧ Below w.heap.size w w' := by
  have KB0 : Aside0 (SB w (supK 0) (w.alloc (.cells #[.int .i64 (supK 0).log, .int .i64 (supK 0).ino, .int .i64 (supK 0).len, .int .i64 ((supK 0).a 0), .int .i64 ((supK 0).z 0), .int .i64 ((supK 0).a 1), .int .i64 ((supK 0).z 1), .int .i64 ((supK 0).a 2), .int .i64 ((supK 0).z 2), .int .i64 ((supK 0).a 3), .int .i64 ((supK 0).z 3), .int .i64 ((supK 0).a 4), .int .i64 ((supK 0).z 4), .int .i64 ((supK 0).a 5), .int .i64 ((supK 0).z 5)] 65))) := ⟨heap_alloc_new _ _, below_alloc (Below.refl _ _) _⟩
  go_enter Try.func35, Try.ntmps35
  go_wp2
  go_loopw [2] (fun i wr => ∃ k : Nat, k ≤ 6 ∧ i = .int .i64 k ∧ Aside0 (SB w (supK k) wr)) (fun i _ => 6 - (intOf i).toNat)
  case atStart => exact ⟨0, by omega, rfl, KB0⟩
  case round =>
    obtain ⟨k, hk, rfl, KB⟩ := hrel
    by_cases hlt : k < 6
    · have hkc : k = 0 ∨ k = 1 ∨ k = 2 ∨ k = 3 ∨ k = 4 ∨ k = 5 := by omega
      rcases hkc with rfl | rfl | rfl | rfl | rfl | rfl
      · have q0 := KB.out.c0.1
        have q1 : wr.frozen? ⟨w.heap.size, 3, none⟩ = false := blk_frozen KB.out.1 _
        go_wp2
        exact ⟨⟨1, by decide, rfl, ⟨live_0 KB.out⟩⟩, by simp [intOf]⟩
      · have q0 := KB.out.c1.1
        have q1 : wr.frozen? ⟨w.heap.size, 5, none⟩ = false := blk_frozen KB.out.1 _
        go_wp2
        exact ⟨⟨2, by decide, rfl, ⟨live_1 KB.out⟩⟩, by simp [intOf]⟩
      · have q0 := KB.out.c2.1
        have q1 : wr.frozen? ⟨w.heap.size, 7, none⟩ = false := blk_frozen KB.out.1 _
        go_wp2
        exact ⟨⟨3, by decide, rfl, ⟨live_2 KB.out⟩⟩, by simp [intOf]⟩
      · have q0 := KB.out.c3.1
        have q1 : wr.frozen? ⟨w.heap.size, 9, none⟩ = false := blk_frozen KB.out.1 _
        go_wp2
        exact ⟨⟨4, by decide, rfl, ⟨live_3 KB.out⟩⟩, by simp [intOf]⟩
      · have q0 := KB.out.c4.1
        have q1 : wr.frozen? ⟨w.heap.size, 11, none⟩ = false := blk_frozen KB.out.1 _
        go_wp2
        exact ⟨⟨5, by decide, rfl, ⟨live_4 KB.out⟩⟩, by simp [intOf]⟩
      · have q0 := KB.out.c5.1
        have q1 : wr.frozen? ⟨w.heap.size, 13, none⟩ = false := blk_frozen KB.out.1 _
        go_wp2
        exact ⟨⟨6, by decide, rfl, ⟨live_5 KB.out⟩⟩, by simp [intOf]⟩
    · obtain rfl : k = 6 := by omega
      obtain ⟨z0, z1, z2, z3, z4, z5, z6, z7, z8, z9, z10, z11, z12, z13, z14⟩ := box_cells KB.out.1
      go_wp2_with (go_at_call 32; refine (live_area _).mono ?_; rintro e w1 ⟨rfl, hb⟩; have KB1 : Aside0 (SB w (supK 6) w1) := ⟨⟨blk_below KB.out.1 hb, below_then KB.out.2 KB.out.2.size hb⟩⟩; clear hb z0 z1 z2 z3 z4 z5 z6 z7 z8 z9 z10 z11 z12 z13 z14; obtain ⟨y0, y1, y2, y3, y4, y5, y6, y7, y8, y9, y10, y11, y12, y13, y14⟩ := box_cells KB1.out.1; apply Aside0.out)
      refine ⟨?_⟩
      go_wp2_with (go_at_call 36; refine (live_enc _).mono ?_; rintro e w2 ⟨A, c, rfl, hb⟩; have KB2 : Aside0 (SB w (supK 6) w2) := ⟨⟨blk_below KB1.out.1 hb, below_then KB1.out.2 KB1.out.2.size hb⟩⟩; clear hb y0 y1 y2 y3 y4 y5 y6 y7 y8 y9 y10 y11 y12 y13 y14; obtain ⟨x0, x1, x2, x3, x4, x5, x6, x7, x8, x9, x10, x11, x12, x13, x14⟩ := box_cells KB2.out.1; apply Aside0.out)
      refine ⟨?_⟩
      go_wp2_with (first | (go_at_call 34; refine (num_any _ _).mono ?_; rintro e w' ⟨rfl, rfl⟩) | (go_at_call 38; refine (live_block _).mono ?_; rintro e w3 ⟨rfl, hb⟩; have KB3 : Aside0 (SB w (supK 6) w3) := ⟨⟨blk_below KB2.out.1 hb, below_then KB2.out.2 KB2.out.2.size hb⟩⟩; clear hb))
      go_ret
      exact ⟨rfl, KB3.out.2⟩
/-- An argument that is a head. -/
theorem sup_of {w : World} {cs0 : Array Value} {x0 : Int × Int × Int × (List (Int × Int))} (r0 : ∃ c00 c01, cs0.toList = c00 ++ c01 ∧ ((Kd.int .i64).K w x0.1 c00 ∧ (fun n : Int => (Lit.int .i64 n).wf = true) x0.1) ∧ (∃ c10 c11, c01 = c10 ++ c11 ∧ ((Kd.int .i64).K w x0.2.1 c10 ∧ (fun n : Int => (Lit.int .i64 n).wf = true) x0.2.1) ∧ (∃ c20 c21, c11 = c20 ++ c21 ∧ ((Kd.int .i64).K w x0.2.2.1 c20 ∧ (fun n : Int => (Lit.int .i64 n).wf = true) x0.2.2.1) ∧ (Open.InLine (Kd.pair (Kd.int .i64) (Kd.int .i64)) (fun x : Int × Int => (fun n : Int => (Lit.int .i64 n).wf = true) x.1 ∧ (fun n : Int => (Lit.int .i64 n).wf = true) x.2) 6 w x0.2.2.2 c21)))) :
    ∃ s : Sup, cs0 = #[.int .i64 s.log, .int .i64 s.ino, .int .i64 s.len, .int .i64 (s.a 0), .int .i64 (s.z 0), .int .i64 (s.a 1), .int .i64 (s.z 1), .int .i64 (s.a 2), .int .i64 (s.z 2), .int .i64 (s.a 3), .int .i64 (s.z 3), .int .i64 (s.a 4), .int .i64 (s.z 4), .int .i64 (s.a 5), .int .i64 (s.z 5)] := by
  obtain ⟨c00, c01, h, ⟨h1, -⟩, c10, c11, h2, ⟨h3, -⟩, c20, c21, h4, ⟨h5, -⟩, hl, hcl, hel⟩ := r0
  have e0 : c00 = [Value.int .i64 x0.1] := h1
  have e1 : c10 = [Value.int .i64 x0.2.1] := h3
  have e2 : c20 = [Value.int .i64 x0.2.2.1] := h5
  have hel2 : ∀ i, i < 6 → (c21.drop (i * 2)).take 2 = [Value.int .i64 (x0.2.2.2.getD i (0, 0)).1, Value.int .i64 (x0.2.2.2.getD i (0, 0)).2] := by
    intro i hi
    have hx : x0.2.2.2[i]? = some (x0.2.2.2.getD i (0, 0)) := by
      rw [List.getD_eq_getElem?_getD, List.getElem?_eq_getElem (by omega)]
      rfl
    obtain ⟨⟨a, b, hab, ha, hb⟩, -⟩ := hel i _ hx
    have hab' : (c21.drop (i * 2)).take 2 = a ++ b := hab
    rw [hab', show a = _ from ha, show b = _ from hb]
    rfl
  have hcl2 : c21.length = 12 := hcl
  refine ⟨⟨x0.1, x0.2.1, x0.2.2.1, fun k => (x0.2.2.2.getD k (0, 0)).1, fun k => (x0.2.2.2.getD k (0, 0)).2⟩, Array.toList_inj.1 ?_⟩
  have g0 := hel2 0 (by decide)
  have g1 := hel2 1 (by decide)
  have g2 := hel2 2 (by decide)
  have g3 := hel2 3 (by decide)
  have g4 := hel2 4 (by decide)
  have g5 := hel2 5 (by decide)
  match c21, hcl2 with
  | [v0, v1, v2, v3, v4, v5, v6, v7, v8, v9, v10, v11], _ =>
    simp only [Nat.zero_mul, Nat.one_mul, Nat.reduceMul, List.drop_zero, List.drop_succ_cons, List.take_succ_cons, List.take_zero, List.cons.injEq, and_true] at g0 g1 g2 g3 g4 g5
    obtain ⟨rfl, rfl⟩ := g0
    obtain ⟨rfl, rfl⟩ := g1
    obtain ⟨rfl, rfl⟩ := g2
    obtain ⟨rfl, rfl⟩ := g3
    obtain ⟨rfl, rfl⟩ := g4
    obtain ⟨rfl, rfl⟩ := g5
    rw [h, h2, h4, e0, e1, e2]
    rfl
end Go.Proofs.Ytepmgkmbmejkjaa.Su
