/- Deltas: the page's example: a walk. -/
import Derived.Test.YtogplkochcalpaaDe7
set_option linter.unusedVariables false
set_option linter.unusedSimpArgs false
namespace Go.Proofs.Ytogplkochcalpaa.De
open Go.RowKit Go.Proofs.Ytogplkochcalpaa.PD Go.Proofs.Ytogplkochcalpaa.Fd Go.Proofs.Ytogplkochcalpaa.Bg Go.Proofs.YtogplkochcalpaaW.PrintWords Go.Proofs.YtogplkochcalpaaW.PrintLast Go.Proofs.YtogplkochcalpaaW.PrintMore
def dl2 : Dl := ⟨0, 2, digF [], digF [97, 98], [⟨0, 0, [97, 98]⟩]⟩
theorem right_gen (c d : Int) : rightD ⟨0, 2, c, d, [⟨0, 0, [97, 98]⟩]⟩ = true := by simp [rightD, rightL, rightO, ol]
theorem len_gen (c d : Int) : (bytesB ⟨0, 2, c, d, [⟨0, 0, [97, 98]⟩]⟩).length = 39 := by rw [bytesB_len]; rfl
theorem u64B (n : Int) : 0 ≤ IntKind.u64.wrap n ∧ IntKind.u64.wrap n < 18446744073709551616 := by simp [IntKind.wrap, IntKind.bits, IntKind.signed]; omega
theorem onF_bound (l : List Int) : ∀ d : Int, 0 ≤ d ∧ d < 18446744073709551616 → 0 ≤ onF d l ∧ onF d l < 18446744073709551616 := by
  induction l with
  | nil => intro d h; exact h
  | cons x l ih => intro d h; exact ih _ (u64B _)
theorem digF_bound (l : List Int) : 0 ≤ digF l ∧ digF l < 18446744073709551616 := onF_bound l _ (by decide)
theorem N_C {w : World} {base : Nat} {ok : Nat → Prop} {v : Value} {l : List S37} (h : Kd.N k37 37 w base ok v l) : ∃ A c, v = .slice A l.length c ∧ l.length ≤ c ∧ Kd.C k37 w A l.length l := by
  obtain ⟨A, c, rfl, hl⟩ := Kd.N_slice h
  obtain ⟨h1, h2, h3⟩ := Kd.N_reads' h
  exact ⟨A, c, rfl, h2, h3⟩
theorem str_atE {w : World} {A : Option Addr} {n c : Nat} {xs : List Int} (h : (Kd.int .u8).C w A n xs) : (convert 22 9 (.slice A n c)).run Try.prog w = .ok (.string (strOfNums xs)) w :=
  Kd.C_string Try.underlying22 Try.underlying5 Try.underlying9 h
set_option maxHeartbeats 4000000 in
set_option maxRecDepth 100000 in
theorem live_any (w : World) : Calls Try.prog 10 #[] w fun e w' => e = .returned (.bool true) ∧ Below w.heap.size w w' := by
  have hb0 := below_alloc (Below.refl w.heap.size w) (.cells #[.int .u8 97, .int .u8 98] 5 (2, 3))
  have hl0 := lit_cells _ w.heap.size _ _ (heap_alloc_new w (.cells #[.int .u8 97, .int .u8 98] 5 (2, 3))) [97, 98] rfl (by simp)
  have KM := Aside0.mk (make_nil (w.alloc (.cells #[.int .u8 97, .int .u8 98] 5 (2, 3))) [97, 98] _ 2 hl0 (by simp) (by simp) (by simp) (by decide))
  have KB0 := Aside0.mk hb0
  have kc := fun (w : World) (C : Array Value) (n c : Nat) => Lib.run_convert_bytes_const (P := Try.prog) w 22 5 C n c Try.underlying22 Try.underlying5
  obtain ⟨d0, hd0⟩ : ∃ d0, d0 = digF [] := ⟨_, rfl⟩
  obtain ⟨d1, hd1⟩ : ∃ d1, d1 = digF [97, 98] := ⟨_, rfl⟩
  have Kd0 : Aside0 (0 ≤ d0 ∧ d0 < 18446744073709551616) := ⟨by rw [hd0]; exact digF_bound _⟩
  have Kd1 : Aside0 (0 ≤ d1 ∧ d1 < 18446744073709551616) := ⟨by rw [hd1]; exact digF_bound _⟩
  rw [← hd0, ← hd1] at KM
  simp only [List.length_cons, List.length_nil, Nat.zero_add, Nat.reduceAdd] at KM
  clear hb0 hl0 hd0 hd1
  have KW : Aside0 (WfD ⟨0, 2, d0, d1, [⟨0, 0, [97, 98]⟩]⟩) := ⟨⟨fun o ho => by simp at ho; subst ho; exact ⟨by decide, by decide, by decide⟩, fun o ho => by simp at ho; subst ho; decide, Kd0.out.1, Kd0.out.2, Kd1.out.1, Kd1.out.2⟩⟩
  have KE : Aside0 (∀ (w1 : World) A c, Kd.C k37 w1 A 1 [⟨0, 0, [97, 98]⟩] → 1 ≤ c → _) := ⟨fun w1 A c h1 h2 => encode_ok ⟨0, 2, d0, d1, [⟨0, 0, [97, 98]⟩]⟩ A c w1 h1 h2 KW.out (by simp) (right_gen _ _) (by rw [len_gen]; decide)⟩
  have KS : Aside0 (∀ (w1 : World) A c, Kd.C k37 w1 A 1 [⟨0, 0, [97, 98]⟩] → 1 ≤ c → _) := ⟨fun w1 A c h1 h2 => size_any ⟨0, 2, d0, d1, [⟨0, 0, [97, 98]⟩]⟩ A c w1 h1 h2 KW.out.ops (by simp) (by rw [len_gen]; decide)⟩
  simp only [right_gen, len_gen, if_true, dv, List.length_cons, List.length_nil, Nat.zero_add, Nat.reduceAdd] at KS KE
  go_enter Try.func10, Try.ntmps10
  go_wp2_with (go_at_call 11; apply Aside0.out)
  refine ⟨?_⟩
  refine KM.out.mono ?_
  rintro e w1 ⟨ov, rfl, hN, hb⟩
  obtain ⟨A1, C1, rfl, hle, hC1⟩ := N_C hN
  simp only [List.length_singleton] at hC1 hle ⊢
  have KC1 := Aside0.mk hC1
  have KB1 := Aside0.mk (below_then KB0.out KB0.out.size hb)
  have hX := heap_alloc_new w1 (.cells #[.int .i64 0, .int .i64 2, .int .u64 d0, .int .u64 d1, .slice A1 1 C1] 27)
  have hXb := below_alloc (Below.refl w1.heap.size w1) (.cells #[.int .i64 0, .int .i64 2, .int .u64 d0, .int .u64 d1, .slice A1 1 C1] 27)
  have KX := Aside0.mk hX
  have KXb := Aside0.mk hXb
  have KE2 := Aside0.mk (KE.out _ _ _ (Kd.C_below hC1 hXb) hle)
  clear hN hb hC1 hX hXb KM
  go_wp2_with (go_at_call 23; apply Aside0.out)
  refine ⟨?_⟩
  refine KE2.out.mono ?_
  rintro e w2 ⟨u2, rfl, hO2, hb2⟩
  obtain ⟨A2, C2, rfl, hle2, -⟩ := hO2.slice
  have e39 := len_gen d0 d1
  rw [e39] at hle2 ⊢
  have KX2 := Aside0.mk (blk_below KX.out hb2)
  have KC2 := Aside0.mk (Kd.C_below (Kd.C_below KC1.out KXb.out) hb2)
  have KB2 := Aside0.mk (below_then (below_then KB1.out KB1.out.size KXb.out) (below_then KB1.out KB1.out.size KXb.out).size hb2)
  obtain ⟨ad, B, cb, rfl, x0, x1, x2, hcb, hCB⟩ := at_T37 KC2.out (0 : Int) (by omega) (by omega)
  have er : rd_T37 [(⟨0, 0, [97, 98]⟩ : S37)] 0 = ⟨0, 0, [97, 98]⟩ := rfl
  rw [er] at x0 x1 x2 hcb hCB
  have e0 : ad.add ((0 : Int).toNat * 3) = ad := rfl
  rw [e0] at x0 x1 x2
  simp only [List.length_cons, List.length_nil, Nat.zero_add, Nat.reduceAdd] at x2 hcb hCB
  have hst := str_atE (c := cb) hCB
  have KS2 := Aside0.mk (KS.out w2 _ C1 KC2.out hle)
  rw [show ((39 : Nat) : Int) = 39 from rfl] at KS2
  have z0 : w2.cell? ⟨w1.heap.size, 0, none⟩ = some (.int .i64 0) := (cell_of_row _ _ _ _ _ _ KX2.out).trans rfl
  have z1 : w2.cell? ⟨w1.heap.size, 1, none⟩ = some (.int .i64 2) := (cell_of_row _ _ _ _ _ _ KX2.out).trans rfl
  have z2 : w2.cell? ⟨w1.heap.size, 2, none⟩ = some (.int .u64 d0) := (cell_of_row _ _ _ _ _ _ KX2.out).trans rfl
  have z3 : w2.cell? ⟨w1.heap.size, 3, none⟩ = some (.int .u64 d1) := (cell_of_row _ _ _ _ _ _ KX2.out).trans rfl
  have z4 : w2.cell? ⟨w1.heap.size, 4, none⟩ = some (.slice (some ad) 1 C1) := (cell_of_row _ _ _ _ _ _ KX2.out).trans rfl
  have hs : ((strOfNums [97, 98]).toList == [97, 98]) = true := by rw [Go.Lib.strOfNums_toList]; rfl
  clear hO2 hb2 er hCB KE2 e0
  go_wp2_with (first | (go_at_call 12; refine (num_any _ _).mono ?_; rintro e w' ⟨rfl, rfl⟩) | (go_at_call 24; apply Aside0.out))
  refine ⟨?_⟩
  refine KS2.out.mono ?_
  rintro e w3 ⟨rfl, hb3⟩
  have KB3 := Aside0.mk (below_then KB2.out KB2.out.size hb3)
  clear hb3
  go_wp2
  go_ret
  exact ⟨rfl, KB3.out⟩
end Go.Proofs.Ytogplkochcalpaa.De
