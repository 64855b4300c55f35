/- An image's head: the document's bytes: a walk. -/
import Derived.Test.YtepmgkmbmejkjaaSu7
set_option linter.unusedVariables false
set_option linter.unusedSimpArgs false
namespace Go.Proofs.Ytepmgkmbmejkjaa.Su
open Go.RowKit Go.Proofs.Ytepmgkmbmejkjaa.Fd Go.Proofs.YtepmgkmbmejkjaaW.PrintWords Go.Proofs.YtepmgkmbmejkjaaW.PrintLast Go.Proofs.YtepmgkmbmejkjaaW.PrintMore
theorem SB.span {w wr : World} {s : Sup} (h : SB w s wr) (k : Nat) (hk : k < 6) : wr.cell? ⟨w.heap.size, 3 + k * 2, none⟩ = some (.int .i64 (s.a k)) ∧ wr.cell? ⟨w.heap.size, 3 + k * 2 + 1, none⟩ = some (.int .i64 (s.z k)) := by
  rcases (by omega : k = 0 ∨ k = 1 ∨ k = 2 ∨ k = 3 ∨ k = 4 ∨ k = 5) with rfl | rfl | rfl | rfl | rfl | rfl
  · exact h.c0
  · exact h.c1
  · exact h.c2
  · exact h.c3
  · exact h.c4
  · exact h.c5
theorem SB.then_ {w wr w1 : World} {s : Sup} (h : SB w s wr) (hb : Below w.heap.size w w1) (h1 : Below wr.heap.size wr w1) : SB w s w1 := ⟨blk_below h.1 h1, hb⟩
theorem SB.grown {w wr w1 : World} {s : Sup} {n c : Nat} {A : Option Addr} {xs : List Int} (h : SB w s wr) (ho : Row.OwnB wr w.heap.size (.slice A n c) xs) (hb : Below w.heap.size w w1) (hg : wr.grownBy w1 (Value.slice A n c).ownBlock) : SB w s w1 := by
  refine ⟨(hg.block _ (blk_lt h.1) fun he => ?_).trans h.1, hb⟩
  obtain ⟨inner, h2⟩ := Kd.R_own ho
  obtain ⟨cells, hc⟩ := own_typed h2 w.heap.size he.symm
  rw [h.1] at hc
  injection hc with hc
  injection hc with _ ht
  exact absurd ht (by decide)
theorem lit8 (s : Sup) (h0 : 0 ≤ s.log) (h1 : s.log ≤ 20) : ([80, 77, 83, 49, 1, 0, s.log, 0] : List Int) = [80, 77, 83, 49] ++ le 1 2 ++ le s.log.toNat 2 := by
  obtain ⟨n, hn⟩ := Int.eq_ofNat_of_zero_le h0
  have h2 : n ≤ 20 := by omega
  rw [hn, Int.toNat_natCast]
  simp only [le, List.nil_append, List.cons_append, List.singleton_append]
  congr 7
  · simp; omega
  · congr 1; simp; omega
set_option maxHeartbeats 8000000 in
set_option maxRecDepth 100000 in
theorem rbytes_any13 (s : Sup) (hr : right s) (w : World) : Calls Try.prog 39 #[.agg #[.int .i64 s.log, .int .i64 s.ino, .int .i64 s.len, .int .i64 (s.a 0), .int .i64 (s.z 0), .int .i64 (s.a 1), .int .i64 (s.z 1), .int .i64 (s.a 2), .int .i64 (s.z 2), .int .i64 (s.a 3), .int .i64 (s.z 3), .int .i64 (s.a 4), .int .i64 (s.z 4), .int .i64 (s.a 5), .int .i64 (s.z 5)]] w fun e w' => ∃ v, e = .returned v ∧ Row.OwnB w' w.heap.size v (bytesB s) ∧ Below w.heap.size w w' := by
  have KB0 : Aside0 (SB w s (w.alloc (.cells #[.int .i64 s.log, .int .i64 s.ino, .int .i64 s.len, .int .i64 (s.a 0), .int .i64 (s.z 0), .int .i64 (s.a 1), .int .i64 (s.z 1), .int .i64 (s.a 2), .int .i64 (s.z 2), .int .i64 (s.a 3), .int .i64 (s.z 3), .int .i64 (s.a 4), .int .i64 (s.z 4), .int .i64 (s.a 5), .int .i64 (s.z 5)] 65))) := ⟨heap_alloc_new _ _, below_alloc (Below.refl _ _) _⟩
  have Kr := Aside0.mk hr
  obtain ⟨⟨a1, a2⟩, ⟨a3, a4⟩, ⟨a5, a6⟩⟩ := hr.1
  have L0 : 0 ≤ s.log := by omega
  have L1 : 0 ≤ s.ino := by omega
  have L2 : 0 ≤ s.len := by omega
  have K8 := Aside0.mk (lit8 s L0 a2)
  clear hr
  go_enter Try.func39, Try.ntmps39
  go_wp2_with (go_at_call 57; apply Aside0.out)
  refine ⟨?_⟩
  have hO0 := Row.OwnB.lit (w.alloc (.cells #[.int .i64 s.log, .int .i64 s.ino, .int .i64 s.len, .int .i64 (s.a 0), .int .i64 (s.z 0), .int .i64 (s.a 1), .int .i64 (s.z 1), .int .i64 (s.a 2), .int .i64 (s.z 2), .int .i64 (s.a 3), .int .i64 (s.z 3), .int .i64 (s.a 4), .int .i64 (s.z 4), .int .i64 (s.a 5), .int .i64 (s.z 5)] 65)) w.heap.size #[.int .u8 80, .int .u8 77, .int .u8 83, .int .u8 49, .int .u8 1, .int .u8 0, .int .u8 s.log, .int .u8 0] [80, 77, 83, 49, 1, 0, s.log, 0] rfl KB0.out.2.size (by simp)
  have hB0 := below_alloc (Below.refl (w.alloc (.cells #[.int .i64 s.log, .int .i64 s.ino, .int .i64 s.len, .int .i64 (s.a 0), .int .i64 (s.z 0), .int .i64 (s.a 1), .int .i64 (s.z 1), .int .i64 (s.a 2), .int .i64 (s.z 2), .int .i64 (s.a 3), .int .i64 (s.z 3), .int .i64 (s.a 4), .int .i64 (s.z 4), .int .i64 (s.a 5), .int .i64 (s.z 5)] 65)).heap.size (w.alloc (.cells #[.int .i64 s.log, .int .i64 s.ino, .int .i64 s.len, .int .i64 (s.a 0), .int .i64 (s.z 0), .int .i64 (s.a 1), .int .i64 (s.z 1), .int .i64 (s.a 2), .int .i64 (s.z 2), .int .i64 (s.a 3), .int .i64 (s.z 3), .int .i64 (s.a 4), .int .i64 (s.z 4), .int .i64 (s.a 5), .int .i64 (s.z 5)] 65))) (.cells #[.int .u8 80, .int .u8 77, .int .u8 83, .int .u8 49, .int .u8 1, .int .u8 0, .int .u8 s.log, .int .u8 0] 5)
  -- steps
  have hsz : (w.alloc (.cells #[.int .i64 s.log, .int .i64 s.ino, .int .i64 s.len, .int .i64 (s.a 0), .int .i64 (s.z 0), .int .i64 (s.a 1), .int .i64 (s.z 1), .int .i64 (s.a 2), .int .i64 (s.z 2), .int .i64 (s.a 3), .int .i64 (s.z 3), .int .i64 (s.a 4), .int .i64 (s.z 4), .int .i64 (s.a 5), .int .i64 (s.z 5)] 65)).heap.size = w.heap.size + 1 := by simp
  have KW := Aside0.mk (below_then KB0.out.2 KB0.out.2.size hB0)
  have KS := Aside0.mk (SB.then_ KB0.out KW.out hB0)
  rw [hsz] at hO0
  clear hsz
  have KO := Aside0.mk hO0
  clear hO0 hB0 KB0
  refine Aside0.out ?_
  refine ⟨?_⟩
  refine (rstore_anyI _ s.ino 4 L1 (by decide) ⟨by omega⟩).mono ?_
  rintro e w1 ⟨v1, rfl, hO1, hB1⟩
  obtain ⟨A1, c1, rfl, -, hC1⟩ := hO1.slice
  rw [le_length] at hC1 ⊢
  have KW1 := Aside0.mk (below_then KW.out KW.out.size hB1)
  have KS1 := Aside0.mk (SB.then_ KS.out KW1.out hB1)
  have KO1 := Aside0.mk (KO.out.below hB1)
  have KC1 := Aside0.mk hC1
  clear hO1 hB1 hC1 KW KS KO
  go_wp2_with ((with_reducible refine gate_builtin (b := .append) (xs := #[.tmp 9, .tmp 13]) rfl ?_); apply Aside0.out)
  refine ⟨?_⟩
  refine Row.app_rows (w0 := w) w.heap.size rfl (.tmp 9) (.tmp 13) rfl (.slice (some ⟨w.heap.size + 1, 0, none⟩) 8 8) ([80, 77, 83, 49, 1, 0, s.log, 0]) _ A1 4 c1 rfl rfl KO1.out KC1.out KW1.out KW1.out.size (by rw [show ([80, 77, 83, 49, 1, 0, s.log, 0] : List Int).length = 8 from rfl]; decide) ?_
  intro zs A2 c2 w2 e1 e2 e3 h4 h5 e4 hb2 e5 hg7 e7
  have hzl : zs.length = 12 := by rw [e3.out, show ([80, 77, 83, 49, 1, 0, s.log, 0] : List Int).length = 8 from rfl]
  rw [hzl]
  have KO := Aside0.mk (show Row.OwnB w2 w.heap.size (.slice A2 12 c2) ([80, 77, 83, 49, 1, 0, s.log, 0] ++ le (s.ino).toNat 4) by rw [← hzl, ← e1.out]; exact e2.out)
  have KW := Aside0.mk hb2.out
  have KS := Aside0.mk (SB.grown KS1.out KO1.out hb2.out hg7.out)
  clear e1 e2 e3 h4 h5 e4 hb2 e5 hg7 e7 hzl KO1 KC1 KW1 KS1
  have z2 := KS.out.all.2.2
  go_wp2_with (go_at_call 57; apply Aside0.out)
  clear z2
  refine ⟨?_⟩
  refine (rstore_anyI _ s.len 4 L2 (by decide) ⟨by omega⟩).mono ?_
  rintro e w1 ⟨v1, rfl, hO1, hB1⟩
  obtain ⟨A1, c1, rfl, -, hC1⟩ := hO1.slice
  rw [le_length] at hC1 ⊢
  have KW1 := Aside0.mk (below_then KW.out KW.out.size hB1)
  have KS1 := Aside0.mk (SB.then_ KS.out KW1.out hB1)
  have KO1 := Aside0.mk (KO.out.below hB1)
  have KC1 := Aside0.mk hC1
  clear hO1 hB1 hC1 KW KS KO
  go_wp2_with ((with_reducible refine gate_builtin (b := .append) (xs := #[.tmp 15, .tmp 19]) rfl ?_); apply Aside0.out)
  refine ⟨?_⟩
  refine Row.app_rows (w0 := w) w.heap.size rfl (.tmp 15) (.tmp 19) rfl (.slice A2 12 c2) (([80, 77, 83, 49, 1, 0, s.log, 0] ++ le s.ino.toNat 4)) _ A1 4 c1 rfl rfl KO1.out KC1.out KW1.out KW1.out.size (by rw [show ([80, 77, 83, 49, 1, 0, s.log, 0] ++ le s.ino.toNat 4 : List Int).length = 12 by rw [List.length_append, le_length]; rfl]; decide) ?_
  intro zs A2 c2 w2 e1 e2 e3 h4 h5 e4 hb2 e5 hg7 e7
  have hzl : zs.length = 16 := by rw [e3.out, show ([80, 77, 83, 49, 1, 0, s.log, 0] ++ le s.ino.toNat 4 : List Int).length = 12 by rw [List.length_append, le_length]; rfl]
  rw [hzl]
  have KO := Aside0.mk (show Row.OwnB w2 w.heap.size (.slice A2 16 c2) (([80, 77, 83, 49, 1, 0, s.log, 0] ++ le s.ino.toNat 4) ++ le (s.len).toNat 4) by rw [← hzl, ← e1.out]; exact e2.out)
  have KW := Aside0.mk hb2.out
  have KS := Aside0.mk (SB.grown KS1.out KO1.out hb2.out hg7.out)
  clear e1 e2 e3 h4 h5 e4 hb2 e5 hg7 e7 hzl KO1 KC1 KW1 KS1
  have KH : Aside0 (Row.OwnB w2 w.heap.size (.slice A2 16 c2) (headB s ++ spansB s 0)) := ⟨by rw [spansB, List.append_nil, headB, ← K8.out]; exact KO.out⟩
  clear KO
  go_wp2
  go_loopw [3, 4] (fun u i wr => ∃ (k : Nat) (A : Option Addr) (c : Nat), k ≤ 6 ∧ i = .int .i64 k ∧ u = .slice A (16 + 8 * k) c ∧ Aside0 (SB w s wr) ∧ Aside0 (Below w.heap.size w wr) ∧ Aside0 (Row.OwnB wr w.heap.size (.slice A (16 + 8 * k) c) (headB s ++ spansB s k))) (fun _ i _ => 6 - (intOf i).toNat)
  case atStart => exact ⟨0, A2, c2, by omega, rfl, rfl, KS, KW, KH⟩
  case round =>
    clear KH KS KW
    obtain ⟨k, A, c, hk, rfl, rfl, KS, KW, KO⟩ := hrel
    by_cases hlt : k < 6
    · obtain ⟨b1, b2, b3, b4⟩ := span_bds Kr.out hlt
      have KL : Aside0 ((headB s ++ spansB s k).length = 16 + 8 * k) := ⟨by rw [List.length_append, headB_len, spansB_len]⟩
      have z1 := (KS.out.span k hlt).1
      go_wp2_with (go_at_call 57; apply Aside0.out)
      clear z1
      refine ⟨?_⟩
      refine (rstore_anyI _ (s.a k) 4 b1 (by decide) ⟨by omega⟩).mono ?_
      rintro e w1 ⟨v1, rfl, hO1, hB1⟩
      obtain ⟨A1, c1, rfl, -, hC1⟩ := hO1.slice
      rw [le_length] at hC1 ⊢
      have KW1 := Aside0.mk (below_then KW.out KW.out.size hB1)
      have KS1 := Aside0.mk (SB.then_ KS.out KW1.out hB1)
      have KO1 := Aside0.mk (KO.out.below hB1)
      have KC1 := Aside0.mk hC1
      clear hO1 hB1 hC1 KW KS KO
      go_wp2_with ((with_reducible refine gate_builtin (b := .append) (xs := #[.tmp 25, .tmp 32]) rfl ?_); apply Aside0.out)
      refine ⟨?_⟩
      refine Row.app_rows (w0 := w) w.heap.size rfl (.tmp 25) (.tmp 32) rfl (.slice A (16 + 8 * k) c) (headB s ++ spansB s k) _ A1 4 c1 rfl rfl KO1.out KC1.out KW1.out KW1.out.size (by rw [KL.out]; omega) ?_
      intro zs A2 c2 w2 e1 e2 e3 h4 h5 e4 hb2 e5 hg7 e7
      have hzl : zs.length = 16 + 8 * k + 4 := by rw [e3.out, KL.out]
      rw [hzl]
      have KO := Aside0.mk (show Row.OwnB w2 w.heap.size (.slice A2 (16 + 8 * k + 4) c2) (headB s ++ spansB s k ++ le (s.a k).toNat 4) by rw [← hzl, ← e1.out]; exact e2.out)
      have KW := Aside0.mk hb2.out
      have KS := Aside0.mk (SB.grown KS1.out KO1.out hb2.out hg7.out)
      clear e1 e2 e3 h4 h5 e4 hb2 e5 hg7 e7 hzl KO1 KC1 KW1 KS1
      have KL2 : Aside0 ((headB s ++ spansB s k ++ le (s.a k).toNat 4).length = 16 + 8 * k + 4) := ⟨by rw [List.length_append, KL.out, le_length]⟩
      have z1 := (KS.out.span k hlt).2
      go_wp2_with (go_at_call 57; apply Aside0.out)
      clear z1
      refine ⟨?_⟩
      refine (rstore_anyI _ (s.z k) 4 b3 (by decide) ⟨by omega⟩).mono ?_
      rintro e w1 ⟨v1, rfl, hO1, hB1⟩
      obtain ⟨A1, c1, rfl, -, hC1⟩ := hO1.slice
      rw [le_length] at hC1 ⊢
      have KW1 := Aside0.mk (below_then KW.out KW.out.size hB1)
      have KS1 := Aside0.mk (SB.then_ KS.out KW1.out hB1)
      have KO1 := Aside0.mk (KO.out.below hB1)
      have KC1 := Aside0.mk hC1
      clear hO1 hB1 hC1 KW KS KO
      go_wp2_with ((with_reducible refine gate_builtin (b := .append) (xs := #[.tmp 34, .tmp 41]) rfl ?_); apply Aside0.out)
      refine ⟨?_⟩
      refine Row.app_rows (w0 := w) w.heap.size rfl (.tmp 34) (.tmp 41) rfl (.slice A2 (16 + 8 * k + 4) c2) (headB s ++ spansB s k ++ le (s.a k).toNat 4) _ A1 4 c1 rfl rfl KO1.out KC1.out KW1.out KW1.out.size (by rw [KL2.out]; omega) ?_
      intro zs A2 c2 w2 e1 e2 e3 h4 h5 e4 hb2 e5 hg7 e7
      have hzl : zs.length = 16 + 8 * k + 4 + 4 := by rw [e3.out, KL2.out]
      rw [hzl]
      have KO := Aside0.mk (show Row.OwnB w2 w.heap.size (.slice A2 (16 + 8 * k + 4 + 4) c2) (headB s ++ spansB s k ++ le (s.a k).toNat 4 ++ le (s.z k).toNat 4) by rw [← hzl, ← e1.out]; exact e2.out)
      have KW := Aside0.mk hb2.out
      have KS := Aside0.mk (SB.grown KS1.out KO1.out hb2.out hg7.out)
      clear e1 e2 e3 h4 h5 e4 hb2 e5 hg7 e7 hzl KO1 KC1 KW1 KS1
      have KO2 : Aside0 (Row.OwnB w2 w.heap.size (.slice A2 (16 + 8 * (k + 1)) c2) (headB s ++ spansB s (k + 1))) := ⟨by
        rw [spansB, show 16 + 8 * (k + 1) = 16 + 8 * k + 4 + 4 by omega, ← List.append_assoc, ← List.append_assoc]
        exact KO.out⟩
      clear b1 b2 b3 b4 KO KL KL2
      go_wp2
      refine ⟨⟨k + 1, A2, c2, by omega, by go_num, by rw [show 16 + 8 * (k + 1) = 16 + 8 * k + 4 + 4 by omega], KS, KW, KO2⟩, by simp [intOf]; omega⟩
    · obtain rfl : k = 6 := by omega
      have KB : Aside0 (Row.OwnB wr w.heap.size (.slice A 64 c) (bodyB s)) := KO
      have hC := KB.out.reads.2.2
      have KR := Aside0.mk (Sum.refCrc_any 0 (by decide) A c (bodyB s) wr hC (by rw [bodyB_len]; decide) (bodyB_isB s))
      rw [bodyB_len] at KR
      have hcl := crc_lt (bodyB s)
      obtain ⟨y, hy⟩ : ∃ y, y = Sum.crc 0 (bodyB s) := ⟨_, rfl⟩
      rw [← hy] at KR hcl
      have Ky := Aside0.mk hy
      clear hC hy KO
      go_wp2_with (first | (go_at_call 58; refine KR.out.mono ?_; rintro e w' ⟨rfl, rfl⟩) | (go_at_call 57; apply Aside0.out))
      clear KR
      have KO := KB
      refine ⟨?_⟩
      refine (rstore_anyI _ (y : Int) 4 (Int.natCast_nonneg y) (by decide) ⟨by omega⟩).mono ?_
      rintro e w1 ⟨v1, rfl, hO1, hB1⟩
      obtain ⟨A1, c1, rfl, -, hC1⟩ := hO1.slice
      rw [le_length] at hC1 ⊢
      have KW1 := Aside0.mk (below_then KW.out KW.out.size hB1)
      have KS1 := Aside0.mk (SB.then_ KS.out KW1.out hB1)
      have KO1 := Aside0.mk (KO.out.below hB1)
      have KC1 := Aside0.mk hC1
      clear hO1 hB1 hC1 KW KS KO
      go_wp2_with ((with_reducible refine gate_builtin (b := .append) (xs := #[.tmp 43, .tmp 47]) rfl ?_); apply Aside0.out)
      refine ⟨?_⟩
      refine Row.app_rows (w0 := w) w.heap.size rfl (.tmp 43) (.tmp 47) rfl (.slice A 64 c) (bodyB s) _ A1 4 c1 rfl rfl KO1.out KC1.out KW1.out KW1.out.size (by rw [bodyB_len]; decide) ?_
      intro zs A2 c2 w2 e1 e2 e3 h4 h5 e4 hb2 e5 hg7 e7
      have hzl : zs.length = 68 := by rw [e3.out, bodyB_len]
      rw [hzl]
      have KO := Aside0.mk (show Row.OwnB w2 w.heap.size (.slice A2 68 c2) (bodyB s ++ le ((y : Int)).toNat 4) by rw [← hzl, ← e1.out]; exact e2.out)
      have KW := Aside0.mk hb2.out
      have KS := Aside0.mk (SB.grown KS1.out KO1.out hb2.out hg7.out)
      clear e1 e2 e3 h4 h5 e4 hb2 e5 hg7 e7 hzl KO1 KC1 KW1 KS1
      have KO3 : Aside0 (Row.OwnB w2 w.heap.size (.slice A2 68 c2) (bytesB s)) := ⟨by
        have h := KO.out
        rw [Int.toNat_natCast, Ky.out] at h
        exact h⟩
      clear KO KB
      go_wp2
      go_ret
      exact ⟨_, rfl, KO3.out, KW.out⟩
end Go.Proofs.Ytepmgkmbmejkjaa.Su
