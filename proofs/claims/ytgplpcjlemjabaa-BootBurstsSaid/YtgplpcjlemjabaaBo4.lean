/- Boot records out of bytes: the program's Decode: walks. -/
import Derived.Test.YtgplpcjlemjabaaBo3
set_option linter.unusedVariables false
set_option linter.unusedSimpArgs false
namespace Go.Proofs.Ytgplpcjlemjabaa.Bo
open Go.RowKit Go.Proofs.Ytgplpcjlemjabaa.Fd Go.Proofs.Ytgplpcjlemjabaa.Bg Go.Proofs.YtgplpcjlemjabaaW.PrintWords Go.Proofs.YtgplpcjlemjabaaW.PrintLast Go.Proofs.YtgplpcjlemjabaaW.PrintMore
theorem next_cases (s : RS) (l : List Int) (n o : Nat) (h : s.bad = true ∨ s = ⟨o, false⟩) : (s.next l n).bad = true ∨ (s.next l n = ⟨o + n, false⟩ ∧ o + n ≤ l.length) := by
  rcases h with h | rfl
  · left
    unfold RS.next
    rw [if_pos h]; exact h
  · unfold RS.next
    by_cases h2 : o + n ≤ l.length
    · right
      rw [if_neg (by simp), if_pos h2]
      exact ⟨rfl, h2⟩
    · left
      rw [if_neg (by simp), if_neg h2]
theorem next_yes (l : List Int) (n o : Nat) (h : o + n ≤ l.length) : (⟨o, false⟩ : RS).next l n = ⟨o + n, false⟩ := by
  unfold RS.next
  rw [if_neg (by simp), if_pos h]
theorem tk_yes (l : List Int) (n o : Nat) (h : o + n ≤ l.length) : val ((⟨o, false⟩ : RS).tk l n) = rdN l o n := by
  unfold RS.tk rdN
  rw [if_pos ⟨rfl, h⟩]
theorem st_short {l : List Int} {s1 s2 s3 s4 s5 s6 : RS} (h1 : s1 = (⟨0, false⟩ : RS).next l 4) (h2 : s2 = s1.next l 8) (h3 : s3 = s2.next l 4) (h4 : s4 = s3.next l 4) (h5 : s5 = s4.next l 8) (h6 : s6 = s5.next l 4) (h : l.length < 32) : s6.bad = true := by
  have c1 := next_cases ⟨0, false⟩ l 4 0 (Or.inr rfl)
  rw [← h1] at c1
  have c2 := next_cases s1 l 8 4 (c1.imp id (·.1))
  rw [← h2] at c2
  have c3 := next_cases s2 l 4 12 (c2.imp id (·.1))
  rw [← h3] at c3
  have c4 := next_cases s3 l 4 16 (c3.imp id (·.1))
  rw [← h4] at c4
  have c5 := next_cases s4 l 8 20 (c4.imp id (·.1))
  rw [← h5] at c5
  have c6 := next_cases s5 l 4 28 (c5.imp id (·.1))
  rw [← h6] at c6
  rcases c6 with c6 | c6
  · exact c6
  · exact absurd c6.2 (by omega)
theorem val_tk {l : List Int} (hl : ∀ x ∈ l, 0 ≤ x ∧ x < 256) (s : RS) (k : Nat) : val (s.tk l k) < 2 ^ (8 * k) := Nat.lt_of_lt_of_le (val_lt (s.tk l k) (fun x hx => hl x (tk_sub s l k x hx))) (pow_le8 (tk_le s l k))
/-- A box stands. -/
def DB (wr : World) (b : Nat) (r : Rec) : Prop := wr.heap[b]? = some (.cells #[.int .u64 r.seq, .int .i64 r.slot, .int .i64 r.len, .int .u64 r.sum] 45 (0, 0))
theorem eq32 {w : World} {base cF : Nat} {AF : Option Addr} {x : List Int} (ho : Row.OwnB w base (.slice AF 32 cF) x) (hx : x.length = 32) (hb : ∀ y ∈ x, 0 ≤ y ∧ y < 256) {A : Option Addr} {c : Nat} {l : List Int} (h32 : 32 ≤ l.length) (hc : l.length ≤ c) (hl : ∀ x ∈ l, 0 ≤ x ∧ x < 256) (hC : Kd.C (Kd.int .u8) w A l.length l) :
    Calls Try.prog 53 #[.slice AF 32 cF, .slice A 32 c] w fun e w' => e = .returned (.bool (decide (x = l.take 32))) ∧ w = w' := by
  obtain ⟨-, hle, hC1⟩ := ho.reads
  have h1 : (l.take 32).length = 32 := by rw [List.length_take]; omega
  have hC2 : Kd.C (Kd.int .u8) w A (l.take 32).length (l.take 32) := by
    rw [h1]
    exact Kd.C_of_reads (d := (0 : Int)) (h1 := fun _ => rfl) ((Kd.reads_of_C (d := (0 : Int)) hC).take_ 32 (by omega))
  have h := Eq_.equal_any AF cF x A c (l.take 32) w hC1 (by omega) hC2 (by omega) hb (fun y hy => hl y (List.mem_of_mem_take hy))
  rw [hx, h1] at h
  exact h
theorem szRec : (Try.prog.info? 45).map (·.size) = some 4 := by kernel_rfl
theorem store_rec {ops : Array Oper} {rest : List Oper} {o : Oper} {a : Act} {w : World} {Q : Exit → Act → World → Prop} (hgd : o.guard = none) (x y : Operand) (ho : o.op = .store 45 x y) (g : Nat) (s0 : Array Value) (cells old : Array Value) (hx : a.eval x = .pointer (some ⟨g, 0, none⟩)) (hy : a.eval y = .agg cells) (hg : w.heap[g]? = some (.cells old 45 (0, 0))) (hs : cells.size = 4) (hold : old.size = 4) (h1 : cells.all (·.oneCell') = true)
    (h : ∀ w', w'.heap[g]? = some (.cells cells 45 (0, 0)) → (∀ b w0, b ≤ g → Below b w0 w → Below b w0 w') → wpList Try.prog ops Q rest (a.put o.dst undef) w') : wpList Try.prog ops Q (o :: rest) a w := by
  refine wpList_store_row hgd 45 x y ho g cells hx hy 45 old hg (by rw [hs]; exact szRec) (by rw [hs, hold]) h1 (h _ (setRow_heap w g _ _ _ (0, 0) hg) (fun b w0 hb hB => ⟨hB.os, hB.tape, hB.output, by have := hB.size; simpa [World.setRow] using this, fun k hk => (setRow_other w g k cells (by omega)).trans (hB.block k hk)⟩))
set_option maxHeartbeats 8000000 in
set_option maxRecDepth 100000 in
theorem decode_any (w : World) (l : List Int) (A : Option Addr) (c : Nat) (hC : Kd.C (Kd.int .u8) w A l.length l) (hl : ∀ x ∈ l, 0 ≤ x ∧ x < 256) (hm : l.length ≤ 1000000) (hc : l.length ≤ c) :
    Calls Try.prog 28 #[.slice A l.length c] w fun e w' => Below w.heap.size w w' ∧ ((isR l ∧ e = .returned (.tuple #[.agg #[.int .u64 (recD l).seq, .int .i64 (recD l).slot, .int .i64 (recD l).len, .int .u64 (recD l).sum], .int .i64 0])) ∨ (¬ isR l ∧ e = .returned (.tuple #[.agg #[.int .u64 0, .int .i64 0, .int .i64 0, .int .u64 0], .int .i64 6]))) := by
  have KC : Aside0 (∀ w', Below w.heap.size w w' → Kd.C (Kd.int .u8) w' A l.length l) := ⟨fun w' hb => Kd.C_below hC hb⟩
  have Kl := Aside0.mk hl
  obtain ⟨s1, hs1⟩ : ∃ s : RS, s = (⟨0, false⟩ : RS).next l 4 := ⟨_, rfl⟩
  obtain ⟨s2, hs2⟩ : ∃ s : RS, s = s1.next l 8 := ⟨_, rfl⟩
  obtain ⟨s3, hs3⟩ : ∃ s : RS, s = s2.next l 4 := ⟨_, rfl⟩
  obtain ⟨s4, hs4⟩ : ∃ s : RS, s = s3.next l 4 := ⟨_, rfl⟩
  obtain ⟨s5, hs5⟩ : ∃ s : RS, s = s4.next l 8 := ⟨_, rfl⟩
  obtain ⟨s6, hs6⟩ : ∃ s : RS, s = s5.next l 4 := ⟨_, rfl⟩
  obtain ⟨n1, hn1⟩ : ∃ n : Nat, n = val (s1.tk l 8) := ⟨_, rfl⟩
  obtain ⟨n2, hn2⟩ : ∃ n : Nat, n = val (s2.tk l 4) := ⟨_, rfl⟩
  obtain ⟨n3, hn3⟩ : ∃ n : Nat, n = val (s3.tk l 4) := ⟨_, rfl⟩
  obtain ⟨n4, hn4⟩ : ∃ n : Nat, n = val (s4.tk l 8) := ⟨_, rfl⟩
  have B2 : n2 < 4294967296 := by rw [hn2]; exact val_tk hl s2 4
  have B3 : n3 < 4294967296 := by rw [hn3]; exact val_tk hl s3 4
  have Ks := Aside0.mk (And.intro hs1 (And.intro hs2 (And.intro hs3 (And.intro hs4 (And.intro hs5 hs6)))))
  have Kn := Aside0.mk (And.intro hn1 (And.intro hn2 (And.intro hn3 hn4)))
  clear hC hl hs1 hs2 hs3 hs4 hs5 hs6 hn1 hn2 hn3 hn4
  have hmf : ∀ (fn : Fn) (first cap : Array Value) (w : World), (Instr.makeFunc fn first cap).run Try.prog w = .ok (.func fn first cap) w := fun _ _ _ _ => rfl
  go_enter Try.func28, Try.ntmps28
  go_wp2_with (go_at_call 49; apply Aside0.out)
  refine ⟨?_⟩
  have hB0 := below_alloc (Below.refl w.heap.size w) (.cells #[.int .u64 0, .int .i64 0, .int .i64 0, .int .u64 0] 45)
  have hz0 := heap_alloc_new w (.cells #[.int .u64 0, .int .i64 0, .int .i64 0, .int .u64 0] 45)
  generalize hW : World.alloc w _ = w0 at hB0 hz0 ⊢
  have hwz : w.heap.size < w0.heap.size := blk_lt hz0
  have KB0 := Aside0.mk hB0
  have KZ00 := Aside0.mk hz0
  clear hW hB0 hz0
  refine (reader_new w0 l A c (fun w' hb => KC.out w' (below_then KB0.out KB0.out.size hb)) (by omega)).mono ?_
  rintro e w1 ⟨g, v, rfl, hR⟩
  have hbr : w.heap.size < w0.heap.size ∧ w0.heap.size ≤ g := ⟨hwz, hR.bg⟩
  have KR1 := Aside0.mk hR
  have KZ1 : Aside0 (w1.heap[w.heap.size]? = some (.cells #[.int .u64 0, .int .i64 0, .int .i64 0, .int .u64 0] 45 (0, 0))) := ⟨(hR.below.block _ hwz).trans KZ00.out⟩
  clear hR
  go_wp2_with (go_at_call 51; apply Aside0.out)
  refine ⟨?_⟩
  refine (rbytes_any KR1.out (by omega) 4 (by decide)).mono ?_
  rintro e w2 ⟨AF, cF, rfl, hcF, hOF, hR, hk⟩
  rw [← Ks.out.1] at hR
  have KR2 := Aside0.mk hR
  have KZ2 : Aside0 (w2.heap[w.heap.size]? = some (.cells #[.int .u64 0, .int .i64 0, .int .i64 0, .int .u64 0] 45 (0, 0))) := ⟨dec_keep KR1.out hk hbr KZ1.out⟩
  clear hR hk hOF hcF
  go_wp2_with (go_at_call 50; apply Aside0.out)
  refine ⟨?_⟩
  refine (rnum_any KR2.out Kl.out (by omega) 8 (Or.inr (Or.inr (Or.inr rfl)))).mono ?_
  rintro e w3 ⟨rfl, hR, hk⟩
  rw [← Ks.out.2.1] at hR
  rw [← Kn.out.1]
  have KR3 := Aside0.mk hR
  have KZ3 : Aside0 (w3.heap[w.heap.size]? = some (.cells #[.int .u64 0, .int .i64 0, .int .i64 0, .int .u64 0] 45 (0, 0))) := ⟨dec_keep KR2.out hk hbr KZ2.out⟩
  clear hR hk
  go_wp2_with (go_at_call 50; apply Aside0.out)
  refine ⟨?_⟩
  have hz8 := heap_alloc_new w3 (.cells #[.int .u64 (n1 : Int), .int .i64 0, .int .i64 0, .int .u64 0] 45)
  have hb8 := below_alloc (Below.refl w3.heap.size w3) (.cells #[.int .u64 (n1 : Int), .int .i64 0, .int .i64 0, .int .u64 0] 45)
  generalize hW : World.alloc w3 _ = w4 at hz8 hb8 ⊢
  have KD4 : Aside0 (w4.heap[w3.heap.size]? = some (.cells #[.int .u64 (n1 : Int), .int .i64 0, .int .i64 0, .int .u64 0] 45 (0, 0))) := ⟨hz8⟩
  have KR4 := Aside0.mk (KR3.out.keep hb8)
  have KZ4 : Aside0 (w4.heap[w.heap.size]? = some (.cells #[.int .u64 0, .int .i64 0, .int .i64 0, .int .u64 0] 45 (0, 0))) := ⟨blk_below KZ3.out hb8⟩
  have hg3 : g < w3.heap.size := KR3.out.lt
  have h03 : w0.heap.size ≤ w3.heap.size := KR3.out.size
  clear hW hz8 hb8
  refine (rnum_any KR4.out Kl.out (by omega) 4 (Or.inr (Or.inr (Or.inl rfl)))).mono ?_
  rintro e w5 ⟨rfl, hR, hk⟩
  rw [← Ks.out.2.2.1] at hR
  rw [← Kn.out.2.1]
  have KR5 := Aside0.mk hR
  have KD5 := Aside0.mk (hk.blk KD4.out (by omega) (by simp))
  have KZ5 : Aside0 (w5.heap[w.heap.size]? = some (.cells #[.int .u64 0, .int .i64 0, .int .i64 0, .int .u64 0] 45 (0, 0))) := ⟨dec_keep KR4.out hk hbr KZ4.out⟩
  have fz : w5.frozen? ⟨w3.heap.size, 1, none⟩ = false := blk_frozen KD5.out _
  have fc : w5.cell? ⟨w3.heap.size, 1, none⟩ = some (.int .i64 0) := (cell_of_row _ _ _ _ _ _ KD5.out).trans rfl
  clear hR hk
  go_wp2_with (go_at_call 50; apply Aside0.out)
  refine ⟨?_⟩
  clear fz fc
  have KR6 := Aside0.mk (FR_far KR5.out KD5.out (by decide) (by decide) h03 1 (.int .i64 (n2 : Int)))
  have KD6 := Aside0.mk (blk_set KD5.out 1 (.int .i64 (n2 : Int)))
  have KZ6 : Aside0 ((w5.setCell ⟨w3.heap.size, 1, none⟩ (.int .i64 (n2 : Int))).heap[w.heap.size]? = some (.cells #[.int .u64 0, .int .i64 0, .int .i64 0, .int .u64 0] 45 (0, 0))) := ⟨(Below.heap_setCell _ ⟨w3.heap.size, 1, none⟩ _ w.heap.size (by show w.heap.size ≠ w3.heap.size; omega)).trans KZ5.out⟩
  refine (rnum_any KR6.out Kl.out (by omega) 4 (Or.inr (Or.inr (Or.inl rfl)))).mono ?_
  rintro e w7 ⟨rfl, hR, hk⟩
  rw [← Ks.out.2.2.2.1] at hR
  rw [← Kn.out.2.2.1]
  have KR7 := Aside0.mk hR
  have KD7 := Aside0.mk (hk.blk KD6.out (by omega) (by simp))
  have KZ7 : Aside0 (w7.heap[w.heap.size]? = some (.cells #[.int .u64 0, .int .i64 0, .int .i64 0, .int .u64 0] 45 (0, 0))) := ⟨dec_keep KR6.out hk hbr KZ6.out⟩
  have fz : w7.frozen? ⟨w3.heap.size, 2, none⟩ = false := blk_frozen KD7.out _
  have fc : w7.cell? ⟨w3.heap.size, 2, none⟩ = some (.int .i64 0) := (cell_of_row _ _ _ _ _ _ KD7.out).trans rfl
  clear hR hk
  go_wp2_with (go_at_call 50; apply Aside0.out)
  refine ⟨?_⟩
  clear fz fc
  have KR8 := Aside0.mk (FR_far KR7.out KD7.out (by decide) (by decide) h03 2 (.int .i64 (n3 : Int)))
  have KD8 := Aside0.mk (blk_set KD7.out 2 (.int .i64 (n3 : Int)))
  have KZ8 : Aside0 ((w7.setCell ⟨w3.heap.size, 2, none⟩ (.int .i64 (n3 : Int))).heap[w.heap.size]? = some (.cells #[.int .u64 0, .int .i64 0, .int .i64 0, .int .u64 0] 45 (0, 0))) := ⟨(Below.heap_setCell _ ⟨w3.heap.size, 2, none⟩ _ w.heap.size (by show w.heap.size ≠ w3.heap.size; omega)).trans KZ7.out⟩
  refine (rnum_any KR8.out Kl.out (by omega) 8 (Or.inr (Or.inr (Or.inr rfl)))).mono ?_
  rintro e w9 ⟨rfl, hR, hk⟩
  rw [← Ks.out.2.2.2.2.1] at hR
  rw [← Kn.out.2.2.2]
  have KR9 := Aside0.mk hR
  have KD9 := Aside0.mk (hk.blk KD8.out (by omega) (by simp))
  have KZ9 : Aside0 (w9.heap[w.heap.size]? = some (.cells #[.int .u64 0, .int .i64 0, .int .i64 0, .int .u64 0] 45 (0, 0))) := ⟨dec_keep KR8.out hk hbr KZ8.out⟩
  have fz : w9.frozen? ⟨w3.heap.size, 3, none⟩ = false := blk_frozen KD9.out _
  have fc : w9.cell? ⟨w3.heap.size, 3, none⟩ = some (.int .u64 0) := (cell_of_row _ _ _ _ _ _ KD9.out).trans rfl
  clear hR hk
  go_wp2_with (go_at_call 50; apply Aside0.out)
  refine ⟨?_⟩
  clear fz fc
  have KR10 := Aside0.mk (FR_far KR9.out KD9.out (by decide) (by decide) h03 3 (.int .u64 (n4 : Int)))
  have KD10 := Aside0.mk (blk_set KD9.out 3 (.int .u64 (n4 : Int)))
  have KZ10 : Aside0 ((w9.setCell ⟨w3.heap.size, 3, none⟩ (.int .u64 (n4 : Int))).heap[w.heap.size]? = some (.cells #[.int .u64 0, .int .i64 0, .int .i64 0, .int .u64 0] 45 (0, 0))) := ⟨(Below.heap_setCell _ ⟨w3.heap.size, 3, none⟩ _ w.heap.size (by show w.heap.size ≠ w3.heap.size; omega)).trans KZ9.out⟩
  refine (rnum_any KR10.out Kl.out (by omega) 4 (Or.inr (Or.inr (Or.inl rfl)))).mono ?_
  rintro e w11 ⟨rfl, hR, hk⟩
  rw [← Ks.out.2.2.2.2.2] at hR
  have KR11 := Aside0.mk hR
  have KD11 : Aside0 (DB w11 w3.heap.size ⟨n1, n2, n3, n4⟩) := ⟨hk.blk KD10.out (by omega) (by simp)⟩
  have KZ11 : Aside0 (w11.heap[w.heap.size]? = some (.cells #[.int .u64 0, .int .i64 0, .int .i64 0, .int .u64 0] 45 (0, 0))) := ⟨dec_keep KR10.out hk hbr KZ10.out⟩
  clear hR hk
  go_wp2_with (go_at_call 52; apply Aside0.out)
  refine ⟨?_⟩
  refine (err_any KR11.out).mono ?_
  rintro e wb ⟨rfl, q, hq⟩
  have KDb : Aside0 (DB wb w3.heap.size ⟨n1, n2, n3, n4⟩) := ⟨by rw [hq]; exact KD11.out⟩
  have KZb : Aside0 (DB wb w.heap.size zero) := ⟨by rw [hq]; exact KZ11.out⟩
  have KBb : Aside0 (Below w.heap.size w wb) := ⟨below_then KB0.out KB0.out.size (by rw [hq]; exact pw_below_drewN KR11.out.below q)⟩
  clear hq KZ00 KR1 KZ1 KR2 KZ2 KR3 KZ3 KD4 KR4 KZ4 KR5 KD5 KZ5 KR6 KD6 KZ6 KR7 KD7 KZ7 KR8 KD8 KZ8 KR9 KD9 KZ9 KR10 KD10 KZ10 KD11 KZ11 KR11
  by_cases h32 : 32 ≤ l.length
  · obtain ⟨k1, k2, k3, k4, k5, k6⟩ := Ks.out
    obtain ⟨m1, m2, m3, m4⟩ := Kn.out
    rw [next_yes l 4 0 (by omega)] at k1
    subst k1
    rw [tk_yes l 8 4 (by omega)] at m1
    rw [next_yes l 8 4 (by omega)] at k2
    subst k2
    rw [tk_yes l 4 12 (by omega)] at m2
    rw [next_yes l 4 12 (by omega)] at k3
    subst k3
    rw [tk_yes l 4 16 (by omega)] at m3
    rw [next_yes l 4 16 (by omega)] at k4
    subst k4
    rw [tk_yes l 8 20 (by omega)] at m4
    rw [next_yes l 8 20 (by omega)] at k5
    subst k5
    rw [next_yes l 4 28 (by omega)] at k6
    subst k6
    have he : (⟨n1, n2, n3, n4⟩ : Rec) = recD l := by unfold recD; rw [m1, m2, m3, m4]
    rw [he] at KDb
    have hwf := recD_wf Kl.out h32
    have KW := Aside0.mk hwf
    obtain ⟨r, hr⟩ : ∃ r, r = recD l := ⟨_, rfl⟩
    rw [← hr] at KDb KW
    have Kr := Aside0.mk hr
    have H32 := Aside0.mk h32
    have hc32 : 32 ≤ c := by omega
    clear m1 m2 m3 m4 he hwf Ks Kn B2 B3 hr h32
    simp only [RS.e, Bool.false_eq_true, if_false]
    obtain ⟨z0, z1, z2, z3⟩ := box_cells KDb.out
    obtain ⟨y0, y1, y2, y3⟩ := box_cells KZb.out
    by_cases hri : right r
    · have KE := Aside0.mk (encode_ok r hri KW.out wb)
      have KQ : Aside0 (∀ (wc : World) (base : Nat) (AF : Option Addr) (cF : Nat), Below wb.heap.size wb wc → Row.OwnB wc base (.slice AF 32 cF) (bytesB r) → _) := ⟨fun wc base AF cF hb ho => eq32 ho (bytesB_len r) (bytesB_isB r) H32.out hc Kl.out (KC.out wc (below_then KBb.out KBb.out.size hb))⟩
      have Kri := Aside0.mk hri
      clear hri
      go_wp2_with (go_at_call 24; apply Aside0.out)
      refine ⟨?_⟩
      refine KE.out.mono ?_
      rintro e wc ⟨u, rfl, hO, hb⟩
      obtain ⟨A1, c1, rfl, -, -⟩ := hO.slice
      rw [bytesB_len] at hO ⊢
      have KQ2 := Aside0.mk (KQ.out wc _ A1 c1 hb hO)
      have KDc : Aside0 (DB wc w3.heap.size r) := ⟨blk_below KDb.out hb⟩
      have KZc : Aside0 (DB wc w.heap.size zero) := ⟨blk_below KZb.out hb⟩
      have KBc : Aside0 (Below w.heap.size w wc) := ⟨below_then KBb.out KBb.out.size hb⟩
      clear hb hO z0 z1 z2 z3 y0 y1 y2 y3
      by_cases heq : bytesB r = l.take 32
      · have KI : Aside0 (isR l) := ⟨H32.out, by rw [← Kr.out]; exact Kri.out, by rw [← Kr.out]; exact heq⟩
        rw [decide_eq_true heq] at KQ2
        clear heq
        obtain ⟨z0, z1, z2, z3⟩ := box_cells KDc.out
        go_wp2_with (first | (go_at_call 53; refine KQ2.out.mono ?_; rintro e w' ⟨rfl, rfl⟩) | ((with_reducible refine gate_store (t := 45) (p := 2) rfl ?_); apply Aside0.out))
        refine ⟨?_⟩
        refine store_rec rfl (.tmp 2) (.tmp 56) rfl w.heap.size #[] _ _ rfl rfl KZc.out rfl rfl (by simp [Value.oneCell']) ?_
        intro wd hg hB
        have KBd := Aside0.mk (hB _ _ (Nat.le_refl _) KBc.out)
        have KWe := Aside0.mk hg
        clear hg hB
        go_wp2
        refine bodyPost_ret (results_list (rs := [.cell 2 45, .tmp 3]) rfl (by simp) (.cell w.heap.size 45 _ _ _ rfl KWe.out Try.underlying45 rfl szRec (.tmp .nil))) rfl ?_
        rw [← Kr.out]
        exact ⟨KBd.out, Or.inl ⟨KI.out, rfl⟩⟩
      · have KI : Aside0 (¬ isR l) := ⟨fun h => heq (by rw [Kr.out]; exact h.2.2)⟩
        rw [decide_eq_false heq] at KQ2
        clear heq
        go_wp2_with (first | (go_at_call 53; refine KQ2.out.mono ?_; rintro e w' ⟨rfl, rfl⟩) | ((with_reducible refine gate_store (t := 45) (p := 2) rfl ?_); apply Aside0.out))
        refine ⟨?_⟩
        refine store_rec rfl (.tmp 2) (.tmp 55) rfl w.heap.size #[] _ _ rfl rfl KZc.out rfl rfl (by simp [Value.oneCell']) ?_
        intro wd hg hB
        have KBd := Aside0.mk (hB _ _ (Nat.le_refl _) KBc.out)
        have KWe := Aside0.mk hg
        clear hg hB
        go_wp2
        refine bodyPost_ret (results_list (rs := [.cell 2 45, .tmp 3]) rfl (by simp) (.cell w.heap.size 45 _ _ _ rfl KWe.out Try.underlying45 rfl szRec (.tmp .nil))) rfl ?_
        exact ⟨KBd.out, Or.inr ⟨KI.out, rfl⟩⟩
    · have KE := Aside0.mk (encode_no r hri wb)
      have KI : Aside0 (¬ isR l) := ⟨fun h => hri (by rw [Kr.out]; exact h.2.1)⟩
      clear hri
      go_wp2_with (go_at_call 24; apply Aside0.out)
      refine ⟨?_⟩
      refine KE.out.mono ?_
      rintro e wc ⟨rfl, hb⟩
      have KZc : Aside0 (DB wc w.heap.size zero) := ⟨blk_below KZb.out hb⟩
      have KBc : Aside0 (Below w.heap.size w wc) := ⟨below_then KBb.out KBb.out.size hb⟩
      clear hb z0 z1 z2 z3 y0 y1 y2 y3
      go_wp2_with ((with_reducible refine gate_store (t := 45) (p := 2) rfl ?_); apply Aside0.out)
      refine ⟨?_⟩
      refine store_rec rfl (.tmp 2) (.tmp 55) rfl w.heap.size #[] _ _ rfl rfl KZc.out rfl rfl (by simp [Value.oneCell']) ?_
      intro wd hg hB
      have KBd := Aside0.mk (hB _ _ (Nat.le_refl _) KBc.out)
      have KWe := Aside0.mk hg
      clear hg hB
      go_wp2
      refine bodyPost_ret (results_list (rs := [.cell 2 45, .tmp 3]) rfl (by simp) (.cell w.heap.size 45 _ _ _ rfl KWe.out Try.underlying45 rfl szRec (.tmp .nil))) rfl ?_
      exact ⟨KBd.out, Or.inr ⟨KI.out, rfl⟩⟩
  · have hbad : s6.bad = true := st_short Ks.out.1 Ks.out.2.1 Ks.out.2.2.1 Ks.out.2.2.2.1 Ks.out.2.2.2.2.1 Ks.out.2.2.2.2.2 (by omega)
    have KI : Aside0 (¬ isR l) := ⟨fun h => h32 h.1⟩
    clear h32 Ks Kn B2 B3
    simp only [RS.e, hbad, if_true]
    go_wp2_with ((with_reducible refine gate_store (t := 45) (p := 2) rfl ?_); apply Aside0.out)
    refine ⟨?_⟩
    refine store_rec rfl (.tmp 2) (.tmp 40) rfl w.heap.size #[] _ _ rfl rfl KZb.out rfl rfl (by simp [Value.oneCell']) ?_
    intro wd hg hB
    have KBd := Aside0.mk (hB _ _ (Nat.le_refl _) KBb.out)
    have KWe := Aside0.mk hg
    clear hg hB
    go_wp2
    refine bodyPost_ret (results_list (rs := [.cell 2 45, .tmp 3]) rfl (by simp) (.cell w.heap.size 45 _ _ _ rfl KWe.out Try.underlying45 rfl szRec (.tmp .nil))) rfl ?_
    exact ⟨KBd.out, Or.inr ⟨KI.out, rfl⟩⟩
end Go.Proofs.Ytgplpcjlemjabaa.Bo
