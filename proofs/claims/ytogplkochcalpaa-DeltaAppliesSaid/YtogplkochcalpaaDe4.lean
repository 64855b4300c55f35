/- Deltas as bytes: the program's Encode: walks. -/
import Derived.Test.YtogplkochcalpaaDe3
set_option linter.unusedVariables false
set_option linter.unusedSimpArgs false
namespace Go.Proofs.Ytogplkochcalpaa.De
open Go.RowKit Go.Proofs.Ytogplkochcalpaa.PD Go.Proofs.Ytogplkochcalpaa.Fd Go.Proofs.Ytogplkochcalpaa.Bg Go.Proofs.YtogplkochcalpaaW.PrintWords Go.Proofs.YtogplkochcalpaaW.PrintLast Go.Proofs.YtogplkochcalpaaW.PrintMore
/-- The delta's box stands. -/
def DB (w : World) (d : Dl) (A : Option Addr) (c : Nat) (wr : World) : Prop := wr.heap[w.heap.size]? = some (.cells #[.int .i64 d.a, .int .i64 d.b, .int .u64 d.c, .int .u64 d.d, .slice A d.l.length c] 27 (0, 0)) ∧ Below w.heap.size w wr
theorem dbox_cells {w : World} {g n : Nat} {d : Dl} {A : Option Addr} {c : Nat} (h : w.heap[g]? = some (.cells #[.int .i64 d.a, .int .i64 d.b, .int .u64 d.c, .int .u64 d.d, .slice A n c] 27 (0, 0))) : w.cell? ⟨g, 0, none⟩ = some (.int .i64 d.a) ∧ w.cell? ⟨g, 1, none⟩ = some (.int .i64 d.b) ∧ w.cell? ⟨g, 2, none⟩ = some (.int .u64 d.c) ∧ w.cell? ⟨g, 3, none⟩ = some (.int .u64 d.d) ∧ w.cell? ⟨g, 4, none⟩ = some (.slice A n c) :=
  ⟨(cell_of_row _ _ _ _ _ _ h).trans rfl, (cell_of_row _ _ _ _ _ _ h).trans rfl, (cell_of_row _ _ _ _ _ _ h).trans rfl, (cell_of_row _ _ _ _ _ _ h).trans rfl, (cell_of_row _ _ _ _ _ _ h).trans rfl⟩
theorem DB.new (w : World) (d : Dl) (A : Option Addr) (c : Nat) : DB w d A c (w.alloc (.cells #[.int .i64 d.a, .int .i64 d.b, .int .u64 d.c, .int .u64 d.d, .slice A d.l.length c] 27)) := ⟨heap_alloc_new _ _, below_alloc (Below.refl _ _) _⟩
theorem DB.then_ {w wr w1 : World} {d : Dl} {A : Option Addr} {c : Nat} (h : DB w d A c wr) (h1 : Below wr.heap.size wr w1) : DB w d A c w1 := ⟨blk_below h.1 h1, below_then h.2 h.2.size h1⟩
theorem DB.of {w w0 w1 : World} {d : Dl} {A : Option Addr} {c g : Nat} {most : Int} {v : Value} {xs : List Int} (h : DB w d A c w0) (hF : FW w0 w0.heap.size g most w1 v xs) : DB w d A c w1 := ⟨(hF.below.block _ (blk_lt h.1)).trans h.1, below_then h.2 h.2.size hF.below⟩
theorem encode_no (d : Dl) (A : Option Addr) (c : Nat) (w : World) (hC : Kd.C k37 w A d.l.length d.l) (hc : d.l.length ≤ c) (hw : ∀ o ∈ d.l, WfO o) (hl : d.l.length ≤ 8388608) (hr : ¬ rightD d = true) : Calls Try.prog 23 #[dv d A c] w fun e w' => e = .returned (.tuple #[.slice none 0 0, .int .i64 1]) ∧ Below w.heap.size w w' := by
  have KB0 := Aside0.mk (DB.new w d A c)
  have KC := Aside0.mk (fun w1 (h : Below w.heap.size w w1) => check_any d A c w1 (Kd.C_below hC h) hc hw hl)
  simp only [if_neg hr] at KC
  obtain ⟨n, hn⟩ : ∃ n, n = d.l.length := ⟨_, rfl⟩
  simp only [dv, DB] at KC KB0 ⊢
  rw [← hn] at KC KB0 ⊢
  clear hr hC hc hw hl hn
  go_enter Try.func23, Try.ntmps23
  go_wp2_with (go_at_call 19; refine (KC.out _ KB0.out.2).mono ?_; rintro e w1 ⟨rfl, hb⟩; have KB1 := Aside0.mk (below_then KB0.out.2 KB0.out.2.size hb); clear hb)
  go_ret2
  exact ⟨rfl, KB1.out⟩
/-- An op's box. -/
def OB (g : Nat) (o : S37) (B : Option Addr) (cb : Nat) (w : World) : Prop := w.heap[g]? = some (.cells #[.int .i64 o.f0, .int .i64 o.f1, .slice B o.f2.length cb] 37 (0, 0))
theorem OB.cells {w : World} {g : Nat} {o : S37} {B : Option Addr} {cb : Nat} (h : OB g o B cb w) : w.cell? ⟨g, 0, none⟩ = some (.int .i64 o.f0) ∧ w.cell? ⟨g, 1, none⟩ = some (.int .i64 o.f1) ∧ w.cell? ⟨g, 2, none⟩ = some (.slice B o.f2.length cb) :=
  ⟨(cell_of_row _ _ _ _ _ _ h).trans rfl, (cell_of_row _ _ _ _ _ _ h).trans rfl, (cell_of_row _ _ _ _ _ _ h).trans rfl⟩
theorem OB.keep {w0 w w1 : World} {gb base g : Nat} {o : S37} {B : Option Addr} {cb : Nat} {most : Int} {v : Value} {xs : List Int} (h : OB gb o B cb w) (hF : FW w0 base g most w v xs) (hk : KeepBut w w1 g v.ownBlock) (hne : gb ≠ g) : OB gb o B cb w1 := hk.blk h hne (Kd.R_ne hF.own h (by decide))
theorem lt_pow4 {n : Int} (h : n ≤ 8388608) : n < 2 ^ (8 * 4) := lt32 (by omega)
theorem lt_pow8 {n : Int} (h : n < 18446744073709551616) : n < 2 ^ (8 * 8) := h
theorem right_mem {a : Int} : ∀ {l : List S37} {x : Int} {o : S37}, rightL a x l = true → o ∈ l → rightO o a ∧ ol o ≤ x
  | p :: r, x, o, h, ho => by
    obtain ⟨h1, h2, h3⟩ := rightL_cons h
    rcases List.mem_cons.1 ho with rfl | ho
    · exact ⟨h1, h2⟩
    · have := right_mem h3 ho
      have := ol_pos h1
      exact ⟨(right_mem h3 ho).1, by omega⟩
theorem op_bounds {d : Dl} {o : S37} (h : rightD d = true) (ho : o ∈ d.l) : 0 ≤ o.f0 ∧ o.f0 ≤ 8388608 ∧ 0 ≤ o.f1 ∧ o.f1 ≤ 8388608 ∧ (o.f2.length : Int) ≤ 8388608 := by
  obtain ⟨r1, r2, r3, r4, r5, r6⟩ := right_parts h
  obtain ⟨h1, h2⟩ := right_mem r6 ho
  unfold ol at h2
  unfold rightO at h1
  split at h1 <;> omega
set_option maxHeartbeats 8000000 in
set_option maxRecDepth 100000 in
theorem encode_ok (d : Dl) (A : Option Addr) (c : Nat) (w : World) (hC : Kd.C k37 w A d.l.length d.l) (hc : d.l.length ≤ c) (hw : WfD d) (hl : d.l.length ≤ 8388608) (hr : rightD d = true) (hs : (bytesB d).length ≤ 100000000) : Calls Try.prog 23 #[dv d A c] w fun e w' => ∃ u, e = .returned (.tuple #[u, .int .i64 0]) ∧ Row.OwnB w' w.heap.size u (bytesB d) ∧ Below w.heap.size w w' := by
  have KB0 := Aside0.mk (DB.new w d A c)
  have KC := Aside0.mk (fun w1 (h : Below w.heap.size w w1) => check_any d A c w1 (Kd.C_below hC h) hc hw.ops hl)
  have KS := Aside0.mk (fun w1 (h : Below w.heap.size w w1) => size_any d A c w1 (Kd.C_below hC h) hc hw.ops hl hs)
  simp only [if_pos hr] at KC KS
  obtain ⟨r1, r2, r3, r4, r5, r6⟩ := right_parts hr
  have K0 : Aside0 (0 ≤ d.a ∧ d.a < 2 ^ (8 * 4)) := ⟨r1, lt_pow4 r2⟩
  have K1 : Aside0 (0 ≤ d.b ∧ d.b < 2 ^ (8 * 4)) := ⟨r3, lt_pow4 r4⟩
  have K2 : Aside0 (0 ≤ d.c ∧ d.c < 2 ^ (8 * 8)) := ⟨hw.c0, lt_pow8 hw.c1⟩
  have K3 : Aside0 (0 ≤ d.d ∧ d.d < 2 ^ (8 * 8)) := ⟨hw.d0, lt_pow8 hw.d1⟩
  have c1 : IntKind.u64.wrap d.a = d.a := u64_small _ r1 (by omega)
  have c2 : IntKind.u64.wrap d.b = d.b := u64_small _ r3 (by omega)
  have kc := fun (w : World) (C : Array Value) (n c : Nat) => Lib.run_convert_bytes_const (P := Try.prog) w 22 5 C n c Try.underlying22 Try.underlying5
  have KM := Aside0.mk hC
  have Kr := Aside0.mk hr
  have Kw := Aside0.mk hw
  obtain ⟨most, hmost⟩ : ∃ most, most = (bytesB d).length := ⟨_, rfl⟩
  rw [← hmost] at KS
  have hm1 : (most : Int) ≤ 100000000 := by omega
  have Km : Aside0 (most = 32 + (opsB d.l).length) := ⟨by rw [hmost, bytesB_len]⟩
  have hm32 : 32 ≤ (most : Int) := by rw [hmost, bytesB_len]; omega
  obtain ⟨n, hn⟩ : ∃ n, n = d.l.length := ⟨_, rfl⟩
  simp only [dv, DB] at KC KB0 KS ⊢
  rw [← hn] at KC KB0 KS KM hl ⊢
  have Kn := Aside0.mk hn
  clear hC hc hw hr hs r1 r2 r3 r4 r5 r6 hn hmost
  go_enter Try.func23, Try.ntmps23
  go_wp2_with (go_at_call 19; apply Aside0.out)
  refine ⟨?_⟩
  refine (KC.out _ KB0.out.2).mono ?_
  rintro e w1 ⟨rfl, hb⟩
  have KB1 := Aside0.mk (And.intro (blk_below KB0.out.1 hb) (below_then KB0.out.2 KB0.out.2.size hb))
  clear hb KC
  obtain ⟨q0, q1, q2, q3, q4⟩ := dbox_cells KB1.out.1
  go_wp2_with (go_at_call 24; apply Aside0.out)
  refine ⟨?_⟩
  refine (KS.out _ KB1.out.2).mono ?_
  rintro e w2 ⟨rfl, hb⟩
  have KB2 : Aside0 (DB w d A c w2) := ⟨by unfold DB; rw [← Kn.out]; exact ⟨blk_below KB1.out.1 hb, below_then KB1.out.2 KB1.out.2.size hb⟩⟩
  clear hb KS q0 q1 q2 q3 q4 KB0 KB1
  go_wp2_with (go_at_call 39; apply Aside0.out)
  refine ⟨?_⟩
  refine (writer_new most (by omega) w2).mono ?_
  rintro e w3 ⟨rfl, hF⟩
  have KF3 := Aside0.mk hF
  clear hF
  go_wp2_with (go_at_call 40; apply Aside0.out)
  refine ⟨?_⟩
  refine (bytes_ok (KF3.out.keep (below_alloc (Below.refl _ _) _)) [80, 77, 68, 49] _ 4 (lit_foot KF3.out) (by simp; omega) (by omega)).mono ?_
  rintro e w4 ⟨rfl, v4, hF, -⟩
  have KF4 := Aside0.mk hF
  clear hF
  have hd4 := (DB.of KB2.out KF4.out).1
  rw [← Kn.out] at hd4
  obtain ⟨q0, q1, q2, q3, q4⟩ := dbox_cells hd4
  clear hd4
  go_wp2_with (go_at_call 41; apply Aside0.out)
  refine ⟨?_⟩
  refine (num_okI KF4.out d.a 4 K0.out.1 (Or.inr (Or.inr (Or.inl rfl))) K0.out.2 (by simp; omega) (by omega)).mono ?_
  rintro e w5 ⟨rfl, v5, hF, -⟩
  have KF5 := Aside0.mk hF
  clear hF q0 q1 q2 q3 q4
  have hd4 := (DB.of KB2.out KF5.out).1
  rw [← Kn.out] at hd4
  obtain ⟨q0, q1, q2, q3, q4⟩ := dbox_cells hd4
  clear hd4
  go_wp2_with (go_at_call 41; apply Aside0.out)
  refine ⟨?_⟩
  refine (num_okI KF5.out d.b 4 K1.out.1 (Or.inr (Or.inr (Or.inl rfl))) K1.out.2 (by simp [le_length]; omega) (by omega)).mono ?_
  rintro e w6 ⟨rfl, v6, hF, -⟩
  have KF6 := Aside0.mk hF
  clear hF q0 q1 q2 q3 q4
  have hd4 := (DB.of KB2.out KF6.out).1
  rw [← Kn.out] at hd4
  obtain ⟨q0, q1, q2, q3, q4⟩ := dbox_cells hd4
  clear hd4
  go_wp2_with (go_at_call 41; apply Aside0.out)
  refine ⟨?_⟩
  refine (num_okI KF6.out d.c 8 K2.out.1 (Or.inr (Or.inr (Or.inr rfl))) K2.out.2 (by simp [le_length]; omega) (by omega)).mono ?_
  rintro e w7 ⟨rfl, v7, hF, -⟩
  have KF7 := Aside0.mk hF
  clear hF q0 q1 q2 q3 q4
  have hd4 := (DB.of KB2.out KF7.out).1
  rw [← Kn.out] at hd4
  obtain ⟨q0, q1, q2, q3, q4⟩ := dbox_cells hd4
  clear hd4
  go_wp2_with (go_at_call 41; apply Aside0.out)
  refine ⟨?_⟩
  refine (num_okI KF7.out d.d 8 K3.out.1 (Or.inr (Or.inr (Or.inr rfl))) K3.out.2 (by simp [le_length]; omega) (by omega)).mono ?_
  rintro e w8 ⟨rfl, v8, hF, -⟩
  have KF8 : Aside0 (FW w2 w2.heap.size w2.heap.size most w8 v8 (headB d)) := ⟨hF⟩
  clear hF q0 q1 q2 q3 q4 c1 c2 kc
  have hd4 := (DB.of KB2.out KF8.out).1
  rw [← Kn.out] at hd4
  obtain ⟨q0, q1, q2, q3, q4⟩ := dbox_cells hd4
  clear hd4 K0 K1 K2 K3 KF3 KF4 KF5 KF6 KF7
  obtain ⟨g, hg⟩ : ∃ g, g = w2.heap.size := ⟨_, rfl⟩
  have Kg := Aside0.mk hg
  rw [← hg] at KF8 ⊢
  clear hg
  go_wp2
  go_loopw [43] (fun i wr => ∃ k : Nat, k ≤ n ∧ i = .int .i64 k ∧ Aside0 (∃ v, FW w2 g g most wr v (headB d ++ opsB (d.l.take k)))) (fun i _ => n - (intOf i).toNat)
  case atStart => exact ⟨0, Nat.zero_le _, rfl, ⟨⟨v8, by simpa [opsB] using KF8.out⟩⟩⟩
  case round =>
    obtain ⟨k, hk, rfl, KF⟩ := hrel
    clear q0 q1 q2 q3 q4
    by_cases hlt : k < n
    · obtain ⟨v9, hF9⟩ := KF.out
      have hkl : k < d.l.length := by rw [← Kn.out]; exact hlt
      obtain ⟨o, e1, e2, e3⟩ := rd_drop (l := d.l) (i := k) hkl
      obtain ⟨ad, B, cb, rfl, x0, x1, x2, hcb, hCB⟩ := at_T37 KM.out (k : Int) (by omega) (by omega)
      rw [e1] at x0 x1 x2 hcb hCB
      rw [Int.toNat_natCast] at x0 x1 x2
      have hwr : Below w.heap.size w wr := (DB.of KB2.out (Kg.out ▸ hF9)).2
      replace x0 := pw_cell_below hwr x0
      replace x1 := pw_cell_below hwr x1
      replace x2 := pw_cell_below hwr x2
      have Kst := Aside0.mk (ops_step e2)
      have Kob := Aside0.mk (op_bounds Kr.out e3)
      have KF9 := Aside0.mk hF9
      have Kwr := Aside0.mk hwr
      have Kdat : Aside0 (Kd.C (Kd.int .u8) w B o.f2.length o.f2) := ⟨hCB⟩
      have Kgl : Aside0 (g < wr.heap.size) := ⟨hF9.lt⟩
      have KOB : Aside0 (OB wr.heap.size o B cb (wr.alloc (.cells #[.int .i64 o.f0, .int .i64 o.f1, .slice B o.f2.length cb] 37))) := ⟨heap_alloc_new wr _⟩
      have KF10 := Aside0.mk (hF9.keep (below_alloc (Below.refl _ _) (.cells #[.int .i64 o.f0, .int .i64 o.f1, .slice B o.f2.length cb] 37)))
      obtain ⟨T, hT⟩ : ∃ T, T = (opsB (d.l.take k)).length := ⟨_, rfl⟩
      obtain ⟨R, hR⟩ : ∃ R, R = (opsB (d.l.drop (k + 1))).length := ⟨_, rfl⟩
      have hsum : Aside0 (T + (opB o).length + R + 32 = most) := ⟨by have := Kst.out.2; have := Km.out; omega⟩
      have KT := Aside0.mk hT
      have Knb : Aside0 (wr.heap.size ≠ g) := ⟨by have := Kgl.out; omega⟩
      have Kc1 : Aside0 (IntKind.u64.wrap o.f0 = o.f0) := ⟨u64_small _ Kob.out.1 (by have := Kob.out; omega)⟩
      have Kc2 : Aside0 (IntKind.u64.wrap o.f1 = o.f1) := ⟨u64_small _ Kob.out.2.2.1 (by have := Kob.out; omega)⟩
      have Kc3 : Aside0 (IntKind.u64.wrap (o.f2.length : Int) = o.f2.length) := ⟨u64_small _ (by omega) (by have := Kob.out; omega)⟩
      clear hT hR hF9 e1 e2 e3 hCB hwr hcb hkl
      by_cases c : o.f1 > 0
      · have Kop : Aside0 (opB o = le 0 1 ++ le o.f0.toNat 4 ++ le o.f1.toNat 4) := ⟨if_pos c⟩
        have Kol : Aside0 (T + 9 + R + 32 = most) := ⟨by have := hsum.out; rwa [opB_len, if_pos c] at this⟩
        go_wp2_with (go_at_call 41; apply Aside0.out)
        refine ⟨?_⟩
        refine (num_okI KF10.out 0 1 (by decide) (Or.inl rfl) (by decide) (by have := Kol.out; have := KT.out; rw [List.length_append, headB_len]; omega) (by omega)).mono ?_
        rintro e w11 ⟨rfl, v11, hF, hk⟩
        have KF11 := Aside0.mk hF
        have KO11 := Aside0.mk (KOB.out.keep KF10.out hk Knb.out)
        clear hF hk x0 x1 x2
        obtain ⟨y0, y1, y2⟩ := KO11.out.cells
        have hc1 := Kc1.out
        go_wp2_with (go_at_call 41; apply Aside0.out)
        refine ⟨?_⟩
        refine (num_okI KF11.out o.f0 4 Kob.out.1 (Or.inr (Or.inr (Or.inl rfl))) (lt_pow4 Kob.out.2.1) (by have := Kol.out; have := KT.out; rw [List.length_append, List.length_append, headB_len, le_length]; omega) (by omega)).mono ?_
        rintro e w12 ⟨rfl, v12, hF, hk⟩
        have KF12 := Aside0.mk hF
        have KO12 := Aside0.mk (KO11.out.keep KF11.out hk Knb.out)
        clear hF hk y0 y1 y2 hc1
        obtain ⟨y0, y1, y2⟩ := KO12.out.cells
        have hc1 := Kc2.out
        go_wp2_with (go_at_call 41; apply Aside0.out)
        refine ⟨?_⟩
        refine (num_okI KF12.out o.f1 4 Kob.out.2.2.1 (Or.inr (Or.inr (Or.inl rfl))) (lt_pow4 Kob.out.2.2.2.1) (by have := Kol.out; have := KT.out; simp only [List.length_append, headB_len, le_length]; omega) (by omega)).mono ?_
        rintro e w13 ⟨rfl, v13, hF, hk⟩
        have KF13 := Aside0.mk hF
        clear hF hk y0 y1 y2 hc1
        go_wp2
        refine ⟨⟨k + 1, by omega, by go_num, ⟨⟨v13, ?_⟩⟩⟩, by simp [intOf]; omega⟩
        have := KF13.out
        rw [Kst.out.1, Kop.out]
        simpa [List.append_assoc] using this
      · have Kop : Aside0 (opB o = le 1 1 ++ le o.f2.length 4 ++ o.f2) := ⟨if_neg c⟩
        have Kol : Aside0 (T + (5 + o.f2.length) + R + 32 = most) := ⟨by have := hsum.out; rwa [opB_len, if_neg c] at this⟩
        go_wp2_with (go_at_call 41; apply Aside0.out)
        refine ⟨?_⟩
        refine (num_okI KF10.out 1 1 (by decide) (Or.inl rfl) (by decide) (by have := Kol.out; have := KT.out; rw [List.length_append, headB_len]; omega) (by omega)).mono ?_
        rintro e w11 ⟨rfl, v11, hF, hk⟩
        have KF11 := Aside0.mk hF
        have KO11 := Aside0.mk (KOB.out.keep KF10.out hk Knb.out)
        clear hF hk x0 x1 x2
        obtain ⟨y0, y1, y2⟩ := KO11.out.cells
        have hc1 := Kc3.out
        go_wp2_with (go_at_call 41; apply Aside0.out)
        refine ⟨?_⟩
        refine (num_okI KF11.out (o.f2.length : Int) 4 (by omega) (Or.inr (Or.inr (Or.inl rfl))) (lt_pow4 Kob.out.2.2.2.2) (by have := Kol.out; have := KT.out; simp only [List.length_append, headB_len, le_length]; omega) (by omega)).mono ?_
        rintro e w12 ⟨rfl, v12, hF, hk⟩
        have KF12 := Aside0.mk hF
        have KO12 := Aside0.mk (KO11.out.keep KF11.out hk Knb.out)
        clear hF hk y0 y1 y2 hc1
        obtain ⟨y0, y1, y2⟩ := KO12.out.cells
        go_wp2_with (go_at_call 40; apply Aside0.out)
        refine ⟨?_⟩
        have hb12 : Below w.heap.size w w12 := (DB.of KB2.out (Kg.out ▸ KF12.out)).2
        have hgw : w.heap.size ≤ g := by rw [Kg.out]; exact KB2.out.2.size
        refine (bytes_ok KF12.out o.f2 B cb (Kd.C_foot_came (Kd.heap_int _) Kdat.out hb12 hgw) (by have := Kol.out; have := KT.out; simp only [List.length_append, headB_len, le_length]; omega) (by omega)).mono ?_
        rintro e w13 ⟨rfl, v13, hF, hk⟩
        have KF13 := Aside0.mk hF
        clear hF hk y0 y1 y2
        go_wp2
        refine ⟨⟨k + 1, by omega, by go_num, ⟨⟨v13, ?_⟩⟩⟩, by simp [intOf]; omega⟩
        have := KF13.out
        rw [Kst.out.1, Kop.out]
        simpa [List.append_assoc] using this
    · obtain rfl : k = n := by omega
      obtain ⟨v9, hF9⟩ := KF.out
      have KF9 : Aside0 (FW w2 g g most wr v9 (bodyB d)) := ⟨by rw [Kn.out, List.take_length] at hF9; exact hF9⟩
      clear hF9 KF
      have Klen : Aside0 ((bodyB d).length + 4 = most) := ⟨by have := Km.out; rw [bodyB_len]; omega⟩
      have KD := Aside0.mk (done_ok KF9.out (by have := Klen.out; omega))
      have KCr : Aside0 (∀ (wa : World) (A : Option Addr) (c : Nat), Kd.C (Kd.int .u8) wa A (bodyB d).length (bodyB d) → _) := ⟨fun wa A c hC => Sum.crc_nil A c (bodyB d) wa hC (by have := Klen.out; omega) (bodyB_isB Kw.out)⟩
      obtain ⟨x, hx⟩ : ∃ x, x = Sum.crc 0 (bodyB d) := ⟨_, rfl⟩
      have hxb : Aside0 (x < 4294967296) := ⟨by rw [hx]; exact crc_lt _⟩
      have hby : Aside0 (bodyB d ++ le x 4 = bytesB d) := ⟨by rw [hx]; rfl⟩
      rw [← hx] at KCr
      clear hx
      obtain ⟨nb, hnb⟩ : ∃ nb, nb = (bodyB d).length := ⟨_, rfl⟩
      rw [← hnb] at KCr
      have Knb := Aside0.mk hnb
      clear hnb
      go_wp2_with (go_at_call 42; apply Aside0.out)
      refine ⟨?_⟩
      refine KD.out.mono ?_
      rintro e w9 ⟨u9, rfl, hO, hB⟩
      obtain ⟨A9, c9, rfl, hc9, hC9⟩ := hO.slice
      have KF10 := Aside0.mk (KF9.out.keep hB)
      rw [← Knb.out] at hC9 hO
      rw [← Knb.out]
      have KC9 := Aside0.mk hC9
      clear hO hB hC9 hc9
      go_wp2_with (first | (go_at_call 43; refine (KCr.out _ _ _ KC9.out).mono ?_; rintro e w' ⟨rfl, rfl⟩) | (go_at_call 41; apply Aside0.out))
      refine ⟨?_⟩
      rw [u64_small (x : Int) (by omega) (by have := hxb.out; omega)]
      refine (num_ok KF10.out x 4 (Or.inr (Or.inr (Or.inl rfl))) (lt32n hxb.out) (by have := Klen.out; omega) (by omega)).mono ?_
      rintro e w10 ⟨rfl, v10, hF, -⟩
      rw [hby.out] at hF
      have KF11 := Aside0.mk hF
      have KD2 := Aside0.mk (done_ok KF11.out (by have := Klen.out; rw [← hby.out, List.length_append, le_length]; omega))
      clear hF
      go_wp2_with (go_at_call 42; apply Aside0.out)
      refine ⟨?_⟩
      refine KD2.out.mono ?_
      rintro e w11 ⟨u11, rfl, hO, hB⟩
      have hd := DB.of KB2.out (Kg.out ▸ KF11.out)
      have KO := Aside0.mk (hO.lower hd.2.size)
      have KB := Aside0.mk (below_then hd.2 hd.2.size hB)
      obtain ⟨A11, c11, rfl, -, -⟩ := hO.slice
      clear hO hB hd
      go_wp2
      go_ret2
      exact ⟨_, rfl, KO.out, KB.out⟩
end Go.Proofs.Ytogplkochcalpaa.De
