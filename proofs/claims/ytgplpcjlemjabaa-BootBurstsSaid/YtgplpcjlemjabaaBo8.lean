/- Boot records: the document's Choose; an argument that is a record: walks. -/
import Derived.Test.YtgplpcjlemjabaaBo7
set_option linter.unusedVariables false
set_option linter.unusedSimpArgs false
namespace Go.Proofs.Ytgplpcjlemjabaa.Bo
open Go.RowKit Go.Proofs.Ytgplpcjlemjabaa.Fd Go.Proofs.Ytgplpcjlemjabaa.Bg Go.Proofs.YtgplpcjlemjabaaW.PrintWords Go.Proofs.YtgplpcjlemjabaaW.PrintLast Go.Proofs.YtgplpcjlemjabaaW.PrintMore
theorem isB_of {l : List Int} (g : ∀ v ∈ l, (fun n : Int => (Lit.int .u8 n).wf = true) v) : ∀ x ∈ l, 0 ≤ x ∧ x < 256 := fun x hx => by
  have := g x hx
  have e1 : IntKind.u8.min = 0 := by decide
  have e2 : IntKind.u8.max = 255 := by decide
  simp only [Lit.wf, e1, e2, Bool.and_eq_true, decide_eq_true_eq] at this
  omega
/-- An argument that is a record. -/
theorem rec_of {w : World} {cs0 : Array Value} {x0 : Int × Int × Int × Int} (r0 : ∃ c00 c01, cs0.toList = c00 ++ c01 ∧ ((Kd.int .u64).K w x0.1 c00 ∧ (fun n : Int => (Lit.int .u64 n).wf = true) x0.1) ∧ (∃ c10 c11, c01 = c10 ++ c11 ∧ ((Kd.int .i64).K w x0.2.1 c10 ∧ (fun n : Int => (Lit.int .i64 n).wf = true) x0.2.1) ∧ (∃ c20 c21, c11 = c20 ++ c21 ∧ ((Kd.int .i64).K w x0.2.2.1 c20 ∧ (fun n : Int => (Lit.int .i64 n).wf = true) x0.2.2.1) ∧ ((Kd.int .u64).K w x0.2.2.2 c21 ∧ (fun n : Int => (Lit.int .u64 n).wf = true) x0.2.2.2)))) :
    ∃ r : Rec, cs0 = #[.int .u64 r.seq, .int .i64 r.slot, .int .i64 r.len, .int .u64 r.sum] ∧ Wf r := by
  obtain ⟨c00, c01, h, ⟨h1, f1⟩, c10, c11, h2, ⟨h3, -⟩, c20, c21, h4, ⟨h5, -⟩, h6, f6⟩ := r0
  have e0 : c00 = [Value.int .u64 x0.1] := h1
  have e1 : c10 = [Value.int .i64 x0.2.1] := h3
  have e2 : c20 = [Value.int .i64 x0.2.2.1] := h5
  have e3 : c21 = [Value.int .u64 x0.2.2.2] := h6
  have b1 := Go.bounds_u64 f1
  have b6 := Go.bounds_u64 f6
  refine ⟨⟨x0.1, x0.2.1, x0.2.2.1, x0.2.2.2⟩, Array.toList_inj.1 ?_, ⟨by show (0 : Int) ≤ x0.1; omega, by show (0 : Int) ≤ x0.2.2.2; omega, by show x0.2.2.2 < 18446744073709551616; omega⟩⟩
  rw [h, h2, h4, e0, e1, e2, e3]
  rfl
theorem eq_self (r : Rec) (w : World) : (binOp .eql 45 (.agg #[.int .u64 r.seq, .int .i64 r.slot, .int .i64 r.len, .int .u64 r.sum]) (.agg #[.int .u64 r.seq, .int .i64 r.slot, .int .i64 r.len, .int .u64 r.sum])).run Try.prog w = .ok (.bool true) w := by
  have hu := Try.underlying45
  go_simp
theorem neq_self (r : Rec) (w : World) : (binOp .neq 45 (.agg #[.int .u64 r.seq, .int .i64 r.slot, .int .i64 r.len, .int .u64 r.sum]) (.agg #[.int .u64 r.seq, .int .i64 r.slot, .int .i64 r.len, .int .u64 r.sum])).run Try.prog w = .ok (.bool false) w := by
  have hu := Try.underlying45
  go_simp
/-- What a call of the document's Decode leaves. -/
def RecK (w : World) (A : Option Addr) (n c : Nat) (p : Rec × Int) : Prop := ∀ w1, Below w.heap.size w w1 → Calls Try.prog 29 #[.slice A n c] w1 fun e w' => Below w1.heap.size w1 w' ∧ e = .returned (.tuple #[.agg #[.int .u64 p.1.seq, .int .i64 p.1.slot, .int .i64 p.1.len, .int .u64 p.1.sum], .int .i64 p.2])
theorem recK (w : World) (l : List Int) (A : Option Addr) (c : Nat) (hC : Kd.C (Kd.int .u8) w A l.length l) (hl : ∀ x ∈ l, 0 ≤ x ∧ x < 256) (hm : l.length ≤ 1000000) (hc : l.length ≤ c) : RecK w A l.length c (dec l) := fun w1 hb => rdecode_any w1 l A c (Kd.C_below hC hb) hl hm hc
theorem RecK.below {w w1 : World} {A : Option Addr} {n c : Nat} {p : Rec × Int} (h : RecK w A n c p) (hb : Below w.heap.size w w1) : RecK w1 A n c p := fun w2 hb2 => h w2 (below_then hb hb.size hb2)
set_option maxHeartbeats 4000000 in
set_option maxRecDepth 100000 in
theorem rchoose_00 (w : World) (A0 A1 : Option Addr) (n0 c0 n1 c1 : Nat) (p q : Rec) (k0 : RecK w A0 n0 c0 (p, 6)) (k1 : RecK w A1 n1 c1 (q, 6)) : Calls Try.prog 31 #[.slice A0 n0 c0, .slice A1 n1 c1] w (ChoP w (0, zero, 4)) := by
  have KB0 := Aside0.mk (below_alloc (Below.refl w.heap.size w) (.cells #[.int .u64 0, .int .i64 0, .int .i64 0, .int .u64 0] 45))
  have KZ0 : Aside0 (DB (w.alloc (.cells #[.int .u64 0, .int .i64 0, .int .i64 0, .int .u64 0] 45)) w.heap.size zero) := ⟨heap_alloc_new w _⟩
  have K0 := Aside0.mk (k0 _ KB0.out)
  have K1 := Aside0.mk k1
  clear k0 k1
  go_enter Try.func31, Try.ntmps31
  go_wp2_with (go_at_call 29; apply Aside0.out)
  refine ⟨?_⟩
  refine K0.out.mono ?_
  rintro e w1 ⟨hB1, rfl⟩
  have KB1 := Aside0.mk (below_then KB0.out KB0.out.size hB1)
  have KZ1 : Aside0 (DB w1 w.heap.size zero) := ⟨blk_below KZ0.out hB1⟩
  clear hB1
  go_wp2_with (go_at_call 29; apply Aside0.out)
  refine ⟨?_⟩
  have hb2 := below_alloc (Below.refl w1.heap.size w1) (.cells #[.int .u64 p.seq, .int .i64 p.slot, .int .i64 p.len, .int .u64 p.sum] 45)
  have hr2 := heap_alloc_new w1 (.cells #[.int .u64 p.seq, .int .i64 p.slot, .int .i64 p.len, .int .u64 p.sum] 45)
  generalize hW : World.alloc w1 _ = w2 at hb2 hr2 ⊢
  have KB2 := Aside0.mk (below_then KB1.out KB1.out.size hb2)
  have KZ2 : Aside0 (DB w2 w.heap.size zero) := ⟨blk_below KZ1.out hb2⟩
  have KP2 : Aside0 (DB w2 w1.heap.size p) := ⟨hr2⟩
  clear hb2 hr2 hW
  refine (K1.out _ KB2.out).mono ?_
  rintro e w3 ⟨hB3, rfl⟩
  have KB3 := Aside0.mk (below_then KB2.out KB2.out.size hB3)
  have KZ3 : Aside0 (DB w3 w.heap.size zero) := ⟨blk_below KZ2.out hB3⟩
  have KP3 : Aside0 (DB w3 w1.heap.size p) := ⟨blk_below KP2.out hB3⟩
  clear hB3
  obtain ⟨z0, z1, z2, z3⟩ := box_cells KP3.out
  have hsz : w1.heap.size < w3.heap.size := blk_lt KP3.out
  have hsw : w.heap.size < w3.heap.size := blk_lt KZ3.out
  go_wp2_with ((with_reducible refine gate_store (t := 45) (p := 5) rfl ?_); apply Aside0.out)
  refine ⟨?_⟩
  have hb4 := below_alloc (Below.refl w3.heap.size w3) (.cells #[.int .u64 q.seq, .int .i64 q.slot, .int .i64 q.len, .int .u64 q.sum] 45)
  generalize hW : World.alloc w3 _ = w4 at hb4 ⊢
  have KB4 := Aside0.mk (below_then KB3.out KB3.out.size hb4)
  have KZ4 : Aside0 (DB w4 w.heap.size zero) := ⟨blk_below KZ3.out hb4⟩
  refine store_rec2 rfl (.tmp 5) (.tmp 27) rfl w.heap.size #[.int .u64 0, .int .i64 0, .int .i64 0, .int .u64 0] _ rfl rfl KZ4.out rfl rfl (by simp [Value.oneCell']) ?_
  intro w5 hz hB hO
  have KBf := Aside0.mk (hB _ _ (Nat.le_refl _) KB4.out)
  have KWf := Aside0.mk hz
  clear hz hB hO hb4 hW z0 z1 z2 z3
  go_wp2
  refine bodyPost_ret (results_list (rs := [.tmp 4, .cell 5 45, .tmp 6]) rfl (by simp) (.tmp (.cell w.heap.size 45 _ _ _ rfl KWf.out Try.underlying45 rfl szRec (.tmp .nil)))) rfl ?_
  exact ⟨KBf.out, rfl⟩
set_option maxHeartbeats 4000000 in
set_option maxRecDepth 100000 in
theorem rchoose_0 (w : World) (A0 A1 : Option Addr) (n0 c0 n1 c1 : Nat) (p q : Rec) (k0 : RecK w A0 n0 c0 (p, 0)) (k1 : RecK w A1 n1 c1 (q, 6)) : Calls Try.prog 31 #[.slice A0 n0 c0, .slice A1 n1 c1] w (ChoP w (0, p, 0)) := by
  have KB0 := Aside0.mk (below_alloc (Below.refl w.heap.size w) (.cells #[.int .u64 0, .int .i64 0, .int .i64 0, .int .u64 0] 45))
  have KZ0 : Aside0 (DB (w.alloc (.cells #[.int .u64 0, .int .i64 0, .int .i64 0, .int .u64 0] 45)) w.heap.size zero) := ⟨heap_alloc_new w _⟩
  have K0 := Aside0.mk (k0 _ KB0.out)
  have K1 := Aside0.mk k1
  clear k0 k1
  go_enter Try.func31, Try.ntmps31
  go_wp2_with (go_at_call 29; apply Aside0.out)
  refine ⟨?_⟩
  refine K0.out.mono ?_
  rintro e w1 ⟨hB1, rfl⟩
  have KB1 := Aside0.mk (below_then KB0.out KB0.out.size hB1)
  have KZ1 : Aside0 (DB w1 w.heap.size zero) := ⟨blk_below KZ0.out hB1⟩
  clear hB1
  go_wp2_with (go_at_call 29; apply Aside0.out)
  refine ⟨?_⟩
  have hb2 := below_alloc (Below.refl w1.heap.size w1) (.cells #[.int .u64 p.seq, .int .i64 p.slot, .int .i64 p.len, .int .u64 p.sum] 45)
  have hr2 := heap_alloc_new w1 (.cells #[.int .u64 p.seq, .int .i64 p.slot, .int .i64 p.len, .int .u64 p.sum] 45)
  generalize hW : World.alloc w1 _ = w2 at hb2 hr2 ⊢
  have KB2 := Aside0.mk (below_then KB1.out KB1.out.size hb2)
  have KZ2 : Aside0 (DB w2 w.heap.size zero) := ⟨blk_below KZ1.out hb2⟩
  have KP2 : Aside0 (DB w2 w1.heap.size p) := ⟨hr2⟩
  clear hb2 hr2 hW
  refine (K1.out _ KB2.out).mono ?_
  rintro e w3 ⟨hB3, rfl⟩
  have KB3 := Aside0.mk (below_then KB2.out KB2.out.size hB3)
  have KZ3 : Aside0 (DB w3 w.heap.size zero) := ⟨blk_below KZ2.out hB3⟩
  have KP3 : Aside0 (DB w3 w1.heap.size p) := ⟨blk_below KP2.out hB3⟩
  clear hB3
  obtain ⟨z0, z1, z2, z3⟩ := box_cells KP3.out
  have hsz : w1.heap.size < w3.heap.size := blk_lt KP3.out
  have hsw : w.heap.size < w3.heap.size := blk_lt KZ3.out
  have hsp : w.heap.size < w1.heap.size := blk_lt KZ1.out
  go_wp2
  have hb4 := below_alloc (Below.refl w3.heap.size w3) (.cells #[.int .u64 q.seq, .int .i64 q.slot, .int .i64 q.len, .int .u64 q.sum] 45)
  have hr4 := heap_alloc_new w3 (.cells #[.int .u64 q.seq, .int .i64 q.slot, .int .i64 q.len, .int .u64 q.sum] 45)
  generalize hW : World.alloc w3 _ = w4 at hb4 hr4 ⊢
  have KB4 := Aside0.mk (below_then KB3.out KB3.out.size hb4)
  have KZ4 : Aside0 (DB w4 w.heap.size zero) := ⟨blk_below KZ3.out hb4⟩
  have KP4 : Aside0 (DB w4 w1.heap.size p) := ⟨blk_below KP3.out hb4⟩
  clear hb4 hr4 hW z0 z1 z2 z3
  refine start_ (n := 4) (S := fun w' => DB w' w1.heap.size p) (ds := []) #[false, false, false, false] (by kernel_rfl) rfl rfl ((show DB w4.drew w1.heap.size p from KP4.out)) (fun hHeld => ?_)
  refine pure_ (i := 1) (N := some 4) (v := ?_) (a' := ?_) #[false, true, false, false] rfl rfl (by kernel_rfl) (fun _ _ _ h => h) (Or.inl ⟨by rfl, ?_⟩) ?_ ?_
  rotate_left
  · intro w'
    go_simp
    with_reducible rfl
  rotate_left
  · simp only [Act.put, List.setIfInBounds_toArray, List.set_cons_zero, List.set_cons_succ, i64_w, i32_w]
    rfl
  refine take_ (i := 0) (N := some 42) (v := .agg #[.int .u64 p.seq, .int .i64 p.slot, .int .i64 p.len, .int .u64 p.sum]) (a' := ?_) #[true, true, false, false] rfl rfl (by kernel_rfl) (fun _ _ _ h => h) (Or.inl ⟨by rfl, ?_⟩) hHeld ?_ ?_
  · intro w' s0
    (obtain ⟨z0, z1, z2, z3⟩ := box_cells s0)
    go_simp
    (try rfl)
  rotate_left
  · simp only [Act.put, List.setIfInBounds_toArray, List.set_cons_zero, List.set_cons_succ, i64_w, i32_w]
    rfl
  refine one_ (i := 2) (N := none) #[true, true, true, false] rfl rfl (by kernel_rfl) (by decide) (fun K hK => ?_)
  (obtain ⟨cc0, cc1, cc2, cc3⟩ := box_cells KZ4.out)
  have cf0 := blk_frozen KZ4.out 0
  have cf1 := blk_frozen KZ4.out 1
  have cf2 := blk_frozen KZ4.out 2
  have cf3 := blk_frozen KZ4.out 3
  refine skip_ (w1 := ?_) (by rfl) rfl ?_ ?_
  rotate_left
  · (go_simp; rfl)
  refine hK.out _ _ (((put4_other (Nat.ne_of_gt hsp)).trans hHeld)) (fun hHeld => ?_)
  clear hK K
  refine pure_ (i := 3) (N := some 6) (v := ?_) (a' := ?_) #[true, true, true, true] rfl rfl (by kernel_rfl) (fun _ _ _ h => h) (Or.inl ⟨by rfl, ?_⟩) ?_ ?_
  rotate_left
  · intro w'
    go_simp
    with_reducible rfl
  rotate_left
  · simp only [Act.put, List.setIfInBounds_toArray, List.set_cons_zero, List.set_cons_succ, i64_w, i32_w]
    rfl
  refine done_ (by kernel_rfl) ?_
  have KWf : Aside0 (DB (put4 w4 w.heap.size (.int .u64 p.seq) (.int .i64 p.slot) (.int .i64 p.len) (.int .u64 p.sum)) w.heap.size p) := ⟨put4_row KZ4.out p⟩
  have KBf : Aside0 (Below w.heap.size w (put4 w4 w.heap.size (.int .u64 p.seq) (.int .i64 p.slot) (.int .i64 p.len) (.int .u64 p.sum)).drew) := ⟨below_drew (put4_below KB4.out (Nat.le_refl _) _ _ _ _)⟩
  clear hHeld
  go_wp2
  refine bodyPost_ret (results_list (rs := [.tmp 4, .cell 5 45, .tmp 6]) rfl (by simp) (.tmp (.cell w.heap.size 45 _ _ _ rfl KWf.out Try.underlying45 rfl szRec (.tmp .nil)))) rfl ?_
  exact ⟨KBf.out, rfl⟩
set_option maxHeartbeats 4000000 in
set_option maxRecDepth 100000 in
theorem rchoose_1 (w : World) (A0 A1 : Option Addr) (n0 c0 n1 c1 : Nat) (p q : Rec) (k0 : RecK w A0 n0 c0 (p, 6)) (k1 : RecK w A1 n1 c1 (q, 0)) : Calls Try.prog 31 #[.slice A0 n0 c0, .slice A1 n1 c1] w (ChoP w (1, q, 0)) := by
  have KB0 := Aside0.mk (below_alloc (Below.refl w.heap.size w) (.cells #[.int .u64 0, .int .i64 0, .int .i64 0, .int .u64 0] 45))
  have KZ0 : Aside0 (DB (w.alloc (.cells #[.int .u64 0, .int .i64 0, .int .i64 0, .int .u64 0] 45)) w.heap.size zero) := ⟨heap_alloc_new w _⟩
  have K0 := Aside0.mk (k0 _ KB0.out)
  have K1 := Aside0.mk k1
  clear k0 k1
  go_enter Try.func31, Try.ntmps31
  go_wp2_with (go_at_call 29; apply Aside0.out)
  refine ⟨?_⟩
  refine K0.out.mono ?_
  rintro e w1 ⟨hB1, rfl⟩
  have KB1 := Aside0.mk (below_then KB0.out KB0.out.size hB1)
  have KZ1 : Aside0 (DB w1 w.heap.size zero) := ⟨blk_below KZ0.out hB1⟩
  clear hB1
  go_wp2_with (go_at_call 29; apply Aside0.out)
  refine ⟨?_⟩
  have hb2 := below_alloc (Below.refl w1.heap.size w1) (.cells #[.int .u64 p.seq, .int .i64 p.slot, .int .i64 p.len, .int .u64 p.sum] 45)
  have hr2 := heap_alloc_new w1 (.cells #[.int .u64 p.seq, .int .i64 p.slot, .int .i64 p.len, .int .u64 p.sum] 45)
  generalize hW : World.alloc w1 _ = w2 at hb2 hr2 ⊢
  have KB2 := Aside0.mk (below_then KB1.out KB1.out.size hb2)
  have KZ2 : Aside0 (DB w2 w.heap.size zero) := ⟨blk_below KZ1.out hb2⟩
  have KP2 : Aside0 (DB w2 w1.heap.size p) := ⟨hr2⟩
  clear hb2 hr2 hW
  refine (K1.out _ KB2.out).mono ?_
  rintro e w3 ⟨hB3, rfl⟩
  have KB3 := Aside0.mk (below_then KB2.out KB2.out.size hB3)
  have KZ3 : Aside0 (DB w3 w.heap.size zero) := ⟨blk_below KZ2.out hB3⟩
  have KP3 : Aside0 (DB w3 w1.heap.size p) := ⟨blk_below KP2.out hB3⟩
  clear hB3
  obtain ⟨z0, z1, z2, z3⟩ := box_cells KP3.out
  have hsz : w1.heap.size < w3.heap.size := blk_lt KP3.out
  have hsw : w.heap.size < w3.heap.size := blk_lt KZ3.out
  go_wp2
  have hb4 := below_alloc (Below.refl w3.heap.size w3) (.cells #[.int .u64 q.seq, .int .i64 q.slot, .int .i64 q.len, .int .u64 q.sum] 45)
  have hr4 := heap_alloc_new w3 (.cells #[.int .u64 q.seq, .int .i64 q.slot, .int .i64 q.len, .int .u64 q.sum] 45)
  generalize hW : World.alloc w3 _ = w4 at hb4 hr4 ⊢
  have KB4 := Aside0.mk (below_then KB3.out KB3.out.size hb4)
  have KZ4 : Aside0 (DB w4 w.heap.size zero) := ⟨blk_below KZ3.out hb4⟩
  have KP4 : Aside0 (DB w4 w3.heap.size q) := ⟨hr4⟩
  clear hb4 hr4 hW z0 z1 z2 z3
  refine start_ (n := 4) (S := fun w' => DB w' w3.heap.size q) (ds := []) #[false, false, false, false] (by kernel_rfl) rfl rfl ((show DB w4.drew w3.heap.size q from KP4.out)) (fun hHeld => ?_)
  refine pure_ (i := 1) (N := some 4) (v := ?_) (a' := ?_) #[false, true, false, false] rfl rfl (by kernel_rfl) (fun _ _ _ h => h) (Or.inl ⟨by rfl, ?_⟩) ?_ ?_
  rotate_left
  · intro w'
    go_simp
    with_reducible rfl
  rotate_left
  · simp only [Act.put, List.setIfInBounds_toArray, List.set_cons_zero, List.set_cons_succ, i64_w, i32_w]
    rfl
  refine take_ (i := 0) (N := some 41) (v := .agg #[.int .u64 q.seq, .int .i64 q.slot, .int .i64 q.len, .int .u64 q.sum]) (a' := ?_) #[true, true, false, false] rfl rfl (by kernel_rfl) (fun _ _ _ h => h) (Or.inl ⟨by rfl, ?_⟩) hHeld ?_ ?_
  · intro w' s0
    (obtain ⟨z0, z1, z2, z3⟩ := box_cells s0)
    go_simp
    (try rfl)
  rotate_left
  · simp only [Act.put, List.setIfInBounds_toArray, List.set_cons_zero, List.set_cons_succ, i64_w, i32_w]
    rfl
  refine one_ (i := 2) (N := none) #[true, true, true, false] rfl rfl (by kernel_rfl) (by decide) (fun K hK => ?_)
  (obtain ⟨cc0, cc1, cc2, cc3⟩ := box_cells KZ4.out)
  have cf0 := blk_frozen KZ4.out 0
  have cf1 := blk_frozen KZ4.out 1
  have cf2 := blk_frozen KZ4.out 2
  have cf3 := blk_frozen KZ4.out 3
  refine skip_ (w1 := ?_) (by rfl) rfl ?_ ?_
  rotate_left
  · (go_simp; rfl)
  refine hK.out _ _ (((put4_other (Nat.ne_of_gt hsw)).trans hHeld)) (fun hHeld => ?_)
  clear hK K
  refine pure_ (i := 3) (N := some 6) (v := ?_) (a' := ?_) #[true, true, true, true] rfl rfl (by kernel_rfl) (fun _ _ _ h => h) (Or.inl ⟨by rfl, ?_⟩) ?_ ?_
  rotate_left
  · intro w'
    go_simp
    with_reducible rfl
  rotate_left
  · simp only [Act.put, List.setIfInBounds_toArray, List.set_cons_zero, List.set_cons_succ, i64_w, i32_w]
    rfl
  refine done_ (by kernel_rfl) ?_
  have KWf : Aside0 (DB (put4 w4 w.heap.size (.int .u64 q.seq) (.int .i64 q.slot) (.int .i64 q.len) (.int .u64 q.sum)) w.heap.size q) := ⟨put4_row KZ4.out q⟩
  have KBf : Aside0 (Below w.heap.size w (put4 w4 w.heap.size (.int .u64 q.seq) (.int .i64 q.slot) (.int .i64 q.len) (.int .u64 q.sum)).drew) := ⟨below_drew (put4_below KB4.out (Nat.le_refl _) _ _ _ _)⟩
  clear hHeld
  go_wp2
  refine bodyPost_ret (results_list (rs := [.tmp 4, .cell 5 45, .tmp 6]) rfl (by simp) (.tmp (.cell w.heap.size 45 _ _ _ rfl KWf.out Try.underlying45 rfl szRec (.tmp .nil)))) rfl ?_
  exact ⟨KBf.out, rfl⟩
set_option maxHeartbeats 4000000 in
set_option maxRecDepth 100000 in
theorem rchoose_10 (w : World) (A0 A1 : Option Addr) (n0 c0 n1 c1 : Nat) (p q : Rec) (hs : p.seq < q.seq) (k0 : RecK w A0 n0 c0 (p, 0)) (k1 : RecK w A1 n1 c1 (q, 0)) : Calls Try.prog 31 #[.slice A0 n0 c0, .slice A1 n1 c1] w (ChoP w (1, q, 0)) := by
  have KB0 := Aside0.mk (below_alloc (Below.refl w.heap.size w) (.cells #[.int .u64 0, .int .i64 0, .int .i64 0, .int .u64 0] 45))
  have KZ0 : Aside0 (DB (w.alloc (.cells #[.int .u64 0, .int .i64 0, .int .i64 0, .int .u64 0] 45)) w.heap.size zero) := ⟨heap_alloc_new w _⟩
  have K0 := Aside0.mk (k0 _ KB0.out)
  have K1 := Aside0.mk k1
  clear k0 k1
  have hd : decide (q.seq > p.seq) = true := decide_eq_true hs
  clear hs
  go_enter Try.func31, Try.ntmps31
  go_wp2_with (go_at_call 29; apply Aside0.out)
  refine ⟨?_⟩
  refine K0.out.mono ?_
  rintro e w1 ⟨hB1, rfl⟩
  have KB1 := Aside0.mk (below_then KB0.out KB0.out.size hB1)
  have KZ1 : Aside0 (DB w1 w.heap.size zero) := ⟨blk_below KZ0.out hB1⟩
  clear hB1
  go_wp2_with (go_at_call 29; apply Aside0.out)
  refine ⟨?_⟩
  have hb2 := below_alloc (Below.refl w1.heap.size w1) (.cells #[.int .u64 p.seq, .int .i64 p.slot, .int .i64 p.len, .int .u64 p.sum] 45)
  have hr2 := heap_alloc_new w1 (.cells #[.int .u64 p.seq, .int .i64 p.slot, .int .i64 p.len, .int .u64 p.sum] 45)
  generalize hW : World.alloc w1 _ = w2 at hb2 hr2 ⊢
  have KB2 := Aside0.mk (below_then KB1.out KB1.out.size hb2)
  have KZ2 : Aside0 (DB w2 w.heap.size zero) := ⟨blk_below KZ1.out hb2⟩
  have KP2 : Aside0 (DB w2 w1.heap.size p) := ⟨hr2⟩
  clear hb2 hr2 hW
  refine (K1.out _ KB2.out).mono ?_
  rintro e w3 ⟨hB3, rfl⟩
  have KB3 := Aside0.mk (below_then KB2.out KB2.out.size hB3)
  have KZ3 : Aside0 (DB w3 w.heap.size zero) := ⟨blk_below KZ2.out hB3⟩
  have KP3 : Aside0 (DB w3 w1.heap.size p) := ⟨blk_below KP2.out hB3⟩
  clear hB3
  obtain ⟨z0, z1, z2, z3⟩ := box_cells KP3.out
  have hsz : w1.heap.size < w3.heap.size := blk_lt KP3.out
  have hsw : w.heap.size < w3.heap.size := blk_lt KZ3.out
  go_wp2
  have hb4 := below_alloc (Below.refl w3.heap.size w3) (.cells #[.int .u64 q.seq, .int .i64 q.slot, .int .i64 q.len, .int .u64 q.sum] 45)
  have hr4 := heap_alloc_new w3 (.cells #[.int .u64 q.seq, .int .i64 q.slot, .int .i64 q.len, .int .u64 q.sum] 45)
  generalize hW : World.alloc w3 _ = w4 at hb4 hr4 ⊢
  have KB4 := Aside0.mk (below_then KB3.out KB3.out.size hb4)
  have KZ4 : Aside0 (DB w4 w.heap.size zero) := ⟨blk_below KZ3.out hb4⟩
  have KP4 : Aside0 (DB w4 w3.heap.size q) := ⟨hr4⟩
  clear hb4 hr4 hW z0 z1 z2 z3
  refine start_ (n := 4) (S := fun w' => DB w' w3.heap.size q) (ds := []) #[false, false, false, false] (by kernel_rfl) rfl rfl ((show DB w4.drew w3.heap.size q from KP4.out)) (fun hHeld => ?_)
  refine pure_ (i := 1) (N := some 4) (v := ?_) (a' := ?_) #[false, true, false, false] rfl rfl (by kernel_rfl) (fun _ _ _ h => h) (Or.inl ⟨by rfl, ?_⟩) ?_ ?_
  rotate_left
  · intro w'
    go_simp
    with_reducible rfl
  rotate_left
  · simp only [Act.put, List.setIfInBounds_toArray, List.set_cons_zero, List.set_cons_succ, i64_w, i32_w]
    rfl
  refine take_ (i := 0) (N := some 41) (v := .agg #[.int .u64 q.seq, .int .i64 q.slot, .int .i64 q.len, .int .u64 q.sum]) (a' := ?_) #[true, true, false, false] rfl rfl (by kernel_rfl) (fun _ _ _ h => h) (Or.inl ⟨by rfl, ?_⟩) hHeld ?_ ?_
  · intro w' s0
    (obtain ⟨z0, z1, z2, z3⟩ := box_cells s0)
    go_simp
    (try rfl)
  rotate_left
  · simp only [Act.put, List.setIfInBounds_toArray, List.set_cons_zero, List.set_cons_succ, i64_w, i32_w]
    rfl
  refine one_ (i := 2) (N := none) #[true, true, true, false] rfl rfl (by kernel_rfl) (by decide) (fun K hK => ?_)
  (obtain ⟨cc0, cc1, cc2, cc3⟩ := box_cells KZ4.out)
  have cf0 := blk_frozen KZ4.out 0
  have cf1 := blk_frozen KZ4.out 1
  have cf2 := blk_frozen KZ4.out 2
  have cf3 := blk_frozen KZ4.out 3
  refine skip_ (w1 := ?_) (by rfl) rfl ?_ ?_
  rotate_left
  · (go_simp; rfl)
  refine hK.out _ _ (((put4_other (Nat.ne_of_gt hsw)).trans hHeld)) (fun hHeld => ?_)
  clear hK K
  refine pure_ (i := 3) (N := some 6) (v := ?_) (a' := ?_) #[true, true, true, true] rfl rfl (by kernel_rfl) (fun _ _ _ h => h) (Or.inl ⟨by rfl, ?_⟩) ?_ ?_
  rotate_left
  · intro w'
    go_simp
    with_reducible rfl
  rotate_left
  · simp only [Act.put, List.setIfInBounds_toArray, List.set_cons_zero, List.set_cons_succ, i64_w, i32_w]
    rfl
  refine done_ (by kernel_rfl) ?_
  have KWf : Aside0 (DB (put4 w4 w.heap.size (.int .u64 q.seq) (.int .i64 q.slot) (.int .i64 q.len) (.int .u64 q.sum)) w.heap.size q) := ⟨put4_row KZ4.out q⟩
  have KBf : Aside0 (Below w.heap.size w (put4 w4 w.heap.size (.int .u64 q.seq) (.int .i64 q.slot) (.int .i64 q.len) (.int .u64 q.sum)).drew) := ⟨below_drew (put4_below KB4.out (Nat.le_refl _) _ _ _ _)⟩
  clear hHeld
  go_wp2
  refine bodyPost_ret (results_list (rs := [.tmp 4, .cell 5 45, .tmp 6]) rfl (by simp) (.tmp (.cell w.heap.size 45 _ _ _ rfl KWf.out Try.underlying45 rfl szRec (.tmp .nil)))) rfl ?_
  exact ⟨KBf.out, rfl⟩
set_option maxHeartbeats 4000000 in
set_option maxRecDepth 100000 in
theorem rchoose_01 (w : World) (A0 A1 : Option Addr) (n0 c0 n1 c1 : Nat) (p q : Rec) (hs : ¬ p.seq < q.seq) (k0 : RecK w A0 n0 c0 (p, 0)) (k1 : RecK w A1 n1 c1 (q, 0)) : Calls Try.prog 31 #[.slice A0 n0 c0, .slice A1 n1 c1] w (ChoP w (0, p, 0)) := by
  have KB0 := Aside0.mk (below_alloc (Below.refl w.heap.size w) (.cells #[.int .u64 0, .int .i64 0, .int .i64 0, .int .u64 0] 45))
  have KZ0 : Aside0 (DB (w.alloc (.cells #[.int .u64 0, .int .i64 0, .int .i64 0, .int .u64 0] 45)) w.heap.size zero) := ⟨heap_alloc_new w _⟩
  have K0 := Aside0.mk (k0 _ KB0.out)
  have K1 := Aside0.mk k1
  clear k0 k1
  have hd : decide (q.seq > p.seq) = false := decide_eq_false hs
  clear hs
  go_enter Try.func31, Try.ntmps31
  go_wp2_with (go_at_call 29; apply Aside0.out)
  refine ⟨?_⟩
  refine K0.out.mono ?_
  rintro e w1 ⟨hB1, rfl⟩
  have KB1 := Aside0.mk (below_then KB0.out KB0.out.size hB1)
  have KZ1 : Aside0 (DB w1 w.heap.size zero) := ⟨blk_below KZ0.out hB1⟩
  clear hB1
  go_wp2_with (go_at_call 29; apply Aside0.out)
  refine ⟨?_⟩
  have hb2 := below_alloc (Below.refl w1.heap.size w1) (.cells #[.int .u64 p.seq, .int .i64 p.slot, .int .i64 p.len, .int .u64 p.sum] 45)
  have hr2 := heap_alloc_new w1 (.cells #[.int .u64 p.seq, .int .i64 p.slot, .int .i64 p.len, .int .u64 p.sum] 45)
  generalize hW : World.alloc w1 _ = w2 at hb2 hr2 ⊢
  have KB2 := Aside0.mk (below_then KB1.out KB1.out.size hb2)
  have KZ2 : Aside0 (DB w2 w.heap.size zero) := ⟨blk_below KZ1.out hb2⟩
  have KP2 : Aside0 (DB w2 w1.heap.size p) := ⟨hr2⟩
  clear hb2 hr2 hW
  refine (K1.out _ KB2.out).mono ?_
  rintro e w3 ⟨hB3, rfl⟩
  have KB3 := Aside0.mk (below_then KB2.out KB2.out.size hB3)
  have KZ3 : Aside0 (DB w3 w.heap.size zero) := ⟨blk_below KZ2.out hB3⟩
  have KP3 : Aside0 (DB w3 w1.heap.size p) := ⟨blk_below KP2.out hB3⟩
  clear hB3
  obtain ⟨z0, z1, z2, z3⟩ := box_cells KP3.out
  have hsz : w1.heap.size < w3.heap.size := blk_lt KP3.out
  have hsw : w.heap.size < w3.heap.size := blk_lt KZ3.out
  have hsp : w.heap.size < w1.heap.size := blk_lt KZ1.out
  go_wp2
  have hb4 := below_alloc (Below.refl w3.heap.size w3) (.cells #[.int .u64 q.seq, .int .i64 q.slot, .int .i64 q.len, .int .u64 q.sum] 45)
  have hr4 := heap_alloc_new w3 (.cells #[.int .u64 q.seq, .int .i64 q.slot, .int .i64 q.len, .int .u64 q.sum] 45)
  generalize hW : World.alloc w3 _ = w4 at hb4 hr4 ⊢
  have KB4 := Aside0.mk (below_then KB3.out KB3.out.size hb4)
  have KZ4 : Aside0 (DB w4 w.heap.size zero) := ⟨blk_below KZ3.out hb4⟩
  have KP4 : Aside0 (DB w4 w1.heap.size p) := ⟨blk_below KP3.out hb4⟩
  clear hb4 hr4 hW z0 z1 z2 z3
  refine start_ (n := 4) (S := fun w' => DB w' w1.heap.size p) (ds := []) #[false, false, false, false] (by kernel_rfl) rfl rfl ((show DB w4.drew w1.heap.size p from KP4.out)) (fun hHeld => ?_)
  refine pure_ (i := 1) (N := some 4) (v := ?_) (a' := ?_) #[false, true, false, false] rfl rfl (by kernel_rfl) (fun _ _ _ h => h) (Or.inl ⟨by rfl, ?_⟩) ?_ ?_
  rotate_left
  · intro w'
    go_simp
    with_reducible rfl
  rotate_left
  · simp only [Act.put, List.setIfInBounds_toArray, List.set_cons_zero, List.set_cons_succ, i64_w, i32_w]
    rfl
  refine take_ (i := 0) (N := some 42) (v := .agg #[.int .u64 p.seq, .int .i64 p.slot, .int .i64 p.len, .int .u64 p.sum]) (a' := ?_) #[true, true, false, false] rfl rfl (by kernel_rfl) (fun _ _ _ h => h) (Or.inl ⟨by rfl, ?_⟩) hHeld ?_ ?_
  · intro w' s0
    (obtain ⟨z0, z1, z2, z3⟩ := box_cells s0)
    go_simp
    (try rfl)
  rotate_left
  · simp only [Act.put, List.setIfInBounds_toArray, List.set_cons_zero, List.set_cons_succ, i64_w, i32_w]
    rfl
  refine one_ (i := 2) (N := none) #[true, true, true, false] rfl rfl (by kernel_rfl) (by decide) (fun K hK => ?_)
  (obtain ⟨cc0, cc1, cc2, cc3⟩ := box_cells KZ4.out)
  have cf0 := blk_frozen KZ4.out 0
  have cf1 := blk_frozen KZ4.out 1
  have cf2 := blk_frozen KZ4.out 2
  have cf3 := blk_frozen KZ4.out 3
  refine skip_ (w1 := ?_) (by rfl) rfl ?_ ?_
  rotate_left
  · (go_simp; rfl)
  refine hK.out _ _ (((put4_other (Nat.ne_of_gt hsp)).trans hHeld)) (fun hHeld => ?_)
  clear hK K
  refine pure_ (i := 3) (N := some 6) (v := ?_) (a' := ?_) #[true, true, true, true] rfl rfl (by kernel_rfl) (fun _ _ _ h => h) (Or.inl ⟨by rfl, ?_⟩) ?_ ?_
  rotate_left
  · intro w'
    go_simp
    with_reducible rfl
  rotate_left
  · simp only [Act.put, List.setIfInBounds_toArray, List.set_cons_zero, List.set_cons_succ, i64_w, i32_w]
    rfl
  refine done_ (by kernel_rfl) ?_
  have KWf : Aside0 (DB (put4 w4 w.heap.size (.int .u64 p.seq) (.int .i64 p.slot) (.int .i64 p.len) (.int .u64 p.sum)) w.heap.size p) := ⟨put4_row KZ4.out p⟩
  have KBf : Aside0 (Below w.heap.size w (put4 w4 w.heap.size (.int .u64 p.seq) (.int .i64 p.slot) (.int .i64 p.len) (.int .u64 p.sum)).drew) := ⟨below_drew (put4_below KB4.out (Nat.le_refl _) _ _ _ _)⟩
  clear hHeld
  go_wp2
  refine bodyPost_ret (results_list (rs := [.tmp 4, .cell 5 45, .tmp 6]) rfl (by simp) (.tmp (.cell w.heap.size 45 _ _ _ rfl KWf.out Try.underlying45 rfl szRec (.tmp .nil)))) rfl ?_
  exact ⟨KBf.out, rfl⟩
theorem rchoose_any (w : World) (A0 A1 : Option Addr) (n0 c0 n1 c1 : Nat) (p q : Rec × Int) (h0 : p.2 = 0 ∨ p.2 = 6) (h1 : q.2 = 0 ∨ q.2 = 6) (k0 : RecK w A0 n0 c0 p) (k1 : RecK w A1 n1 c1 q) : Calls Try.prog 31 #[.slice A0 n0 c0, .slice A1 n1 c1] w (ChoP w (cho p q)) := by
  obtain ⟨p, e0⟩ := p
  obtain ⟨q, e1⟩ := q
  have h0 : e0 = 0 ∨ e0 = 6 := h0
  have h1 : e1 = 0 ∨ e1 = 6 := h1
  rcases h0 with rfl | rfl <;> rcases h1 with rfl | rfl
  · by_cases hs : p.seq < q.seq
    · have e : cho (p, 0) (q, 0) = (1, q, 0) := by simp [cho, hs]
      rw [e]
      exact rchoose_10 w A0 A1 n0 c0 n1 c1 p q hs k0 k1
    · have e : cho (p, 0) (q, 0) = (0, p, 0) := by simp [cho, hs]
      rw [e]
      exact rchoose_01 w A0 A1 n0 c0 n1 c1 p q hs k0 k1
  · exact rchoose_0 w A0 A1 n0 c0 n1 c1 p q k0 k1
  · exact rchoose_1 w A0 A1 n0 c0 n1 c1 p q k0 k1
  · exact rchoose_00 w A0 A1 n0 c0 n1 c1 p q k0 k1
end Go.Proofs.Ytgplpcjlemjabaa.Bo
