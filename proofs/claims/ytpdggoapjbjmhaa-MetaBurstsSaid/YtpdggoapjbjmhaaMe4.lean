/- Streams in chunks: what one chunk tells, by the program and by the document: walks. -/
import Derived.Test.YtpdggoapjbjmhaaKM
set_option linter.unusedVariables false
set_option linter.unusedSimpArgs false
namespace Go.Proofs.Ytpdggoapjbjmhaa.Me
open Go.RowKit Go.Proofs.Ytpdggoapjbjmhaa.Fd Go.Proofs.Ytpdggoapjbjmhaa.Bg Go.Proofs.Ytpdggoapjbjmhaa.Lz Go.Proofs.Ytpdggoapjbjmhaa.Ma Go.Proofs.Ytpdggoapjbjmhaa.Bk Go.Proofs.YtpdggoapjbjmhaaW.PrintWords Go.Proofs.YtpdggoapjbjmhaaW.PrintLast Go.Proofs.YtpdggoapjbjmhaaW.PrintMore
/-- What one chunk tells. -/
def chunk (im : List Int) (c : Ck) : List Int × Int :=
  if rgt c = false then ([], 1) else
  if (im.length : Int) < c.f0 + 8 + c.f2 then ([], 9) else
  if ((Sum.crc 0 (cutx im (c.f0 + 8) c.f2) : Nat) : Int) ≠ c.f4 then ([], 140) else
  if (unp (cutx im (c.f0 + 8) c.f2) c.f3 c.f1).2 ≠ 0 ∨ ((unp (cutx im (c.f0 + 8) c.f2) c.f3 c.f1).1.length : Int) ≠ c.f1 then ([], 6) else ((unp (cutx im (c.f0 + 8) c.f2) c.f3 c.f1).1, 0)
theorem right_any (c : Ck) (w : World) : Calls Try.prog 56 #[.agg (bx c)] w fun e w' => e = .returned (.bool (rgt c)) ∧ Below w.heap.size w w' := PMetaParts.meta_right.calls c.f0 c.f1 c.f2 c.f3 c.f4 (rgt c) w (right_f c)
/-- The bytes of a chunk. -/
theorem cut_int (A : Option Addr) (c L : Nat) (b : List Int) (hL : L = b.length) (x y s : Int) (hx : 0 ≤ x) (hs : 0 ≤ s) (hy : y = x + s) (hq : y ≤ L) (hc : L ≤ c) :
    ∃ (A' : Option Addr) (c' : Nat), s.toNat ≤ c' ∧ (∀ W : World, (Instr.slice 37 (.slice A L c) (some (.int .i64 x)) (some (.int .i64 y)) none).run Try.prog W = .ok (.slice A' s.toNat c') W) ∧ (∀ w : World, Kd.C (Kd.int .u8) w A L b → Kd.C (Kd.int .u8) w A' s.toNat (cutx b x s)) ∧ (cutx b x s).length = s.toNat := by
  subst hL
  obtain ⟨x, rfl⟩ := Int.eq_ofNat_of_zero_le hx
  obtain ⟨s, rfl⟩ := Int.eq_ofNat_of_zero_le hs
  obtain ⟨A', c', h1, h2, h3⟩ := cut_at A c b x s (by omega) hc
  refine ⟨A', c', h1, ?_, ?_, ?_⟩
  · intro W
    rw [hy, show (x : Int) + (s : Int) = ((x + s : Nat) : Int) by omega]
    exact h2 W
  · intro w hC
    unfold cutx
    rw [Int.toNat_natCast, Int.toNat_natCast]
    exact h3 w hC
  · unfold cutx
    rw [Int.toNat_natCast, Int.toNat_natCast, List.length_take, List.length_drop]
    omega
theorem cutx_isB {im : List Int} (h : isB im) (a n : Int) : isB (cutx im a n) := fun x hx => h x (List.mem_of_mem_drop (List.mem_of_mem_take hx))
theorem chunk_arg_p (w : World) (A : Option Addr) (L cc : Nat) (a P s z4 : Int) (p : Bool) (hg : rgt ⟨a, P, s, p, z4⟩ = false) : Calls Try.prog 37 #[.slice A L cc, .agg #[.int .i64 a, .int .i64 P, .int .i64 s, .bool p, .int .u32 z4]] w fun e w' => e = .returned (.tuple #[.slice none 0 0, .int .i64 1]) ∧ Below w.heap.size w w' := by
  have KR := Aside0.mk (right_any ⟨a, P, s, p, z4⟩)
  rw [hg] at KR
  have Kal : Aside0 (Below w.heap.size w (w.alloc (.cells #[.int .i64 a, .int .i64 P, .int .i64 s, .bool p, .int .u32 z4] 62))) := ⟨below_alloc (Below.refl _ _) _⟩
  clear hg
  go_enter Try.func37, Try.ntmps37
  go_wp2_with (go_at_call 56; apply Aside0.out)
  refine ⟨?_⟩
  refine (KR.out _).mono ?_
  rintro e w1 ⟨rfl, hB1⟩
  have KB1 := Aside0.mk (below_then Kal.out Kal.out.size hB1)
  have KW := Aside0.mk ((hB1.block w.heap.size (by simp)).trans (heap_alloc_new w _))
  have hwg : w.heap.size < w1.heap.size := by have := hB1.size; simp at this; omega
  obtain ⟨g, hg⟩ : ∃ g, g = w.heap.size := ⟨_, rfl⟩
  rw [← hg] at KW hwg ⊢
  have Kg := Aside0.mk hg
  clear hB1 hg
  obtain ⟨x0, x1, x2, x3, x4⟩ := bx_cells KW.out
  go_wp2
  go_ret2
  exact ⟨rfl, KB1.out⟩
set_option maxHeartbeats 1000000 in
theorem chunk_range_p (w : World) (A : Option Addr) (L cc : Nat) (a P s z4 : Int) (p : Bool) (hg : rgt ⟨a, P, s, p, z4⟩ = true) (hl : L ≤ 1000000) (ha : a ≤ 9223372036854775807) (hr : (L : Int) < a + 8 + s) : Calls Try.prog 37 #[.slice A L cc, .agg #[.int .i64 a, .int .i64 P, .int .i64 s, .bool p, .int .u32 z4]] w fun e w' => e = .returned (.tuple #[.slice none 0 0, .int .i64 9]) ∧ Below w.heap.size w w' := by
  obtain ⟨r0, r1, r2, r3, r4, -⟩ := (rgt_iff _).1 hg
  simp only at r0 r1 r2 r3 r4
  have KR := Aside0.mk (right_any ⟨a, P, s, p, z4⟩)
  rw [hg] at KR
  have Kal : Aside0 (Below w.heap.size w (w.alloc (.cells #[.int .i64 a, .int .i64 P, .int .i64 s, .bool p, .int .u32 z4] 62))) := ⟨below_alloc (Below.refl _ _) _⟩
  clear hg
  obtain ⟨Li, hLi⟩ : ∃ x : Int, (L : Int) = x := ⟨_, rfl⟩
  have i0 : 0 ≤ Li := by omega
  have i1 : Li ≤ 1000000 := by omega
  rw [hLi] at hr
  have i2 : 0 ≤ 8 + s := by omega
  cases hb1 : decide (Li < 8 + s) with
  | true =>
    clear r1 r2 hr ha hl
    go_enter Try.func37, Try.ntmps37
    go_wp2_with (go_at_call 56; apply Aside0.out)
    refine ⟨?_⟩
    refine (KR.out _).mono ?_
    rintro e w1 ⟨rfl, hB1⟩
    have KB1 := Aside0.mk (below_then Kal.out Kal.out.size hB1)
    have KW := Aside0.mk ((hB1.block w.heap.size (by simp)).trans (heap_alloc_new w _))
    have hwg : w.heap.size < w1.heap.size := by have := hB1.size; simp at this; omega
    obtain ⟨g, hg⟩ : ∃ g, g = w.heap.size := ⟨_, rfl⟩
    rw [← hg] at KW hwg ⊢
    have Kg := Aside0.mk hg
    clear hB1 hg
    obtain ⟨x0, x1, x2, x3, x4⟩ := bx_cells KW.out
    go_wp2
    go_ret2
    exact ⟨rfl, KB1.out⟩
  | false =>
    have hb3 : decide (a > Li - 8 - s) = true := decide_eq_true (by have := of_decide_eq_false hb1; omega)
    clear r1 r2 hr ha hl
    go_enter Try.func37, Try.ntmps37
    go_wp2_with (go_at_call 56; apply Aside0.out)
    refine ⟨?_⟩
    refine (KR.out _).mono ?_
    rintro e w1 ⟨rfl, hB1⟩
    have KB1 := Aside0.mk (below_then Kal.out Kal.out.size hB1)
    have KW := Aside0.mk ((hB1.block w.heap.size (by simp)).trans (heap_alloc_new w _))
    have hwg : w.heap.size < w1.heap.size := by have := hB1.size; simp at this; omega
    obtain ⟨g, hg⟩ : ∃ g, g = w.heap.size := ⟨_, rfl⟩
    rw [← hg] at KW hwg ⊢
    have Kg := Aside0.mk hg
    clear hB1 hg
    obtain ⟨x0, x1, x2, x3, x4⟩ := bx_cells KW.out
    go_wp2
    go_ret2
    exact ⟨rfl, KB1.out⟩
set_option maxHeartbeats 2000000 in
theorem chunk_sum_p (w : World) (A : Option Addr) (L cc : Nat) (a P s z4 : Int) (p : Bool) (im : List Int) (hL : L = im.length) (hC : Kd.C (Kd.int .u8) w A L im) (hc : L ≤ cc) (him : isB im) (hg : rgt ⟨a, P, s, p, z4⟩ = true) (hl : L ≤ 1000000) (hr : a + 8 + s ≤ (L : Int)) (z : Int) (hz : z = ((Sum.crc 0 (cutx im (a + 8) s) : Nat) : Int)) (hyz : z ≠ z4) : Calls Try.prog 37 #[.slice A L cc, .agg #[.int .i64 a, .int .i64 P, .int .i64 s, .bool p, .int .u32 z4]] w fun e w' => e = .returned (.tuple #[.slice none 0 0, .int .i64 140]) ∧ Below w.heap.size w w' := by
  obtain ⟨r0, r1, r2, r3, r4, -⟩ := (rgt_iff _).1 hg
  simp only at r0 r1 r2 r3 r4
  have KR := Aside0.mk (right_any ⟨a, P, s, p, z4⟩)
  rw [hg] at KR
  have Kal : Aside0 (Below w.heap.size w (w.alloc (.cells #[.int .i64 a, .int .i64 P, .int .i64 s, .bool p, .int .u32 z4] 62))) := ⟨below_alloc (Below.refl _ _) _⟩
  clear hg
  obtain ⟨A', c', hmc, hsl, hCx, hxl⟩ := cut_int A cc L im hL (a + 8) (a + 8 + s) s (by omega) (by omega) rfl hr hc
  have KCx : Aside0 (∀ w1, Below w.heap.size w w1 → Kd.C (Kd.int .u8) w1 A' s.toNat (cutx im (a + 8) s)) := ⟨fun w1 hb => hCx w1 (Kd.C_below hC hb)⟩
  have hix := cutx_isB him (a + 8) s
  have hm1 : s.toNat ≤ 1000000 := by omega
  have KX : Aside0 (∀ w1, Below w.heap.size w w1 → Calls Try.prog 45 #[.pointer none, .slice A' s.toNat c'] w1 fun e w' => e = .returned (.int .u32 z) ∧ w1 = w') := ⟨fun w1 hb => by
    have h := Sum.crc_nil A' c' (cutx im (a + 8) s) w1 (by rw [hxl]; exact KCx.out w1 hb) (by omega) hix
    rw [hxl, ← hz] at h
    exact h⟩
  obtain ⟨Li, hLi⟩ : ∃ x : Int, (L : Int) = x := ⟨_, rfl⟩
  have i1 : Li ≤ 1000000 := by omega
  rw [hLi] at hr
  have i2 : a ≤ 1000000 := by omega
  have hb1 : decide (Li < 8 + s) = false := decide_eq_false (by omega)
  have hb3 : decide (a > Li - 8 - s) = false := decide_eq_false (by omega)
  have i0 : 0 ≤ Li := by omega
  have Kz := Aside0.mk hyz
  clear hz hyz hix hCx hxl hmc him hC hL hc hl hm1 r1 r2 hr
  go_enter Try.func37, Try.ntmps37
  go_wp2_with (go_at_call 56; apply Aside0.out)
  refine ⟨?_⟩
  refine (KR.out _).mono ?_
  rintro e w1 ⟨rfl, hB1⟩
  have KB1 := Aside0.mk (below_then Kal.out Kal.out.size hB1)
  have KW := Aside0.mk ((hB1.block w.heap.size (by simp)).trans (heap_alloc_new w _))
  have hwg : w.heap.size < w1.heap.size := by have := hB1.size; simp at this; omega
  obtain ⟨g, hg⟩ : ∃ g, g = w.heap.size := ⟨_, rfl⟩
  rw [← hg] at KW hwg ⊢
  have Kg := Aside0.mk hg
  clear hB1 hg
  obtain ⟨x0, x1, x2, x3, x4⟩ := bx_cells KW.out
  go_wp2
  refine start_ (n := 5) (S := fun w' => Below g w w' ∧ w'.heap[g]? = some (.cells #[.int .i64 a, .int .i64 P, .int .i64 s, .bool p, .int .u32 z4] 62 (0, 0))) (ds := []) #[false, false, false, false, false] (by kernel_rfl) rfl rfl ⟨(show Below g w w1.drew from below_drew (by rw [Kg.out]; exact KB1.out)), (show w1.drew.heap[g]? = _ from KW.out)⟩ (fun hHeld => ?_)
  refine pure_ (i := 0) (N := some 42) (v := ?_) (a' := ?_) #[true, false, false, false, false] rfl rfl (by kernel_rfl) (fun _ _ _ h => h) (Or.inl ⟨by rfl, ?_⟩) ?_ ?_
  rotate_left
  · intro w'
    go_simp
    with_reducible rfl
  rotate_left
  · simp only [Act.put, List.setIfInBounds_toArray, List.set_cons_zero, List.set_cons_succ, i64_w, i32_w]
    rfl
  refine pure_ (i := 2) (N := some 44) (v := ?_) (a' := ?_) #[true, false, true, false, false] rfl rfl (by kernel_rfl) (fun _ _ _ h => h) (Or.inl ⟨by rfl, ?_⟩) ?_ ?_
  rotate_left
  · intro w'
    go_simp
    with_reducible rfl
  rotate_left
  · simp only [Act.put, List.setIfInBounds_toArray, List.set_cons_zero, List.set_cons_succ, i64_w, i32_w]
    rfl
  refine take_ (i := 3) (N := some 45) (v := .int .u32 z4) (a' := ?_) #[true, false, true, true, false] rfl rfl (by kernel_rfl) (fun _ _ _ h => h) (Or.inl ⟨by rfl, ?_⟩) hHeld ?_ ?_
  · rintro w' ⟨s0, s1⟩
    (have y4 := (bx_cells s1).2.2.2.2)
    go_simp
    (try rfl)
  rotate_left
  · simp only [Act.put, List.setIfInBounds_toArray, List.set_cons_zero, List.set_cons_succ, i64_w, i32_w]
    rfl
  refine one_ (i := 1) (N := some 43) #[true, true, true, true, false] rfl rfl (by kernel_rfl) (by decide) (fun K hK => ?_)
  refine goes_ Try.func45 (by kernel_rfl) rfl #[.pointer none, .slice A' s.toNat c'] (by rfl) rfl rfl (by simp only [List.map_toArray, List.map_cons, List.map_nil]; rfl) ?_
  with_reducible refine (KX.out _ (by rw [← Kg.out]; exact hHeld.1)).mono ?_
  rintro e w9 ⟨rfl, rfl⟩
  refine ⟨_, rfl, ?_⟩
  refine hK.out _ _ ⟨hHeld.1, hHeld.2⟩ (fun hHeld => ?_)
  clear hK K
  refine norm_ (a' := ?_) ?_ ?_
  rotate_left
  · show Act.put _ (some 43) _ = _
    simp only [Act.put, List.setIfInBounds_toArray, List.set_cons_zero, List.set_cons_succ, i64_w, i32_w]
    rfl
  refine pure_ (i := 4) (N := some 46) (v := .bool true) (a' := ?_) #[true, true, true, true, true] rfl rfl (by kernel_rfl) (fun _ _ _ h => h) (Or.inl ⟨by rfl, ?_⟩) ?_ ?_
  · intro w'
    (have hz := Kz.out)
    go_simp
    (try simp [hz])
  rotate_left
  · simp only [Act.put, List.setIfInBounds_toArray, List.set_cons_zero, List.set_cons_succ, i64_w, i32_w]
    rfl
  refine done_ (by kernel_rfl) ?_
  have KB2 : Aside0 (Below w.heap.size w _) := ⟨by rw [← Kg.out]; exact hHeld.1⟩
  obtain ⟨x0, x1, x2, x3, x4⟩ := bx_cells hHeld.2
  clear hHeld
  go_wp2
  go_ret2
  exact ⟨rfl, KB2.out⟩
set_option maxHeartbeats 2000000 in
theorem chunk_form_p (w : World) (A : Option Addr) (L cc : Nat) (a P s z4 : Int) (p : Bool) (im : List Int) (hL : L = im.length) (hC : Kd.C (Kd.int .u8) w A L im) (hc : L ≤ cc) (him : isB im) (hg : rgt ⟨a, P, s, p, z4⟩ = true) (hl : L ≤ 1000000) (hr : a + 8 + s ≤ (L : Int)) (z : Int) (hz : z = ((Sum.crc 0 (cutx im (a + 8) s) : Nat) : Int)) (U : List Int) (ue : Int) (hu0 : unp (cutx im (a + 8) s) p P = (U, ue)) (hyz : z = z4) (hu : ue ≠ 0 ∨ (U.length : Int) ≠ P) : Calls Try.prog 37 #[.slice A L cc, .agg #[.int .i64 a, .int .i64 P, .int .i64 s, .bool p, .int .u32 z4]] w fun e w' => e = .returned (.tuple #[.slice none 0 0, .int .i64 6]) ∧ Below w.heap.size w w' := by
  obtain ⟨r0, r1, r2, r3, r4, -⟩ := (rgt_iff _).1 hg
  simp only at r0 r1 r2 r3 r4
  have KR := Aside0.mk (right_any ⟨a, P, s, p, z4⟩)
  rw [hg] at KR
  have Kal : Aside0 (Below w.heap.size w (w.alloc (.cells #[.int .i64 a, .int .i64 P, .int .i64 s, .bool p, .int .u32 z4] 62))) := ⟨below_alloc (Below.refl _ _) _⟩
  clear hg
  obtain ⟨A', c', hmc, hsl, hCx, hxl⟩ := cut_int A cc L im hL (a + 8) (a + 8 + s) s (by omega) (by omega) rfl hr hc
  have KCx : Aside0 (∀ w1, Below w.heap.size w w1 → Kd.C (Kd.int .u8) w1 A' s.toNat (cutx im (a + 8) s)) := ⟨fun w1 hb => hCx w1 (Kd.C_below hC hb)⟩
  have hix := cutx_isB him (a + 8) s
  have hm1 : s.toNat ≤ 1000000 := by omega
  have KX : Aside0 (∀ w1, Below w.heap.size w w1 → Calls Try.prog 45 #[.pointer none, .slice A' s.toNat c'] w1 fun e w' => e = .returned (.int .u32 z) ∧ w1 = w') := ⟨fun w1 hb => by
    have h := Sum.crc_nil A' c' (cutx im (a + 8) s) w1 (by rw [hxl]; exact KCx.out w1 hb) (by omega) hix
    rw [hxl, ← hz] at h
    exact h⟩
  have KU : Aside0 (∀ w1, Below w.heap.size w w1 → Calls Try.prog 46 #[.slice A' s.toNat c', .bool p, .int .i64 P] w1 fun e w' => ∃ v, e = .returned (.tuple #[v, .int .i64 ue]) ∧ Row.OwnB w' w1.heap.size v U ∧ Below w1.heap.size w1 w') := ⟨fun w1 hb => by
    have h := unpack_any w1 (cutx im (a + 8) s) A' c' p P (by rw [hxl]; exact KCx.out w1 hb) (by rw [hxl]; exact hmc) hix (by rw [hxl]; exact hm1)
    rw [hxl, hu0] at h
    exact h⟩
  obtain ⟨Li, hLi⟩ : ∃ x : Int, (L : Int) = x := ⟨_, rfl⟩
  have i1 : Li ≤ 1000000 := by omega
  rw [hLi] at hr
  have i2 : a ≤ 1000000 := by omega
  have hb1 : decide (Li < 8 + s) = false := decide_eq_false (by omega)
  have hb3 : decide (a > Li - 8 - s) = false := decide_eq_false (by omega)
  have i0 : 0 ≤ Li := by omega
  have Kz := Aside0.mk hyz
  clear hz hyz hix hCx hxl hmc him hC hL hc hl hm1 r1 r2 hr hu0
  go_enter Try.func37, Try.ntmps37
  go_wp2_with (go_at_call 56; apply Aside0.out)
  refine ⟨?_⟩
  refine (KR.out _).mono ?_
  rintro e w1 ⟨rfl, hB1⟩
  have KB1 := Aside0.mk (below_then Kal.out Kal.out.size hB1)
  have KW := Aside0.mk ((hB1.block w.heap.size (by simp)).trans (heap_alloc_new w _))
  have hwg : w.heap.size < w1.heap.size := by have := hB1.size; simp at this; omega
  obtain ⟨g, hg⟩ : ∃ g, g = w.heap.size := ⟨_, rfl⟩
  rw [← hg] at KW hwg ⊢
  have Kg := Aside0.mk hg
  clear hB1 hg
  obtain ⟨x0, x1, x2, x3, x4⟩ := bx_cells KW.out
  go_wp2
  refine start_ (n := 5) (S := fun w' => Below g w w' ∧ w'.heap[g]? = some (.cells #[.int .i64 a, .int .i64 P, .int .i64 s, .bool p, .int .u32 z4] 62 (0, 0))) (ds := []) #[false, false, false, false, false] (by kernel_rfl) rfl rfl ⟨(show Below g w w1.drew from below_drew (by rw [Kg.out]; exact KB1.out)), (show w1.drew.heap[g]? = _ from KW.out)⟩ (fun hHeld => ?_)
  refine pure_ (i := 0) (N := some 42) (v := ?_) (a' := ?_) #[true, false, false, false, false] rfl rfl (by kernel_rfl) (fun _ _ _ h => h) (Or.inl ⟨by rfl, ?_⟩) ?_ ?_
  rotate_left
  · intro w'
    go_simp
    with_reducible rfl
  rotate_left
  · simp only [Act.put, List.setIfInBounds_toArray, List.set_cons_zero, List.set_cons_succ, i64_w, i32_w]
    rfl
  refine pure_ (i := 2) (N := some 44) (v := ?_) (a' := ?_) #[true, false, true, false, false] rfl rfl (by kernel_rfl) (fun _ _ _ h => h) (Or.inl ⟨by rfl, ?_⟩) ?_ ?_
  rotate_left
  · intro w'
    go_simp
    with_reducible rfl
  rotate_left
  · simp only [Act.put, List.setIfInBounds_toArray, List.set_cons_zero, List.set_cons_succ, i64_w, i32_w]
    rfl
  refine take_ (i := 3) (N := some 45) (v := .int .u32 z4) (a' := ?_) #[true, false, true, true, false] rfl rfl (by kernel_rfl) (fun _ _ _ h => h) (Or.inl ⟨by rfl, ?_⟩) hHeld ?_ ?_
  · rintro w' ⟨s0, s1⟩
    (have y4 := (bx_cells s1).2.2.2.2)
    go_simp
    (try rfl)
  rotate_left
  · simp only [Act.put, List.setIfInBounds_toArray, List.set_cons_zero, List.set_cons_succ, i64_w, i32_w]
    rfl
  refine one_ (i := 1) (N := some 43) #[true, true, true, true, false] rfl rfl (by kernel_rfl) (by decide) (fun K hK => ?_)
  refine goes_ Try.func45 (by kernel_rfl) rfl #[.pointer none, .slice A' s.toNat c'] (by rfl) rfl rfl (by simp only [List.map_toArray, List.map_cons, List.map_nil]; rfl) ?_
  with_reducible refine (KX.out _ (by rw [← Kg.out]; exact hHeld.1)).mono ?_
  rintro e w9 ⟨rfl, rfl⟩
  refine ⟨_, rfl, ?_⟩
  refine hK.out _ _ ⟨hHeld.1, hHeld.2⟩ (fun hHeld => ?_)
  clear hK K
  refine norm_ (a' := ?_) ?_ ?_
  rotate_left
  · show Act.put _ (some 43) _ = _
    simp only [Act.put, List.setIfInBounds_toArray, List.set_cons_zero, List.set_cons_succ, i64_w, i32_w]
    rfl
  refine pure_ (i := 4) (N := some 46) (v := .bool false) (a' := ?_) #[true, true, true, true, true] rfl rfl (by kernel_rfl) (fun _ _ _ h => h) (Or.inl ⟨by rfl, ?_⟩) ?_ ?_
  · intro w'
    (have hz := Kz.out)
    go_simp
    (try simp [hz])
  rotate_left
  · simp only [Act.put, List.setIfInBounds_toArray, List.set_cons_zero, List.set_cons_succ, i64_w, i32_w]
    rfl
  refine done_ (by kernel_rfl) ?_
  have KB2 : Aside0 (Below w.heap.size w _) := ⟨by rw [← Kg.out]; exact hHeld.1⟩
  have KW2 := Aside0.mk hHeld.2
  obtain ⟨x0, x1, x2, x3, x4⟩ := bx_cells hHeld.2
  have hwg2 := (Array.getElem?_eq_some_iff.1 hHeld.2).1
  clear hHeld
  go_wp2_with (go_at_call 46; apply Aside0.out)
  refine ⟨?_⟩
  refine (KU.out _ KB2.out).mono ?_
  rintro e w3 ⟨v, rfl, hO, hB3⟩
  have KB3 := Aside0.mk (below_then KB2.out KB2.out.size hB3)
  have KO := Aside0.mk (hO.lower KB2.out.size)
  obtain ⟨A5, c5, rfl, -, -⟩ := hO.slice
  obtain ⟨y0, y1, y2, y3, y4⟩ := bx_cells ((hB3.block g hwg2).trans KW2.out)
  clear hB3 hO x0 x1 x2 x3 x4
  by_cases hue : ue = 0
  · subst hue
    have hq : ((U.length : Int) != P) = true := by
      rcases hu with hu | hu
      · exact absurd rfl hu
      · simp [hu]
    clear hu
    go_wp2
    go_ret2
    exact ⟨rfl, KB3.out⟩
  · have hq : (ue != 0) = true := by simp [hue]
    clear hu
    go_wp2
    go_ret2
    exact ⟨rfl, KB3.out⟩
set_option maxHeartbeats 2000000 in
theorem chunk_ok_p (w : World) (A : Option Addr) (L cc : Nat) (a P s z4 : Int) (p : Bool) (im : List Int) (hL : L = im.length) (hC : Kd.C (Kd.int .u8) w A L im) (hc : L ≤ cc) (him : isB im) (hg : rgt ⟨a, P, s, p, z4⟩ = true) (hl : L ≤ 1000000) (hr : a + 8 + s ≤ (L : Int)) (z : Int) (hz : z = ((Sum.crc 0 (cutx im (a + 8) s) : Nat) : Int)) (U : List Int) (ue : Int) (hu0 : unp (cutx im (a + 8) s) p P = (U, ue)) (hyz : z = z4) (hu : ue = 0) (hul : (U.length : Int) = P) : Calls Try.prog 37 #[.slice A L cc, .agg #[.int .i64 a, .int .i64 P, .int .i64 s, .bool p, .int .u32 z4]] w fun e w' => ∃ v, e = .returned (.tuple #[v, .int .i64 0]) ∧ Row.OwnB w' w.heap.size v U ∧ Below w.heap.size w w' := by
  obtain ⟨r0, r1, r2, r3, r4, -⟩ := (rgt_iff _).1 hg
  simp only at r0 r1 r2 r3 r4
  have KR := Aside0.mk (right_any ⟨a, P, s, p, z4⟩)
  rw [hg] at KR
  have Kal : Aside0 (Below w.heap.size w (w.alloc (.cells #[.int .i64 a, .int .i64 P, .int .i64 s, .bool p, .int .u32 z4] 62))) := ⟨below_alloc (Below.refl _ _) _⟩
  clear hg
  obtain ⟨A', c', hmc, hsl, hCx, hxl⟩ := cut_int A cc L im hL (a + 8) (a + 8 + s) s (by omega) (by omega) rfl hr hc
  have KCx : Aside0 (∀ w1, Below w.heap.size w w1 → Kd.C (Kd.int .u8) w1 A' s.toNat (cutx im (a + 8) s)) := ⟨fun w1 hb => hCx w1 (Kd.C_below hC hb)⟩
  have hix := cutx_isB him (a + 8) s
  have hm1 : s.toNat ≤ 1000000 := by omega
  have KX : Aside0 (∀ w1, Below w.heap.size w w1 → Calls Try.prog 45 #[.pointer none, .slice A' s.toNat c'] w1 fun e w' => e = .returned (.int .u32 z) ∧ w1 = w') := ⟨fun w1 hb => by
    have h := Sum.crc_nil A' c' (cutx im (a + 8) s) w1 (by rw [hxl]; exact KCx.out w1 hb) (by omega) hix
    rw [hxl, ← hz] at h
    exact h⟩
  have KU : Aside0 (∀ w1, Below w.heap.size w w1 → Calls Try.prog 46 #[.slice A' s.toNat c', .bool p, .int .i64 P] w1 fun e w' => ∃ v, e = .returned (.tuple #[v, .int .i64 ue]) ∧ Row.OwnB w' w1.heap.size v U ∧ Below w1.heap.size w1 w') := ⟨fun w1 hb => by
    have h := unpack_any w1 (cutx im (a + 8) s) A' c' p P (by rw [hxl]; exact KCx.out w1 hb) (by rw [hxl]; exact hmc) hix (by rw [hxl]; exact hm1)
    rw [hxl, hu0] at h
    exact h⟩
  obtain ⟨Li, hLi⟩ : ∃ x : Int, (L : Int) = x := ⟨_, rfl⟩
  have i1 : Li ≤ 1000000 := by omega
  rw [hLi] at hr
  have i2 : a ≤ 1000000 := by omega
  have hb1 : decide (Li < 8 + s) = false := decide_eq_false (by omega)
  have hb3 : decide (a > Li - 8 - s) = false := decide_eq_false (by omega)
  have i0 : 0 ≤ Li := by omega
  have Kz := Aside0.mk hyz
  clear hz hyz hix hCx hxl hmc him hC hL hc hl hm1 r1 r2 hr hu0
  go_enter Try.func37, Try.ntmps37
  go_wp2_with (go_at_call 56; apply Aside0.out)
  refine ⟨?_⟩
  refine (KR.out _).mono ?_
  rintro e w1 ⟨rfl, hB1⟩
  have KB1 := Aside0.mk (below_then Kal.out Kal.out.size hB1)
  have KW := Aside0.mk ((hB1.block w.heap.size (by simp)).trans (heap_alloc_new w _))
  have hwg : w.heap.size < w1.heap.size := by have := hB1.size; simp at this; omega
  obtain ⟨g, hg⟩ : ∃ g, g = w.heap.size := ⟨_, rfl⟩
  rw [← hg] at KW hwg ⊢
  have Kg := Aside0.mk hg
  clear hB1 hg
  obtain ⟨x0, x1, x2, x3, x4⟩ := bx_cells KW.out
  go_wp2
  refine start_ (n := 5) (S := fun w' => Below g w w' ∧ w'.heap[g]? = some (.cells #[.int .i64 a, .int .i64 P, .int .i64 s, .bool p, .int .u32 z4] 62 (0, 0))) (ds := []) #[false, false, false, false, false] (by kernel_rfl) rfl rfl ⟨(show Below g w w1.drew from below_drew (by rw [Kg.out]; exact KB1.out)), (show w1.drew.heap[g]? = _ from KW.out)⟩ (fun hHeld => ?_)
  refine pure_ (i := 0) (N := some 42) (v := ?_) (a' := ?_) #[true, false, false, false, false] rfl rfl (by kernel_rfl) (fun _ _ _ h => h) (Or.inl ⟨by rfl, ?_⟩) ?_ ?_
  rotate_left
  · intro w'
    go_simp
    with_reducible rfl
  rotate_left
  · simp only [Act.put, List.setIfInBounds_toArray, List.set_cons_zero, List.set_cons_succ, i64_w, i32_w]
    rfl
  refine pure_ (i := 2) (N := some 44) (v := ?_) (a' := ?_) #[true, false, true, false, false] rfl rfl (by kernel_rfl) (fun _ _ _ h => h) (Or.inl ⟨by rfl, ?_⟩) ?_ ?_
  rotate_left
  · intro w'
    go_simp
    with_reducible rfl
  rotate_left
  · simp only [Act.put, List.setIfInBounds_toArray, List.set_cons_zero, List.set_cons_succ, i64_w, i32_w]
    rfl
  refine take_ (i := 3) (N := some 45) (v := .int .u32 z4) (a' := ?_) #[true, false, true, true, false] rfl rfl (by kernel_rfl) (fun _ _ _ h => h) (Or.inl ⟨by rfl, ?_⟩) hHeld ?_ ?_
  · rintro w' ⟨s0, s1⟩
    (have y4 := (bx_cells s1).2.2.2.2)
    go_simp
    (try rfl)
  rotate_left
  · simp only [Act.put, List.setIfInBounds_toArray, List.set_cons_zero, List.set_cons_succ, i64_w, i32_w]
    rfl
  refine one_ (i := 1) (N := some 43) #[true, true, true, true, false] rfl rfl (by kernel_rfl) (by decide) (fun K hK => ?_)
  refine goes_ Try.func45 (by kernel_rfl) rfl #[.pointer none, .slice A' s.toNat c'] (by rfl) rfl rfl (by simp only [List.map_toArray, List.map_cons, List.map_nil]; rfl) ?_
  with_reducible refine (KX.out _ (by rw [← Kg.out]; exact hHeld.1)).mono ?_
  rintro e w9 ⟨rfl, rfl⟩
  refine ⟨_, rfl, ?_⟩
  refine hK.out _ _ ⟨hHeld.1, hHeld.2⟩ (fun hHeld => ?_)
  clear hK K
  refine norm_ (a' := ?_) ?_ ?_
  rotate_left
  · show Act.put _ (some 43) _ = _
    simp only [Act.put, List.setIfInBounds_toArray, List.set_cons_zero, List.set_cons_succ, i64_w, i32_w]
    rfl
  refine pure_ (i := 4) (N := some 46) (v := .bool false) (a' := ?_) #[true, true, true, true, true] rfl rfl (by kernel_rfl) (fun _ _ _ h => h) (Or.inl ⟨by rfl, ?_⟩) ?_ ?_
  · intro w'
    (have hz := Kz.out)
    go_simp
    (try simp [hz])
  rotate_left
  · simp only [Act.put, List.setIfInBounds_toArray, List.set_cons_zero, List.set_cons_succ, i64_w, i32_w]
    rfl
  refine done_ (by kernel_rfl) ?_
  have KB2 : Aside0 (Below w.heap.size w _) := ⟨by rw [← Kg.out]; exact hHeld.1⟩
  have KW2 := Aside0.mk hHeld.2
  obtain ⟨x0, x1, x2, x3, x4⟩ := bx_cells hHeld.2
  have hwg2 := (Array.getElem?_eq_some_iff.1 hHeld.2).1
  clear hHeld
  go_wp2_with (go_at_call 46; apply Aside0.out)
  refine ⟨?_⟩
  refine (KU.out _ KB2.out).mono ?_
  rintro e w3 ⟨v, rfl, hO, hB3⟩
  have KB3 := Aside0.mk (below_then KB2.out KB2.out.size hB3)
  have KO := Aside0.mk (hO.lower KB2.out.size)
  obtain ⟨A5, c5, rfl, -, -⟩ := hO.slice
  obtain ⟨y0, y1, y2, y3, y4⟩ := bx_cells ((hB3.block g hwg2).trans KW2.out)
  clear hB3 hO x0 x1 x2 x3 x4
  subst hu
  have hq : ((U.length : Int) != P) = false := by simp [hul]
  clear hul
  go_wp2
  go_ret2
  exact ⟨_, rfl, KO.out, KB3.out⟩
theorem chunk_any (w : World) (im : List Int) (A : Option Addr) (cc : Nat) (c : Ck) (hC : Kd.C (Kd.int .u8) w A im.length im) (hc : im.length ≤ cc) (him : isB im) (hl : im.length ≤ 1000000) (ha : c.f0 ≤ 9223372036854775807) :
    Calls Try.prog 37 #[.slice A im.length cc, .agg (bx c)] w fun e w' => ∃ v, e = .returned (.tuple #[v, .int .i64 (chunk im c).2]) ∧ Row.OwnB w' w.heap.size v (chunk im c).1 ∧ Below w.heap.size w w' := by
  obtain ⟨a, P, s, p, z4⟩ := c
  unfold bx chunk
  simp only at ha ⊢
  cases hg : rgt ⟨a, P, s, p, z4⟩ with
  | false =>
    rw [if_pos rfl]
    refine (chunk_arg_p w A _ cc a P s z4 p hg).mono ?_
    rintro e w' ⟨rfl, hB⟩
    exact ⟨_, rfl, Row.OwnB.nil _ _, hB⟩
  | true =>
    rw [if_neg (by decide)]
    by_cases p1 : (im.length : Int) < a + 8 + s
    · rw [if_pos p1]
      refine (chunk_range_p w A _ cc a P s z4 p hg hl ha p1).mono ?_
      rintro e w' ⟨rfl, hB⟩
      exact ⟨_, rfl, Row.OwnB.nil _ _, hB⟩
    rw [if_neg p1]
    by_cases p2 : ((Sum.crc 0 (cutx im (a + 8) s) : Nat) : Int) ≠ z4
    · rw [if_pos p2]
      refine (chunk_sum_p w A _ cc a P s z4 p im rfl hC hc him hg hl (by omega) _ rfl p2).mono ?_
      rintro e w' ⟨rfl, hB⟩
      exact ⟨_, rfl, Row.OwnB.nil _ _, hB⟩
    rw [if_neg p2]
    have p2 := Classical.byContradiction p2
    obtain ⟨U, ue, hu⟩ : ∃ U ue, unp (cutx im (a + 8) s) p P = (U, ue) := ⟨_, _, rfl⟩
    rw [hu]
    simp only
    by_cases p3 : ue ≠ 0 ∨ (U.length : Int) ≠ P
    · rw [if_pos p3]
      refine (chunk_form_p w A _ cc a P s z4 p im rfl hC hc him hg hl (by omega) _ rfl U ue hu p2 p3).mono ?_
      rintro e w' ⟨rfl, hB⟩
      exact ⟨_, rfl, Row.OwnB.nil _ _, hB⟩
    rw [if_neg p3]
    have q1 : ue = 0 := Classical.byContradiction fun h => p3 (Or.inl h)
    have q2 : (U.length : Int) = P := Classical.byContradiction fun h => p3 (Or.inr h)
    exact chunk_ok_p w A _ cc a P s z4 p im rfl hC hc him hg hl (by omega) _ rfl U ue hu p2 q1 q2
theorem chunk_arg_r (w : World) (A : Option Addr) (L cc : Nat) (a P s z4 : Int) (p : Bool) (hg : rgt ⟨a, P, s, p, z4⟩ = false) : Calls Try.prog 38 #[.slice A L cc, .agg #[.int .i64 a, .int .i64 P, .int .i64 s, .bool p, .int .u32 z4]] w fun e w' => e = .returned (.tuple #[.slice none 0 0, .int .i64 1]) ∧ Below w.heap.size w w' := by
  have KR := Aside0.mk (rright_any ⟨a, P, s, p, z4⟩)
  rw [hg] at KR
  have Kal : Aside0 (Below w.heap.size w (w.alloc (.cells #[.int .i64 a, .int .i64 P, .int .i64 s, .bool p, .int .u32 z4] 62))) := ⟨below_alloc (Below.refl _ _) _⟩
  clear hg
  go_enter Try.func38, Try.ntmps38
  go_wp2_with (go_at_call 53; apply Aside0.out)
  refine ⟨?_⟩
  refine (KR.out _).mono ?_
  rintro e w1 ⟨rfl, hB1⟩
  have KB1 := Aside0.mk (below_then Kal.out Kal.out.size hB1)
  have KW := Aside0.mk ((hB1.block w.heap.size (by simp)).trans (heap_alloc_new w _))
  have hwg : w.heap.size < w1.heap.size := by have := hB1.size; simp at this; omega
  obtain ⟨g, hg⟩ : ∃ g, g = w.heap.size := ⟨_, rfl⟩
  rw [← hg] at KW hwg ⊢
  have Kg := Aside0.mk hg
  clear hB1 hg
  obtain ⟨x0, x1, x2, x3, x4⟩ := bx_cells KW.out
  go_wp2
  go_ret2
  exact ⟨rfl, KB1.out⟩
set_option maxHeartbeats 1000000 in
theorem chunk_range_r (w : World) (A : Option Addr) (L cc : Nat) (a P s z4 : Int) (p : Bool) (hg : rgt ⟨a, P, s, p, z4⟩ = true) (hl : L ≤ 1000000) (ha : a ≤ 9223372036854775807) (hr : (L : Int) < a + 8 + s) : Calls Try.prog 38 #[.slice A L cc, .agg #[.int .i64 a, .int .i64 P, .int .i64 s, .bool p, .int .u32 z4]] w fun e w' => e = .returned (.tuple #[.slice none 0 0, .int .i64 9]) ∧ Below w.heap.size w w' := by
  obtain ⟨r0, r1, r2, r3, r4, -⟩ := (rgt_iff _).1 hg
  simp only at r0 r1 r2 r3 r4
  have KR := Aside0.mk (rright_any ⟨a, P, s, p, z4⟩)
  rw [hg] at KR
  have Kal : Aside0 (Below w.heap.size w (w.alloc (.cells #[.int .i64 a, .int .i64 P, .int .i64 s, .bool p, .int .u32 z4] 62))) := ⟨below_alloc (Below.refl _ _) _⟩
  clear hg
  obtain ⟨Li, hLi⟩ : ∃ x : Int, (L : Int) = x := ⟨_, rfl⟩
  have i0 : 0 ≤ Li := by omega
  have i1 : Li ≤ 1000000 := by omega
  rw [hLi] at hr
  have i2 : 0 ≤ 8 + s := by omega
  cases hb1 : decide (a > Li) with
  | true =>
    clear r1 r2 hr ha hl
    go_enter Try.func38, Try.ntmps38
    go_wp2_with (go_at_call 53; apply Aside0.out)
    refine ⟨?_⟩
    refine (KR.out _).mono ?_
    rintro e w1 ⟨rfl, hB1⟩
    have KB1 := Aside0.mk (below_then Kal.out Kal.out.size hB1)
    have KW := Aside0.mk ((hB1.block w.heap.size (by simp)).trans (heap_alloc_new w _))
    have hwg : w.heap.size < w1.heap.size := by have := hB1.size; simp at this; omega
    obtain ⟨g, hg⟩ : ∃ g, g = w.heap.size := ⟨_, rfl⟩
    rw [← hg] at KW hwg ⊢
    have Kg := Aside0.mk hg
    clear hB1 hg
    obtain ⟨x0, x1, x2, x3, x4⟩ := bx_cells KW.out
    go_wp2
    go_ret2
    exact ⟨rfl, KB1.out⟩
  | false =>
    have hal : a ≤ Li := by have := of_decide_eq_false hb1; omega
    have hb3 : decide (8 + s > Li - a) = true := decide_eq_true (by omega)
    clear r1 r2 hr ha hl
    go_enter Try.func38, Try.ntmps38
    go_wp2_with (go_at_call 53; apply Aside0.out)
    refine ⟨?_⟩
    refine (KR.out _).mono ?_
    rintro e w1 ⟨rfl, hB1⟩
    have KB1 := Aside0.mk (below_then Kal.out Kal.out.size hB1)
    have KW := Aside0.mk ((hB1.block w.heap.size (by simp)).trans (heap_alloc_new w _))
    have hwg : w.heap.size < w1.heap.size := by have := hB1.size; simp at this; omega
    obtain ⟨g, hg⟩ : ∃ g, g = w.heap.size := ⟨_, rfl⟩
    rw [← hg] at KW hwg ⊢
    have Kg := Aside0.mk hg
    clear hB1 hg
    obtain ⟨x0, x1, x2, x3, x4⟩ := bx_cells KW.out
    go_wp2
    go_ret2
    exact ⟨rfl, KB1.out⟩
set_option maxHeartbeats 2000000 in
theorem chunk_sum_r (w : World) (A : Option Addr) (L cc : Nat) (a P s z4 : Int) (p : Bool) (im : List Int) (hL : L = im.length) (hC : Kd.C (Kd.int .u8) w A L im) (hc : L ≤ cc) (him : isB im) (hg : rgt ⟨a, P, s, p, z4⟩ = true) (hl : L ≤ 1000000) (hr : a + 8 + s ≤ (L : Int)) (z : Int) (hz : z = ((Sum.crc 0 (cutx im (a + 8) s) : Nat) : Int)) (hyz : z ≠ z4) : Calls Try.prog 38 #[.slice A L cc, .agg #[.int .i64 a, .int .i64 P, .int .i64 s, .bool p, .int .u32 z4]] w fun e w' => e = .returned (.tuple #[.slice none 0 0, .int .i64 140]) ∧ Below w.heap.size w w' := by
  obtain ⟨r0, r1, r2, r3, r4, -⟩ := (rgt_iff _).1 hg
  simp only at r0 r1 r2 r3 r4
  have KR := Aside0.mk (rright_any ⟨a, P, s, p, z4⟩)
  rw [hg] at KR
  have Kal : Aside0 (Below w.heap.size w (w.alloc (.cells #[.int .i64 a, .int .i64 P, .int .i64 s, .bool p, .int .u32 z4] 62))) := ⟨below_alloc (Below.refl _ _) _⟩
  clear hg
  obtain ⟨A', c', hmc, hsl, hCx, hxl⟩ := cut_int A cc L im hL (a + 8) (a + 8 + s) s (by omega) (by omega) rfl hr hc
  have KCx : Aside0 (∀ w1, Below w.heap.size w w1 → Kd.C (Kd.int .u8) w1 A' s.toNat (cutx im (a + 8) s)) := ⟨fun w1 hb => hCx w1 (Kd.C_below hC hb)⟩
  have hix := cutx_isB him (a + 8) s
  have hm1 : s.toNat ≤ 1000000 := by omega
  have KX : Aside0 (∀ w1, Below w.heap.size w w1 → Calls Try.prog 42 #[.int .u32 0, .slice A' s.toNat c'] w1 fun e w' => e = .returned (.int .u32 z) ∧ w1 = w') := ⟨fun w1 hb => by
    have h := Sum.refCrc_any 0 (by decide) A' c' (cutx im (a + 8) s) w1 (by rw [hxl]; exact KCx.out w1 hb) (by omega) hix
    rw [hxl, ← hz] at h
    exact h⟩
  obtain ⟨Li, hLi⟩ : ∃ x : Int, (L : Int) = x := ⟨_, rfl⟩
  have i1 : Li ≤ 1000000 := by omega
  rw [hLi] at hr
  have i2 : a ≤ 1000000 := by omega
  have hb1 : decide (a > Li) = false := decide_eq_false (by omega)
  have hb3 : decide (8 + s > Li - a) = false := decide_eq_false (by omega)
  have i0 : 0 ≤ Li := by omega
  have Kz := Aside0.mk hyz
  clear hz hyz hix hCx hxl hmc him hC hL hc hl hm1 r1 r2 hr
  go_enter Try.func38, Try.ntmps38
  go_wp2_with (go_at_call 53; apply Aside0.out)
  refine ⟨?_⟩
  refine (KR.out _).mono ?_
  rintro e w1 ⟨rfl, hB1⟩
  have KB1 := Aside0.mk (below_then Kal.out Kal.out.size hB1)
  have KW := Aside0.mk ((hB1.block w.heap.size (by simp)).trans (heap_alloc_new w _))
  have hwg : w.heap.size < w1.heap.size := by have := hB1.size; simp at this; omega
  obtain ⟨g, hg⟩ : ∃ g, g = w.heap.size := ⟨_, rfl⟩
  rw [← hg] at KW hwg ⊢
  have Kg := Aside0.mk hg
  clear hB1 hg
  obtain ⟨x0, x1, x2, x3, x4⟩ := bx_cells KW.out
  go_wp2
  refine start_ (n := 5) (S := fun w' => Below g w w' ∧ w'.heap[g]? = some (.cells #[.int .i64 a, .int .i64 P, .int .i64 s, .bool p, .int .u32 z4] 62 (0, 0))) (ds := []) #[false, false, false, false, false] (by kernel_rfl) rfl rfl ⟨(show Below g w w1.drew from below_drew (by rw [Kg.out]; exact KB1.out)), (show w1.drew.heap[g]? = _ from KW.out)⟩ (fun hHeld => ?_)
  refine pure_ (i := 0) (N := some 39) (v := ?_) (a' := ?_) #[true, false, false, false, false] rfl rfl (by kernel_rfl) (fun _ _ _ h => h) (Or.inl ⟨by rfl, ?_⟩) ?_ ?_
  rotate_left
  · intro w'
    go_simp
    with_reducible rfl
  rotate_left
  · simp only [Act.put, List.setIfInBounds_toArray, List.set_cons_zero, List.set_cons_succ, i64_w, i32_w]
    rfl
  refine pure_ (i := 2) (N := some 41) (v := ?_) (a' := ?_) #[true, false, true, false, false] rfl rfl (by kernel_rfl) (fun _ _ _ h => h) (Or.inl ⟨by rfl, ?_⟩) ?_ ?_
  rotate_left
  · intro w'
    go_simp
    with_reducible rfl
  rotate_left
  · simp only [Act.put, List.setIfInBounds_toArray, List.set_cons_zero, List.set_cons_succ, i64_w, i32_w]
    rfl
  refine take_ (i := 3) (N := some 42) (v := .int .u32 z4) (a' := ?_) #[true, false, true, true, false] rfl rfl (by kernel_rfl) (fun _ _ _ h => h) (Or.inl ⟨by rfl, ?_⟩) hHeld ?_ ?_
  · rintro w' ⟨s0, s1⟩
    (have y4 := (bx_cells s1).2.2.2.2)
    go_simp
    (try rfl)
  rotate_left
  · simp only [Act.put, List.setIfInBounds_toArray, List.set_cons_zero, List.set_cons_succ, i64_w, i32_w]
    rfl
  refine one_ (i := 1) (N := some 40) #[true, true, true, true, false] rfl rfl (by kernel_rfl) (by decide) (fun K hK => ?_)
  refine goes_ Try.func42 (by kernel_rfl) rfl #[.int .u32 0, .slice A' s.toNat c'] (by rfl) rfl rfl (by simp only [List.map_toArray, List.map_cons, List.map_nil]; rfl) ?_
  with_reducible refine (KX.out _ (by rw [← Kg.out]; exact hHeld.1)).mono ?_
  rintro e w9 ⟨rfl, rfl⟩
  refine ⟨_, rfl, ?_⟩
  refine hK.out _ _ ⟨hHeld.1, hHeld.2⟩ (fun hHeld => ?_)
  clear hK K
  refine norm_ (a' := ?_) ?_ ?_
  rotate_left
  · show Act.put _ (some 40) _ = _
    simp only [Act.put, List.setIfInBounds_toArray, List.set_cons_zero, List.set_cons_succ, i64_w, i32_w]
    rfl
  refine pure_ (i := 4) (N := some 43) (v := .bool true) (a' := ?_) #[true, true, true, true, true] rfl rfl (by kernel_rfl) (fun _ _ _ h => h) (Or.inl ⟨by rfl, ?_⟩) ?_ ?_
  · intro w'
    (have hz := Kz.out)
    go_simp
    (try simp [hz])
  rotate_left
  · simp only [Act.put, List.setIfInBounds_toArray, List.set_cons_zero, List.set_cons_succ, i64_w, i32_w]
    rfl
  refine done_ (by kernel_rfl) ?_
  have KB2 : Aside0 (Below w.heap.size w _) := ⟨by rw [← Kg.out]; exact hHeld.1⟩
  obtain ⟨x0, x1, x2, x3, x4⟩ := bx_cells hHeld.2
  clear hHeld
  go_wp2
  go_ret2
  exact ⟨rfl, KB2.out⟩
set_option maxHeartbeats 2000000 in
theorem chunk_form_r (w : World) (A : Option Addr) (L cc : Nat) (a P s z4 : Int) (p : Bool) (im : List Int) (hL : L = im.length) (hC : Kd.C (Kd.int .u8) w A L im) (hc : L ≤ cc) (him : isB im) (hg : rgt ⟨a, P, s, p, z4⟩ = true) (hl : L ≤ 1000000) (hr : a + 8 + s ≤ (L : Int)) (z : Int) (hz : z = ((Sum.crc 0 (cutx im (a + 8) s) : Nat) : Int)) (U : List Int) (ue : Int) (hu0 : unp (cutx im (a + 8) s) p P = (U, ue)) (hyz : z = z4) (hu : ue ≠ 0 ∨ (U.length : Int) ≠ P) : Calls Try.prog 38 #[.slice A L cc, .agg #[.int .i64 a, .int .i64 P, .int .i64 s, .bool p, .int .u32 z4]] w fun e w' => e = .returned (.tuple #[.slice none 0 0, .int .i64 6]) ∧ Below w.heap.size w w' := by
  obtain ⟨r0, r1, r2, r3, r4, -⟩ := (rgt_iff _).1 hg
  simp only at r0 r1 r2 r3 r4
  have KR := Aside0.mk (rright_any ⟨a, P, s, p, z4⟩)
  rw [hg] at KR
  have Kal : Aside0 (Below w.heap.size w (w.alloc (.cells #[.int .i64 a, .int .i64 P, .int .i64 s, .bool p, .int .u32 z4] 62))) := ⟨below_alloc (Below.refl _ _) _⟩
  clear hg
  obtain ⟨A', c', hmc, hsl, hCx, hxl⟩ := cut_int A cc L im hL (a + 8) (a + 8 + s) s (by omega) (by omega) rfl hr hc
  have KCx : Aside0 (∀ w1, Below w.heap.size w w1 → Kd.C (Kd.int .u8) w1 A' s.toNat (cutx im (a + 8) s)) := ⟨fun w1 hb => hCx w1 (Kd.C_below hC hb)⟩
  have hix := cutx_isB him (a + 8) s
  have hm1 : s.toNat ≤ 1000000 := by omega
  have KX : Aside0 (∀ w1, Below w.heap.size w w1 → Calls Try.prog 42 #[.int .u32 0, .slice A' s.toNat c'] w1 fun e w' => e = .returned (.int .u32 z) ∧ w1 = w') := ⟨fun w1 hb => by
    have h := Sum.refCrc_any 0 (by decide) A' c' (cutx im (a + 8) s) w1 (by rw [hxl]; exact KCx.out w1 hb) (by omega) hix
    rw [hxl, ← hz] at h
    exact h⟩
  have KU : Aside0 (∀ w1, Below w.heap.size w w1 → Calls Try.prog 43 #[.slice A' s.toNat c', .bool p, .int .i64 P] w1 fun e w' => ∃ A1 c1, e = .returned (.tuple #[.slice A1 U.length c1, .int .i64 ue]) ∧ Kd.C (Kd.int .u8) w' A1 U.length U ∧ Below w1.heap.size w1 w') := ⟨fun w1 hb => by
    have h := runpack_any w1 (cutx im (a + 8) s) A' c' p P (by rw [hxl]; exact KCx.out w1 hb) (by rw [hxl]; exact hmc) hix (by rw [hxl]; exact hm1)
    rw [hxl, hu0] at h
    exact h⟩
  obtain ⟨Li, hLi⟩ : ∃ x : Int, (L : Int) = x := ⟨_, rfl⟩
  have i1 : Li ≤ 1000000 := by omega
  rw [hLi] at hr
  have i2 : a ≤ 1000000 := by omega
  have hb1 : decide (a > Li) = false := decide_eq_false (by omega)
  have hb3 : decide (8 + s > Li - a) = false := decide_eq_false (by omega)
  have i0 : 0 ≤ Li := by omega
  have Kz := Aside0.mk hyz
  clear hz hyz hix hCx hxl hmc him hC hL hc hl hm1 r1 r2 hr hu0
  go_enter Try.func38, Try.ntmps38
  go_wp2_with (go_at_call 53; apply Aside0.out)
  refine ⟨?_⟩
  refine (KR.out _).mono ?_
  rintro e w1 ⟨rfl, hB1⟩
  have KB1 := Aside0.mk (below_then Kal.out Kal.out.size hB1)
  have KW := Aside0.mk ((hB1.block w.heap.size (by simp)).trans (heap_alloc_new w _))
  have hwg : w.heap.size < w1.heap.size := by have := hB1.size; simp at this; omega
  obtain ⟨g, hg⟩ : ∃ g, g = w.heap.size := ⟨_, rfl⟩
  rw [← hg] at KW hwg ⊢
  have Kg := Aside0.mk hg
  clear hB1 hg
  obtain ⟨x0, x1, x2, x3, x4⟩ := bx_cells KW.out
  go_wp2
  refine start_ (n := 5) (S := fun w' => Below g w w' ∧ w'.heap[g]? = some (.cells #[.int .i64 a, .int .i64 P, .int .i64 s, .bool p, .int .u32 z4] 62 (0, 0))) (ds := []) #[false, false, false, false, false] (by kernel_rfl) rfl rfl ⟨(show Below g w w1.drew from below_drew (by rw [Kg.out]; exact KB1.out)), (show w1.drew.heap[g]? = _ from KW.out)⟩ (fun hHeld => ?_)
  refine pure_ (i := 0) (N := some 39) (v := ?_) (a' := ?_) #[true, false, false, false, false] rfl rfl (by kernel_rfl) (fun _ _ _ h => h) (Or.inl ⟨by rfl, ?_⟩) ?_ ?_
  rotate_left
  · intro w'
    go_simp
    with_reducible rfl
  rotate_left
  · simp only [Act.put, List.setIfInBounds_toArray, List.set_cons_zero, List.set_cons_succ, i64_w, i32_w]
    rfl
  refine pure_ (i := 2) (N := some 41) (v := ?_) (a' := ?_) #[true, false, true, false, false] rfl rfl (by kernel_rfl) (fun _ _ _ h => h) (Or.inl ⟨by rfl, ?_⟩) ?_ ?_
  rotate_left
  · intro w'
    go_simp
    with_reducible rfl
  rotate_left
  · simp only [Act.put, List.setIfInBounds_toArray, List.set_cons_zero, List.set_cons_succ, i64_w, i32_w]
    rfl
  refine take_ (i := 3) (N := some 42) (v := .int .u32 z4) (a' := ?_) #[true, false, true, true, false] rfl rfl (by kernel_rfl) (fun _ _ _ h => h) (Or.inl ⟨by rfl, ?_⟩) hHeld ?_ ?_
  · rintro w' ⟨s0, s1⟩
    (have y4 := (bx_cells s1).2.2.2.2)
    go_simp
    (try rfl)
  rotate_left
  · simp only [Act.put, List.setIfInBounds_toArray, List.set_cons_zero, List.set_cons_succ, i64_w, i32_w]
    rfl
  refine one_ (i := 1) (N := some 40) #[true, true, true, true, false] rfl rfl (by kernel_rfl) (by decide) (fun K hK => ?_)
  refine goes_ Try.func42 (by kernel_rfl) rfl #[.int .u32 0, .slice A' s.toNat c'] (by rfl) rfl rfl (by simp only [List.map_toArray, List.map_cons, List.map_nil]; rfl) ?_
  with_reducible refine (KX.out _ (by rw [← Kg.out]; exact hHeld.1)).mono ?_
  rintro e w9 ⟨rfl, rfl⟩
  refine ⟨_, rfl, ?_⟩
  refine hK.out _ _ ⟨hHeld.1, hHeld.2⟩ (fun hHeld => ?_)
  clear hK K
  refine norm_ (a' := ?_) ?_ ?_
  rotate_left
  · show Act.put _ (some 40) _ = _
    simp only [Act.put, List.setIfInBounds_toArray, List.set_cons_zero, List.set_cons_succ, i64_w, i32_w]
    rfl
  refine pure_ (i := 4) (N := some 43) (v := .bool false) (a' := ?_) #[true, true, true, true, true] rfl rfl (by kernel_rfl) (fun _ _ _ h => h) (Or.inl ⟨by rfl, ?_⟩) ?_ ?_
  · intro w'
    (have hz := Kz.out)
    go_simp
    (try simp [hz])
  rotate_left
  · simp only [Act.put, List.setIfInBounds_toArray, List.set_cons_zero, List.set_cons_succ, i64_w, i32_w]
    rfl
  refine done_ (by kernel_rfl) ?_
  have KB2 : Aside0 (Below w.heap.size w _) := ⟨by rw [← Kg.out]; exact hHeld.1⟩
  have KW2 := Aside0.mk hHeld.2
  obtain ⟨x0, x1, x2, x3, x4⟩ := bx_cells hHeld.2
  have hwg2 := (Array.getElem?_eq_some_iff.1 hHeld.2).1
  clear hHeld
  go_wp2_with (go_at_call 43; apply Aside0.out)
  refine ⟨?_⟩
  refine (KU.out _ KB2.out).mono ?_
  rintro e w3 ⟨A5, c5, rfl, hO, hB3⟩
  have KB3 := Aside0.mk (below_then KB2.out KB2.out.size hB3)
  have KO := Aside0.mk hO
  obtain ⟨y0, y1, y2, y3, y4⟩ := bx_cells ((hB3.block g hwg2).trans KW2.out)
  clear hB3 hO x0 x1 x2 x3 x4
  by_cases hue : ue = 0
  · subst hue
    have hq : ((U.length : Int) != P) = true := by
      rcases hu with hu | hu
      · exact absurd rfl hu
      · simp [hu]
    clear hu
    go_wp2
    go_ret2
    exact ⟨rfl, KB3.out⟩
  · have hq : (ue != 0) = true := by simp [hue]
    clear hu
    go_wp2
    go_ret2
    exact ⟨rfl, KB3.out⟩
set_option maxHeartbeats 2000000 in
theorem chunk_ok_r (w : World) (A : Option Addr) (L cc : Nat) (a P s z4 : Int) (p : Bool) (im : List Int) (hL : L = im.length) (hC : Kd.C (Kd.int .u8) w A L im) (hc : L ≤ cc) (him : isB im) (hg : rgt ⟨a, P, s, p, z4⟩ = true) (hl : L ≤ 1000000) (hr : a + 8 + s ≤ (L : Int)) (z : Int) (hz : z = ((Sum.crc 0 (cutx im (a + 8) s) : Nat) : Int)) (U : List Int) (ue : Int) (hu0 : unp (cutx im (a + 8) s) p P = (U, ue)) (hyz : z = z4) (hu : ue = 0) (hul : (U.length : Int) = P) : Calls Try.prog 38 #[.slice A L cc, .agg #[.int .i64 a, .int .i64 P, .int .i64 s, .bool p, .int .u32 z4]] w fun e w' => ∃ A1 c1, e = .returned (.tuple #[.slice A1 U.length c1, .int .i64 0]) ∧ Kd.C (Kd.int .u8) w' A1 U.length U ∧ Below w.heap.size w w' := by
  obtain ⟨r0, r1, r2, r3, r4, -⟩ := (rgt_iff _).1 hg
  simp only at r0 r1 r2 r3 r4
  have KR := Aside0.mk (rright_any ⟨a, P, s, p, z4⟩)
  rw [hg] at KR
  have Kal : Aside0 (Below w.heap.size w (w.alloc (.cells #[.int .i64 a, .int .i64 P, .int .i64 s, .bool p, .int .u32 z4] 62))) := ⟨below_alloc (Below.refl _ _) _⟩
  clear hg
  obtain ⟨A', c', hmc, hsl, hCx, hxl⟩ := cut_int A cc L im hL (a + 8) (a + 8 + s) s (by omega) (by omega) rfl hr hc
  have KCx : Aside0 (∀ w1, Below w.heap.size w w1 → Kd.C (Kd.int .u8) w1 A' s.toNat (cutx im (a + 8) s)) := ⟨fun w1 hb => hCx w1 (Kd.C_below hC hb)⟩
  have hix := cutx_isB him (a + 8) s
  have hm1 : s.toNat ≤ 1000000 := by omega
  have KX : Aside0 (∀ w1, Below w.heap.size w w1 → Calls Try.prog 42 #[.int .u32 0, .slice A' s.toNat c'] w1 fun e w' => e = .returned (.int .u32 z) ∧ w1 = w') := ⟨fun w1 hb => by
    have h := Sum.refCrc_any 0 (by decide) A' c' (cutx im (a + 8) s) w1 (by rw [hxl]; exact KCx.out w1 hb) (by omega) hix
    rw [hxl, ← hz] at h
    exact h⟩
  have KU : Aside0 (∀ w1, Below w.heap.size w w1 → Calls Try.prog 43 #[.slice A' s.toNat c', .bool p, .int .i64 P] w1 fun e w' => ∃ A1 c1, e = .returned (.tuple #[.slice A1 U.length c1, .int .i64 ue]) ∧ Kd.C (Kd.int .u8) w' A1 U.length U ∧ Below w1.heap.size w1 w') := ⟨fun w1 hb => by
    have h := runpack_any w1 (cutx im (a + 8) s) A' c' p P (by rw [hxl]; exact KCx.out w1 hb) (by rw [hxl]; exact hmc) hix (by rw [hxl]; exact hm1)
    rw [hxl, hu0] at h
    exact h⟩
  obtain ⟨Li, hLi⟩ : ∃ x : Int, (L : Int) = x := ⟨_, rfl⟩
  have i1 : Li ≤ 1000000 := by omega
  rw [hLi] at hr
  have i2 : a ≤ 1000000 := by omega
  have hb1 : decide (a > Li) = false := decide_eq_false (by omega)
  have hb3 : decide (8 + s > Li - a) = false := decide_eq_false (by omega)
  have i0 : 0 ≤ Li := by omega
  have Kz := Aside0.mk hyz
  clear hz hyz hix hCx hxl hmc him hC hL hc hl hm1 r1 r2 hr hu0
  go_enter Try.func38, Try.ntmps38
  go_wp2_with (go_at_call 53; apply Aside0.out)
  refine ⟨?_⟩
  refine (KR.out _).mono ?_
  rintro e w1 ⟨rfl, hB1⟩
  have KB1 := Aside0.mk (below_then Kal.out Kal.out.size hB1)
  have KW := Aside0.mk ((hB1.block w.heap.size (by simp)).trans (heap_alloc_new w _))
  have hwg : w.heap.size < w1.heap.size := by have := hB1.size; simp at this; omega
  obtain ⟨g, hg⟩ : ∃ g, g = w.heap.size := ⟨_, rfl⟩
  rw [← hg] at KW hwg ⊢
  have Kg := Aside0.mk hg
  clear hB1 hg
  obtain ⟨x0, x1, x2, x3, x4⟩ := bx_cells KW.out
  go_wp2
  refine start_ (n := 5) (S := fun w' => Below g w w' ∧ w'.heap[g]? = some (.cells #[.int .i64 a, .int .i64 P, .int .i64 s, .bool p, .int .u32 z4] 62 (0, 0))) (ds := []) #[false, false, false, false, false] (by kernel_rfl) rfl rfl ⟨(show Below g w w1.drew from below_drew (by rw [Kg.out]; exact KB1.out)), (show w1.drew.heap[g]? = _ from KW.out)⟩ (fun hHeld => ?_)
  refine pure_ (i := 0) (N := some 39) (v := ?_) (a' := ?_) #[true, false, false, false, false] rfl rfl (by kernel_rfl) (fun _ _ _ h => h) (Or.inl ⟨by rfl, ?_⟩) ?_ ?_
  rotate_left
  · intro w'
    go_simp
    with_reducible rfl
  rotate_left
  · simp only [Act.put, List.setIfInBounds_toArray, List.set_cons_zero, List.set_cons_succ, i64_w, i32_w]
    rfl
  refine pure_ (i := 2) (N := some 41) (v := ?_) (a' := ?_) #[true, false, true, false, false] rfl rfl (by kernel_rfl) (fun _ _ _ h => h) (Or.inl ⟨by rfl, ?_⟩) ?_ ?_
  rotate_left
  · intro w'
    go_simp
    with_reducible rfl
  rotate_left
  · simp only [Act.put, List.setIfInBounds_toArray, List.set_cons_zero, List.set_cons_succ, i64_w, i32_w]
    rfl
  refine take_ (i := 3) (N := some 42) (v := .int .u32 z4) (a' := ?_) #[true, false, true, true, false] rfl rfl (by kernel_rfl) (fun _ _ _ h => h) (Or.inl ⟨by rfl, ?_⟩) hHeld ?_ ?_
  · rintro w' ⟨s0, s1⟩
    (have y4 := (bx_cells s1).2.2.2.2)
    go_simp
    (try rfl)
  rotate_left
  · simp only [Act.put, List.setIfInBounds_toArray, List.set_cons_zero, List.set_cons_succ, i64_w, i32_w]
    rfl
  refine one_ (i := 1) (N := some 40) #[true, true, true, true, false] rfl rfl (by kernel_rfl) (by decide) (fun K hK => ?_)
  refine goes_ Try.func42 (by kernel_rfl) rfl #[.int .u32 0, .slice A' s.toNat c'] (by rfl) rfl rfl (by simp only [List.map_toArray, List.map_cons, List.map_nil]; rfl) ?_
  with_reducible refine (KX.out _ (by rw [← Kg.out]; exact hHeld.1)).mono ?_
  rintro e w9 ⟨rfl, rfl⟩
  refine ⟨_, rfl, ?_⟩
  refine hK.out _ _ ⟨hHeld.1, hHeld.2⟩ (fun hHeld => ?_)
  clear hK K
  refine norm_ (a' := ?_) ?_ ?_
  rotate_left
  · show Act.put _ (some 40) _ = _
    simp only [Act.put, List.setIfInBounds_toArray, List.set_cons_zero, List.set_cons_succ, i64_w, i32_w]
    rfl
  refine pure_ (i := 4) (N := some 43) (v := .bool false) (a' := ?_) #[true, true, true, true, true] rfl rfl (by kernel_rfl) (fun _ _ _ h => h) (Or.inl ⟨by rfl, ?_⟩) ?_ ?_
  · intro w'
    (have hz := Kz.out)
    go_simp
    (try simp [hz])
  rotate_left
  · simp only [Act.put, List.setIfInBounds_toArray, List.set_cons_zero, List.set_cons_succ, i64_w, i32_w]
    rfl
  refine done_ (by kernel_rfl) ?_
  have KB2 : Aside0 (Below w.heap.size w _) := ⟨by rw [← Kg.out]; exact hHeld.1⟩
  have KW2 := Aside0.mk hHeld.2
  obtain ⟨x0, x1, x2, x3, x4⟩ := bx_cells hHeld.2
  have hwg2 := (Array.getElem?_eq_some_iff.1 hHeld.2).1
  clear hHeld
  go_wp2_with (go_at_call 43; apply Aside0.out)
  refine ⟨?_⟩
  refine (KU.out _ KB2.out).mono ?_
  rintro e w3 ⟨A5, c5, rfl, hO, hB3⟩
  have KB3 := Aside0.mk (below_then KB2.out KB2.out.size hB3)
  have KO := Aside0.mk hO
  obtain ⟨y0, y1, y2, y3, y4⟩ := bx_cells ((hB3.block g hwg2).trans KW2.out)
  clear hB3 hO x0 x1 x2 x3 x4
  subst hu
  have hq : ((U.length : Int) != P) = false := by simp [hul]
  clear hul
  go_wp2
  go_ret2
  exact ⟨_, _, rfl, KO.out, KB3.out⟩
theorem rchunk_any (w : World) (im : List Int) (A : Option Addr) (cc : Nat) (c : Ck) (hC : Kd.C (Kd.int .u8) w A im.length im) (hc : im.length ≤ cc) (him : isB im) (hl : im.length ≤ 1000000) (ha : c.f0 ≤ 9223372036854775807) :
    Calls Try.prog 38 #[.slice A im.length cc, .agg (bx c)] w fun e w' => ∃ A1 c1, e = .returned (.tuple #[.slice A1 (chunk im c).1.length c1, .int .i64 (chunk im c).2]) ∧ Kd.C (Kd.int .u8) w' A1 (chunk im c).1.length (chunk im c).1 ∧ Below w.heap.size w w' := by
  obtain ⟨a, P, s, p, z4⟩ := c
  unfold bx chunk
  simp only at ha ⊢
  cases hg : rgt ⟨a, P, s, p, z4⟩ with
  | false =>
    rw [if_pos rfl]
    refine (chunk_arg_r w A _ cc a P s z4 p hg).mono ?_
    rintro e w' ⟨rfl, hB⟩
    exact ⟨none, 0, rfl, Kd.C_nil _ _, hB⟩
  | true =>
    rw [if_neg (by decide)]
    by_cases p1 : (im.length : Int) < a + 8 + s
    · rw [if_pos p1]
      refine (chunk_range_r w A _ cc a P s z4 p hg hl ha p1).mono ?_
      rintro e w' ⟨rfl, hB⟩
      exact ⟨none, 0, rfl, Kd.C_nil _ _, hB⟩
    rw [if_neg p1]
    by_cases p2 : ((Sum.crc 0 (cutx im (a + 8) s) : Nat) : Int) ≠ z4
    · rw [if_pos p2]
      refine (chunk_sum_r w A _ cc a P s z4 p im rfl hC hc him hg hl (by omega) _ rfl p2).mono ?_
      rintro e w' ⟨rfl, hB⟩
      exact ⟨none, 0, rfl, Kd.C_nil _ _, hB⟩
    rw [if_neg p2]
    have p2 := Classical.byContradiction p2
    obtain ⟨U, ue, hu⟩ : ∃ U ue, unp (cutx im (a + 8) s) p P = (U, ue) := ⟨_, _, rfl⟩
    rw [hu]
    simp only
    by_cases p3 : ue ≠ 0 ∨ (U.length : Int) ≠ P
    · rw [if_pos p3]
      refine (chunk_form_r w A _ cc a P s z4 p im rfl hC hc him hg hl (by omega) _ rfl U ue hu p2 p3).mono ?_
      rintro e w' ⟨rfl, hB⟩
      exact ⟨none, 0, rfl, Kd.C_nil _ _, hB⟩
    rw [if_neg p3]
    have q1 : ue = 0 := Classical.byContradiction fun h => p3 (Or.inl h)
    have q2 : (U.length : Int) = P := Classical.byContradiction fun h => p3 (Or.inr h)
    exact chunk_ok_r w A _ cc a P s z4 p im rfl hC hc him hg hl (by omega) _ rfl U ue hu p2 q1 q2
end Go.Proofs.Ytpdggoapjbjmhaa.Me
