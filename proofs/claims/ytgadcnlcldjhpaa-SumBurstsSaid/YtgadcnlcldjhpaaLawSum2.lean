/- The walks of the laws on sums: SumCrcs, SumTables, SumTable. -/
import Derived.Test.YtgadcnlcldjhpaaLawSum1
namespace Go.Proofs.Ytgadcnlcldjhpaa
open Go.RowKit Go.Proofs.YtgadcnlcldjhpaaW.PrintWords Go.Proofs.YtgadcnlcldjhpaaW.PrintLast Go.Proofs.YtgadcnlcldjhpaaW.PrintMore
set_option linter.unusedVariables false
set_option linter.unusedSimpArgs false
namespace Sum
theorem tab_of {cs : Array Value} {x : List Int} (h : cs.toList = nums .u32 x ∧ x.length = 256 ∧ ∀ y ∈ x, (Lit.int .u32 y).wf = true) : ∃ T : Nat → Nat, cs = Bits.tab T ∧ ∀ i, i < 256 → T i < 4294967296 := by
  obtain ⟨h1, h2, h3⟩ := h
  have hb : ∀ i, i < 256 → 0 ≤ x.getD i 0 ∧ x.getD i 0 < 4294967296 := by
    intro i hi
    rw [List.getD_eq_getElem?_getD, List.getElem?_eq_getElem (by omega)]
    have := Go.bounds_u32 (h3 x[i] (List.getElem_mem _))
    simp only [Option.getD_some]
    omega
  refine ⟨fun i => (x.getD i 0).toNat, ?_, fun i hi => by have h := hb i hi; show (x.getD i 0).toNat < 4294967296; omega⟩
  refine Array.toList_inj.1 ?_
  rw [h1]
  apply List.ext_getElem?
  intro i
  by_cases hi : i < 256
  · have h4 := hb i hi
    have hx : x[i]? = some (x.getD i 0) := by rw [List.getD_eq_getElem?_getD, List.getElem?_eq_getElem (by omega)]; rfl
    rw [Array.getElem?_toList (xs := Bits.tab _), Bits.tab_at _ _ hi]
    unfold nums
    rw [List.getElem?_map, hx]
    simp only [Option.map_some, Option.some.injEq, Value.int.injEq, true_and]
    omega
  · rw [List.getElem?_eq_none (by simp [nums]; omega), List.getElem?_eq_none (by simp [Bits.tab_size]; omega)]
theorem more_good (g : Nat) (c : Nat) (hc : c < 4294967296) (A : Option Addr) (cap : Nat) (l : List Int) (w : World) (hg : w.heap[g]? = some (.cells (Bits.tab (Crc.iter 8)) 24 (0, 0)))
    (hr : Kd.C (Kd.int .u8) w A l.length l) (hm : l.length ≤ 140737488351232) (hl : ∀ x ∈ l, 0 ≤ x ∧ x < 256) :
    Calls Try.prog 16 #[.pointer (some ⟨g, 0, none⟩), .int .u32 c, .slice A l.length cap] w fun e w' => e = .returned (.int .u32 (crc c l : Nat)) ∧ w = w' := by
  have e : crcT (Crc.iter 8) c l = crc c l := by
    unfold crcT crc
    rw [Bits.runT_good _ (fun i _ => rfl)]
    intro x hx
    obtain ⟨y, hy, rfl⟩ := List.mem_map.1 hx
    have := hl y hy
    omega
  rw [← e]
  exact more_tab g (Crc.iter 8) (fun i hi => Crc.iter_lt _ _ (by omega)) c hc A cap l w (fun i hi => by rw [cell_of_row _ _ _ _ _ _ hg]; exact Bits.tab_at _ _ hi) hr hm hl
theorem crc_good (g : Nat) (A : Option Addr) (cap : Nat) (l : List Int) (w : World) (hg : w.heap[g]? = some (.cells (Bits.tab (Crc.iter 8)) 24 (0, 0)))
    (hr : Kd.C (Kd.int .u8) w A l.length l) (hm : l.length ≤ 140737488351232) (hl : ∀ x ∈ l, 0 ≤ x ∧ x < 256) :
    Calls Try.prog 22 #[.pointer (some ⟨g, 0, none⟩), .slice A l.length cap] w fun e w' => e = .returned (.int .u32 (crc 0 l : Nat)) ∧ w = w' := by
  have e : crcT (Crc.iter 8) 0 l = crc 0 l := by
    unfold crcT crc
    rw [Bits.runT_good _ (fun i _ => rfl)]
    intro x hx
    obtain ⟨y, hy, rfl⟩ := List.mem_map.1 hx
    have := hl y hy
    omega
  rw [← e]
  exact crc_tab g (Crc.iter 8) (fun i hi => Crc.iter_lt _ _ (by omega)) A cap l w (fun i hi => by rw [cell_of_row _ _ _ _ _ _ hg]; exact Bits.tab_at _ _ hi) hr hm hl
theorem set_at {w1 W2 : World} {T U : Nat → Nat} (h : World.setRow (w1.alloc (.cells (Bits.tab U) 24)) w1.heap.size (Bits.tab T) = W2) : Aside0 (W2.heap[w1.heap.size]? = some (.cells (Bits.tab T) 24 (0, 0))) :=
  ⟨by rw [← h]; exact setRow_heap _ _ _ _ _ _ (heap_alloc_new _ _)⟩
theorem set_below {w w1 W2 : World} {T U : Nat → Nat} (hb : Below w.heap.size w w1) (h : World.setRow (w1.alloc (.cells (Bits.tab U) 24)) w1.heap.size (Bits.tab T) = W2) : Aside0 (Below w.heap.size w W2) :=
  ⟨by rw [← h]; exact below_setRow (below_alloc hb _) hb.size _⟩
theorem refCrc_zero (A : Option Addr) (cap : Nat) (l : List Int) (w : World) (hr : Kd.C (Kd.int .u8) w A l.length l) (hm : l.length ≤ 140737488351232) (hl : ∀ x ∈ l, 0 ≤ x ∧ x < 256) :
    Calls Try.prog 24 #[.int .u32 0, .slice A l.length cap] w fun e w' => e = .returned (.int .u32 (crc 0 l : Nat)) ∧ w = w' := refCrc_any 0 (by omega) A cap l w hr hm hl
end Sum
namespace SumCrcs
set_option maxHeartbeats 1000000 in
theorem walk (w : World) (a0 : Int) (w0 : (Lit.int .u32 a0).wf = true) (A1 : Option Addr) (c1 : Nat) (l1 : List Int) (r1 : Kd.C (Kd.int .u8) w A1 l1.length l1) (k1 : l1.length ≤ c1) (g1 : ∀ v ∈ l1, (fun n : Int => (Lit.int .u8 n).wf = true) v) (m1 : l1.length * 1 ≤ 140737488351232) :
    Calls Try.prog 7 #[.int .u32 a0, .slice A1 l1.length c1] w fun e w' => e = .returned (.bool true) ∧ Below w.heap.size w w' := by
  have HL := Aside0.mk (u8s g1)
  have HR := Aside0.mk r1
  have hb := Go.bounds_u32 w0
  obtain ⟨c, rfl⟩ := Int.eq_ofNat_of_zero_le hb.1
  have hc : c < 4294967296 := by omega
  have hm : l1.length ≤ 140737488351232 := by omega
  have hz := Sum.zeroTab
  clear g1 r1 hb w0 m1
  go_enter Try.func7, Try.ntmps7
  by_cases hlen : 5000 < l1.length
  · go_wp2_with (go_at_call 15; refine (Sum.live_any _).mono ?_; rintro e w' ⟨rfl, hbel⟩)
    go_ret
    exact ⟨rfl, hbel⟩
  · go_wp2_with (first | (go_at_call 23; refine (Sum.make_any _).mono ?_; rintro e w1 ⟨rfl, hb1⟩) | (refine wpList_store_row rfl 24 (Operand.tmp 5) (Operand.tmp 11) rfl w1.heap.size (Bits.tab (Crc.iter 8)) rfl rfl _ _ (heap_alloc_new _ _) (Sum.tabSize _) (by rw [Bits.tab_size, Bits.tab_size]) (Sum.tabOne _) ?_; obtain ⟨W2, hW⟩ : ∃ W2, World.setRow (w1.alloc (.cells (Bits.tab fun _ => 0) 24)) w1.heap.size (Bits.tab (Crc.iter 8)) = W2 := ⟨_, rfl⟩; have HT := Sum.set_at hW; have HB := Sum.set_below hb1 hW; rw [hW]; clear hW; have HR2 := Aside0.mk (Kd.C_below HR.out HB.out)) | (go_at_call 24; first | ((with_reducible refine (Sum.refCrc_any c hc A1 c1 l1 _ HR2.out hm HL.out).mono ?_); rintro e w' ⟨rfl, rfl⟩) | ((with_reducible refine (Sum.refCrc_zero A1 c1 l1 _ HR2.out hm HL.out).mono ?_); rintro e w' ⟨rfl, rfl⟩)) | (go_at_call 16; first | ((with_reducible refine (Sum.more_nil c hc A1 c1 l1 _ HR2.out hm HL.out).mono ?_); rintro e w' ⟨rfl, rfl⟩) | (refine (Sum.more_good w1.heap.size c hc A1 c1 l1 _ HT.out HR2.out hm HL.out).mono ?_; rintro e w' ⟨rfl, rfl⟩)) | (go_at_call 22; refine (Sum.crc_good w1.heap.size A1 c1 l1 _ HT.out HR2.out hm HL.out).mono ?_; rintro e w' ⟨rfl, rfl⟩) | (go_at_call 15; refine (Sum.live_any _).mono ?_; rintro e w' ⟨rfl, hbel⟩))
    go_ret
    exact ⟨rfl, below_then HB.out HB.out.size hbel⟩
end SumCrcs
namespace SumTables
set_option maxHeartbeats 1000000 in
theorem walk (w : World) (cs0 : Array Value) (x0 : List Int) (r0 : cs0.toList = nums .u32 x0 ∧ x0.length = 256 ∧ ∀ x ∈ x0, (Lit.int .u32 x).wf = true) (a1 : Int) (w1 : (Lit.int .u32 a1).wf = true) (A2 : Option Addr) (c2 : Nat) (l2 : List Int) (r2 : Kd.C (Kd.int .u8) w A2 l2.length l2) (k2 : l2.length ≤ c2) (g2 : ∀ v ∈ l2, (fun n : Int => (Lit.int .u8 n).wf = true) v) (m2 : l2.length * 1 ≤ 140737488351232) :
    Calls Try.prog 3 #[.agg cs0, .int .u32 a1, .slice A2 l2.length c2] w fun e w' => e = .returned (.bool true) ∧ Below w.heap.size w w' := by
  obtain ⟨T, rfl, hT⟩ := Sum.tab_of r0
  have HL := Aside0.mk (u8s g2)
  have HR := Aside0.mk r2
  have HT := Aside0.mk hT
  have hb := Go.bounds_u32 w1
  obtain ⟨c, rfl⟩ := Int.eq_ofNat_of_zero_le hb.1
  have hc : c < 4294967296 := by omega
  have hm : l2.length ≤ 140737488351232 := by omega
  have hz := Sum.zeroTab
  have hq := Sum.tabEq T T
  have HE : Arr.eqUpTo 256 (fun i => (T i : Int)) (fun i => (T i : Int)) = true := Arr.eqUpTo_iff.2 (fun _ _ => rfl)
  rw [HE] at hq
  clear g2 r2 hb w1 m2 HE r0 hT
  go_enter Try.func3, Try.ntmps3
  by_cases hlen : 5000 < l2.length
  · go_wp2_with (go_at_call 15; refine (Sum.live_any _).mono ?_; rintro e w' ⟨rfl, hbel⟩)
    go_ret
    exact ⟨rfl, below_then (below_alloc (Below.refl _ _) _) (below_alloc (Below.refl _ _) _).size hbel⟩
  · go_wp2_with (first | (refine wpList_load_row rfl 24 (Operand.tmp 3) rfl w.heap.size rfl _ _ _ _ (heap_alloc_new _ _) Try.underlying24 rfl (Sum.tabSize _) ?_) | (refine wpList_store_row rfl 24 (Operand.tmp 7) (Operand.tmp 12) rfl (w.heap.size + 1) (Bits.tab T) rfl rfl _ _ (heap_alloc2_new _ _ _) (Sum.tabSize _) (by rw [Bits.tab_size, Bits.tab_size]) (Sum.tabOne _) ?_; obtain ⟨W2, hW⟩ : ∃ W2, World.setRow ((w.alloc (.cells (Bits.tab T) 24)).alloc (.cells (Bits.tab fun _ => 0) 24)) (w.heap.size + 1) (Bits.tab T) = W2 := ⟨_, rfl⟩; have HW := Aside0.mk hW; rw [hW]; clear hW))
    have HB : Below w.heap.size w W2 := by rw [← HW.out]; exact below_setRow (below_alloc (below_alloc (Below.refl _ _) _) _) (by omega) _
    have H7 : Aside0 (W2.heap[w.heap.size + 1]? = some (.cells (Bits.tab T) 24 (0, 0))) := ⟨by rw [← HW.out]; exact setRow_heap _ _ _ _ _ _ (heap_alloc2_new _ _ _)⟩
    have H3 : Aside0 (W2.heap[w.heap.size]? = some (.cells (Bits.tab T) 24 (0, 0))) := ⟨by rw [← HW.out, setRow_other _ _ _ _ (by omega)]; exact heap_alloc2_old _ _ _⟩
    have HR2 := Aside0.mk (Kd.C_below HR.out HB)
    clear HW
    refine start_ (n := 17) (S := fun w' => w'.heap[w.heap.size + 1]? = some (.cells (Bits.tab T) 24 (0, 0)) ∧ w'.heap[w.heap.size]? = some (.cells (Bits.tab T) 24 (0, 0)) ∧ Below W2.heap.size W2 w') (ds := []) #[false, false, false, false, false, false, false, false, false, false, false, false, false, false, false, false, false] (by kernel_rfl) rfl rfl ⟨H7.out, H3.out, below_drew (Below.refl _ _)⟩ (fun hHeld => ?_)
    refine pure_ (i := 0) (N := some 13) (v := ?_) (a' := ?_) #[true, false, false, false, false, false, false, false, false, false, false, false, false, false, false, false, false] rfl rfl (by kernel_rfl) (fun _ _ _ h => h) (Or.inl ⟨by rfl, ?_⟩) ?_ ?_
    rotate_left
    · intro w'
      go_simp
      with_reducible rfl
    rotate_left
    · simp only [Act.put, List.setIfInBounds_toArray, List.set_cons_zero, List.set_cons_succ, i64_w, i32_w]
      rfl
    refine pure_ (i := 1) (N := some 14) (v := ?_) (a' := ?_) #[true, true, false, false, false, false, false, false, false, false, false, false, false, false, false, false, false] rfl rfl (by kernel_rfl) (fun _ _ _ h => h) (Or.inl ⟨by rfl, ?_⟩) ?_ ?_
    rotate_left
    · intro w'
      go_simp
      with_reducible rfl
    rotate_left
    · simp only [Act.put, List.setIfInBounds_toArray, List.set_cons_zero, List.set_cons_succ, i64_w, i32_w]
      rfl
    refine pure_ (i := 4) (N := some 17) (v := ?_) (a' := ?_) #[true, true, false, false, true, false, false, false, false, false, false, false, false, false, false, false, false] rfl rfl (by kernel_rfl) (fun _ _ _ h => h) (Or.inl ⟨by rfl, ?_⟩) ?_ ?_
    rotate_left
    · intro w'
      go_simp
      with_reducible rfl
    rotate_left
    · simp only [Act.put, List.setIfInBounds_toArray, List.set_cons_zero, List.set_cons_succ, i64_w, i32_w]
      rfl
    refine pure_ (i := 5) (N := some 18) (v := ?_) (a' := ?_) #[true, true, false, false, true, true, false, false, false, false, false, false, false, false, false, false, false] rfl rfl (by kernel_rfl) (fun _ _ _ h => h) (Or.inl ⟨by rfl, ?_⟩) ?_ ?_
    rotate_left
    · intro w'
      go_simp
      with_reducible rfl
    rotate_left
    · simp only [Act.put, List.setIfInBounds_toArray, List.set_cons_zero, List.set_cons_succ, i64_w, i32_w]
      rfl
    refine take_ (i := 3) (N := some 16) (v := .agg (Bits.tab T)) (a' := ?_) #[true, true, false, true, true, true, false, false, false, false, false, false, false, false, false, false, false] rfl rfl (by kernel_rfl) (fun _ _ _ h => h) (Or.inl ⟨by rfl, ?_⟩) hHeld ?_ ?_
    · rintro w' ⟨s0, s1, s2⟩
      exact Arr.exec_load_row 24 (Operand.tmp 3) (by rfl) w.heap.size (by rfl) _ _ _ _ s1 Try.underlying24 rfl (Sum.tabSize _)
    rotate_left
    · simp only [Act.put, List.setIfInBounds_toArray, List.set_cons_zero, List.set_cons_succ, i64_w, i32_w]
      rfl
    refine one_ (i := 2) (N := some 15) #[true, true, true, true, true, true, false, false, false, false, false, false, false, false, false, false, false] rfl rfl (by kernel_rfl) (by decide) (fun K hK => ?_)
    refine goes_ Try.func16 (by kernel_rfl) rfl #[.pointer (some ⟨w.heap.size + 1, 0, none⟩), .int .u32 c, .slice A2 l2.length c2] (by rfl) rfl rfl (by simp only [List.map_toArray, List.map_cons, List.map_nil]; rfl) ?_
    with_reducible refine (Sum.more_tab (w.heap.size + 1) T HT.out c hc A2 c2 l2 _ (fun i hi => by rw [cell_of_row _ _ _ _ _ _ hHeld.1]; exact Bits.tab_at _ _ hi) (Kd.C_below HR2.out hHeld.2.2) hm HL.out).mono ?_
    rintro e w3 ⟨rfl, rfl⟩
    refine ⟨_, rfl, ?_⟩
    refine hK.out _ _ ⟨hHeld.1, hHeld.2.1, hHeld.2.2⟩ (fun hHeld => ?_)
    clear hK K
    refine norm_ (a' := ?_) ?_ ?_
    rotate_left
    · show Act.put _ (some 15) _ = _
      simp only [Act.put, List.setIfInBounds_toArray, List.set_cons_zero, List.set_cons_succ, i64_w, i32_w]
      rfl
    refine one_ (i := 6) (N := some 19) #[true, true, true, true, true, true, true, false, false, false, false, false, false, false, false, false, false] rfl rfl (by kernel_rfl) (by decide) (fun K hK => ?_)
    refine goes_ Try.func17 (by kernel_rfl) rfl #[.agg (Bits.tab T), .int .u32 c, .slice A2 l2.length c2] (by rfl) rfl rfl (by simp only [List.map_toArray, List.map_cons, List.map_nil]; rfl) ?_
    with_reducible refine (Sum.refMore_any T HT.out c hc A2 c2 l2 _ (Kd.C_below HR2.out hHeld.2.2) hm HL.out).mono ?_
    rintro e w4 ⟨rfl, hb4⟩
    refine ⟨_, rfl, ?_⟩
    refine hK.out _ _ ⟨(show w4.heap[w.heap.size + 1]? = _ from (hb4.block _ (Array.getElem?_eq_some_iff.1 hHeld.1).1).trans hHeld.1), (show w4.heap[w.heap.size]? = _ from (hb4.block _ (Array.getElem?_eq_some_iff.1 hHeld.2.1).1).trans hHeld.2.1), (below_then hHeld.2.2 hHeld.2.2.size hb4)⟩ (fun hHeld => ?_)
    clear hK K
    refine norm_ (a' := ?_) ?_ ?_
    rotate_left
    · show Act.put _ (some 19) _ = _
      simp only [Act.put, List.setIfInBounds_toArray, List.set_cons_zero, List.set_cons_succ, i64_w, i32_w]
      rfl
    refine pure_ (i := 7) (N := some 20) (v := ?_) (a' := ?_) #[true, true, true, true, true, true, true, true, false, false, false, false, false, false, false, false, false] rfl rfl (by kernel_rfl) (fun _ _ _ h => h) (Or.inl ⟨by rfl, ?_⟩) ?_ ?_
    rotate_left
    · intro w'
      go_simp
      with_reducible rfl
    rotate_left
    · simp only [Act.put, List.setIfInBounds_toArray, List.set_cons_zero, List.set_cons_succ, i64_w, i32_w]
      rfl
    refine pure_ (i := 8) (N := some 21) (v := ?_) (a' := ?_) #[true, true, true, true, true, true, true, true, true, false, false, false, false, false, false, false, false] rfl rfl (by kernel_rfl) (fun _ _ _ h => h) (Or.inl ⟨by rfl, ?_⟩) ?_ ?_
    rotate_left
    · intro w'
      go_simp
      with_reducible rfl
    rotate_left
    · simp only [Act.put, List.setIfInBounds_toArray, List.set_cons_zero, List.set_cons_succ, i64_w, i32_w]
      rfl
    refine take_ (i := 9) (N := some 22) (v := .agg (Bits.tab T)) (a' := ?_) #[true, true, true, true, true, true, true, true, true, true, false, false, false, false, false, false, false] rfl rfl (by kernel_rfl) (fun _ _ _ h => h) (Or.inl ⟨by rfl, ?_⟩) hHeld ?_ ?_
    · rintro w' ⟨s0, s1, s2⟩
      exact Arr.exec_load_row 24 (Operand.tmp 7) (by rfl) (w.heap.size + 1) (by rfl) _ _ _ _ s0 Try.underlying24 rfl (Sum.tabSize _)
    rotate_left
    · simp only [Act.put, List.setIfInBounds_toArray, List.set_cons_zero, List.set_cons_succ, i64_w, i32_w]
      rfl
    refine take_ (i := 10) (N := some 23) (v := .agg (Bits.tab T)) (a' := ?_) #[true, true, true, true, true, true, true, true, true, true, true, false, false, false, false, false, false] rfl rfl (by kernel_rfl) (fun _ _ _ h => h) (Or.inl ⟨by rfl, ?_⟩) hHeld ?_ ?_
    · rintro w' ⟨s0, s1, s2⟩
      exact Arr.exec_load_row 24 (Operand.tmp 3) (by rfl) w.heap.size (by rfl) _ _ _ _ s1 Try.underlying24 rfl (Sum.tabSize _)
    rotate_left
    · simp only [Act.put, List.setIfInBounds_toArray, List.set_cons_zero, List.set_cons_succ, i64_w, i32_w]
      rfl
    refine pure_ (i := 11) (N := some 24) (v := ?_) (a' := ?_) #[true, true, true, true, true, true, true, true, true, true, true, true, false, false, false, false, false] rfl rfl (by kernel_rfl) (fun _ _ _ h => h) (Or.inl ⟨by rfl, ?_⟩) ?_ ?_
    rotate_left
    · intro w'
      go_simp
      with_reducible rfl
    rotate_left
    · simp only [Act.put, List.setIfInBounds_toArray, List.set_cons_zero, List.set_cons_succ, i64_w, i32_w]
      rfl
    refine pure_ (i := 12) (N := some 25) (v := ?_) (a' := ?_) #[true, true, true, true, true, true, true, true, true, true, true, true, true, false, false, false, false] rfl rfl (by kernel_rfl) (fun _ _ _ h => h) (Or.inl ⟨by rfl, ?_⟩) ?_ ?_
    rotate_left
    · intro w'
      go_simp
      with_reducible rfl
    rotate_left
    · simp only [Act.put, List.setIfInBounds_toArray, List.set_cons_zero, List.set_cons_succ, i64_w, i32_w]
      rfl
    refine pure_ (i := 13) (N := some 26) (v := ?_) (a' := ?_) #[true, true, true, true, true, true, true, true, true, true, true, true, true, true, false, false, false] rfl rfl (by kernel_rfl) (fun _ _ _ h => h) (Or.inl ⟨by rfl, ?_⟩) ?_ ?_
    rotate_left
    · intro w'
      go_simp
      with_reducible rfl
    rotate_left
    · simp only [Act.put, List.setIfInBounds_toArray, List.set_cons_zero, List.set_cons_succ, i64_w, i32_w]
      rfl
    refine one_ (i := 14) (N := some 27) #[true, true, true, true, true, true, true, true, true, true, true, true, true, true, true, false, false] rfl rfl (by kernel_rfl) (by decide) (fun K hK => ?_)
    refine goes_ Try.func15 (by kernel_rfl) rfl #[] (by rfl) rfl rfl (by simp) ?_
    with_reducible refine (Sum.live_any _).mono ?_
    rintro e w5 ⟨rfl, hb5⟩
    refine ⟨_, rfl, ?_⟩
    refine hK.out _ _ ⟨(show w5.heap[w.heap.size + 1]? = _ from (hb5.block _ (Array.getElem?_eq_some_iff.1 hHeld.1).1).trans hHeld.1), (show w5.heap[w.heap.size]? = _ from (hb5.block _ (Array.getElem?_eq_some_iff.1 hHeld.2.1).1).trans hHeld.2.1), (below_then hHeld.2.2 hHeld.2.2.size hb5)⟩ (fun hHeld => ?_)
    clear hK K
    refine norm_ (a' := ?_) ?_ ?_
    rotate_left
    · show Act.put _ (some 27) _ = _
      simp only [Act.put, List.setIfInBounds_toArray, List.set_cons_zero, List.set_cons_succ, i64_w, i32_w]
      rfl
    refine pure_ (i := 15) (N := some 28) (v := ?_) (a' := ?_) #[true, true, true, true, true, true, true, true, true, true, true, true, true, true, true, true, false] rfl rfl (by kernel_rfl) (fun _ _ _ h => h) (Or.inl ⟨by rfl, ?_⟩) ?_ ?_
    rotate_left
    · intro w'
      go_simp
      with_reducible rfl
    rotate_left
    · simp only [Act.put, List.setIfInBounds_toArray, List.set_cons_zero, List.set_cons_succ, i64_w, i32_w]
      rfl
    refine pure_ (i := 16) (N := some 6) (v := ?_) (a' := ?_) #[true, true, true, true, true, true, true, true, true, true, true, true, true, true, true, true, true] rfl rfl (by kernel_rfl) (fun _ _ _ h => h) (Or.inl ⟨by rfl, ?_⟩) ?_ ?_
    rotate_left
    · intro w'
      go_simp
      with_reducible rfl
    rotate_left
    · simp only [Act.put, List.setIfInBounds_toArray, List.set_cons_zero, List.set_cons_succ, i64_w, i32_w]
      rfl
    refine done_ (by kernel_rfl) ?_
    go_wp2
    go_ret
    exact ⟨rfl, below_then HB HB.size hHeld.2.2⟩
end SumTables
namespace SumTable
theorem good_is (b : Bool) (g : Nat) (T : Nat → Nat) (h : Sum.isTab T = b) (w : World) (hg : w.heap[g]? = some (.cells (Bits.tab T) 24 (0, 0))) : Calls Try.prog 26 #[.pointer (some ⟨g, 0, none⟩)] w fun e w' => e = .returned (.bool b) ∧ Below w.heap.size w w' := by
  rw [← h]
  exact Sum.good_tab g T w hg
theorem is_iter : Sum.isTab (Crc.iter 8) = true := Arr.eqUpTo_iff.2 (fun _ _ => rfl)
/-- The table with an entry turned. -/
def turned (i t : Nat) : Nat → Nat := fun j => if j = i then Crc.iter 8 i ^^^ t else Crc.iter 8 j
theorem is_turned (i t : Nat) (hi : i < 256) : Sum.isTab (turned i t) = decide (t = 0) := by
  by_cases h : t = 0
  · rw [decide_eq_true h]
    refine Arr.eqUpTo_iff.2 (fun j _ => ?_)
    unfold turned
    by_cases e : j = i
    · subst e; simp [h]
    · simp [e]
  · rw [decide_eq_false h]
    cases hq : Sum.isTab (turned i t) with
    | false => rfl
    | true =>
      have h1 : ((turned i t i : Nat) : Int) = ((Crc.iter 8 i : Nat) : Int) := Arr.eqUpTo_iff.1 hq i hi
      have h2 : turned i t i = Crc.iter 8 i := by omega
      unfold turned at h2
      rw [if_pos rfl] at h2
      refine absurd ?_ h
      have h3 : Crc.iter 8 i ^^^ (Crc.iter 8 i ^^^ t) = Crc.iter 8 i ^^^ Crc.iter 8 i := by rw [h2]
      rw [← Nat.xor_assoc, Nat.xor_self, Nat.zero_xor] at h3
      exact h3
set_option maxHeartbeats 1000000 in
theorem walk (w : World) (a0 : Int) (w0 : (Lit.int .u8 a0).wf = true) (a1 : Int) (w1 : (Lit.int .u32 a1).wf = true) :
    Calls Try.prog 8 #[.int .u8 a0, .int .u32 a1] w fun e w' => e = .returned (.bool true) ∧ Below w.heap.size w w' := by
  have hb0 := Go.bounds_u8 w0
  have hb1 := Go.bounds_u32 w1
  obtain ⟨i, rfl⟩ := Int.eq_ofNat_of_zero_le hb0.1
  obtain ⟨t, rfl⟩ := Int.eq_ofNat_of_zero_le hb1.1
  have hi : i < 256 := by omega
  have ht : t < 4294967296 := by omega
  have hiI : (i : Int) < 256 := by omega
  have hwi : IntKind.u32.wrap (i : Int) = (i : Int) := by rw [IntKind.wrap_u32]; omega
  have hx := u32_xor_nat (Crc.iter 8 i) t (Crc.iter_lt _ _ (by omega)) ht
  have hz := Sum.zeroTab
  clear hb0 hb1 w0 w1
  go_enter Try.func8, Try.ntmps8
  go_wp2_with (first | (go_at_call 23; refine (Sum.make_any _).mono ?_; rintro e w1 ⟨rfl, hb1⟩) | (refine wpList_store_row rfl 24 (Operand.tmp 5) (Operand.tmp 6) rfl w1.heap.size (Bits.tab (Crc.iter 8)) rfl rfl _ _ (heap_alloc_new _ _) (Sum.tabSize _) (by rw [Bits.tab_size, Bits.tab_size]) (Sum.tabOne _) ?_; obtain ⟨W2, hW⟩ : ∃ W2, World.setRow (w1.alloc (.cells (Bits.tab fun _ => 0) 24)) w1.heap.size (Bits.tab (Crc.iter 8)) = W2 := ⟨_, rfl⟩; have HT := Sum.set_at hW; have HB := Sum.set_below hb1 hW; rw [hW]; clear hW))
  have HS := Aside0.mk hb1.size
  clear hb1
  refine start_ (n := 14) (S := fun w' => w'.cell? ⟨w1.heap.size, i, none⟩ = some (.int .u32 (Crc.iter 8 i : Nat)) ∧ w'.heap[w1.heap.size]? = some (.cells (Bits.tab (Crc.iter 8)) 24 (0, 0)) ∧ Below w.heap.size w w') (ds := []) #[false, false, false, false, false, false, false, false, false, false, false, false, false, false] (by kernel_rfl) rfl rfl ⟨(by show W2.cell? _ = _; rw [cell_of_row _ _ _ _ _ _ HT.out]; exact Bits.tab_at _ _ hi), HT.out, below_drew HB.out⟩ (fun hHeld => ?_)
  refine pure_ (i := 0) (N := some 7) (v := ?_) (a' := ?_) #[true, false, false, false, false, false, false, false, false, false, false, false, false, false] rfl rfl (by kernel_rfl) (fun _ _ _ h => h) (Or.inl ⟨by rfl, ?_⟩) ?_ ?_
  rotate_left
  · intro w'
    go_simp
    with_reducible rfl
  rotate_left
  · simp only [Act.put, List.setIfInBounds_toArray, List.set_cons_zero, List.set_cons_succ, i64_w, i32_w]
    rfl
  refine pure_ (i := 1) (N := some 8) (v := ?_) (a' := ?_) #[true, true, false, false, false, false, false, false, false, false, false, false, false, false] rfl rfl (by kernel_rfl) (fun _ _ _ h => h) (Or.inl ⟨by rfl, ?_⟩) ?_ ?_
  rotate_left
  · intro w'
    go_simp
    with_reducible rfl
  rotate_left
  · simp only [Act.put, List.setIfInBounds_toArray, List.set_cons_zero, List.set_cons_succ, i64_w, i32_w]
    rfl
  refine pure_ (i := 3) (N := some 10) (v := ?_) (a' := ?_) #[true, true, false, true, false, false, false, false, false, false, false, false, false, false] rfl rfl (by kernel_rfl) (fun _ _ _ h => h) (Or.inl ⟨by rfl, ?_⟩) ?_ ?_
  rotate_left
  · intro w'
    go_simp
    with_reducible rfl
  rotate_left
  · simp only [Act.put, List.setIfInBounds_toArray, List.set_cons_zero, List.set_cons_succ, i64_w, i32_w]
    rfl
  refine pure_ (i := 4) (N := some 11) (v := ?_) (a' := ?_) #[true, true, false, true, true, false, false, false, false, false, false, false, false, false] rfl rfl (by kernel_rfl) (fun _ _ _ h => h) (Or.inl ⟨by rfl, ?_⟩) ?_ ?_
  rotate_left
  · intro w'
    go_simp
    with_reducible rfl
  rotate_left
  · simp only [Act.put, List.setIfInBounds_toArray, List.set_cons_zero, List.set_cons_succ, i64_w, i32_w]
    rfl
  refine take_ (i := 2) (N := some 9) (v := ?_) (a' := ?_) #[true, true, true, true, true, false, false, false, false, false, false, false, false, false] rfl rfl (by kernel_rfl) (fun _ _ _ h => h) (Or.inl ⟨by rfl, ?_⟩) hHeld ?_ ?_
  rotate_left
  · rintro w' ⟨s0, s1, s2⟩
    go_simp
    with_reducible rfl
  rotate_left
  · simp only [Act.put, List.setIfInBounds_toArray, List.set_cons_zero, List.set_cons_succ, i64_w, i32_w]
    rfl
  refine one_ (i := 5) (N := some 12) #[true, true, true, true, true, true, false, false, false, false, false, false, false, false] rfl rfl (by kernel_rfl) (by decide) (fun K hK => ?_)
  refine goes_ Try.func25 (by kernel_rfl) rfl #[.int .u32 i] (by rfl) rfl rfl (by simp only [List.map_toArray, List.map_cons, List.map_nil]; rfl) ?_
  with_reducible refine (Sum.refEntry_nat i (by omega) _).mono ?_
  rintro e w3 ⟨rfl, rfl⟩
  refine ⟨_, rfl, ?_⟩
  refine hK.out _ _ ⟨hHeld.1, hHeld.2.1, hHeld.2.2⟩ (fun hHeld => ?_)
  clear hK K
  refine norm_ (a' := ?_) ?_ ?_
  rotate_left
  · show Act.put _ (some 12) _ = _
    simp only [Act.put, List.setIfInBounds_toArray, List.set_cons_zero, List.set_cons_succ, i64_w, i32_w]
    rfl
  refine pure_ (i := 6) (N := some 13) (v := ?_) (a' := ?_) #[true, true, true, true, true, true, true, false, false, false, false, false, false, false] rfl rfl (by kernel_rfl) (fun _ _ _ h => h) (Or.inl ⟨by rfl, ?_⟩) ?_ ?_
  rotate_left
  · intro w'
    go_simp
    with_reducible rfl
  rotate_left
  · simp only [Act.put, List.setIfInBounds_toArray, List.set_cons_zero, List.set_cons_succ, i64_w, i32_w]
    rfl
  refine pure_ (i := 7) (N := some 14) (v := ?_) (a' := ?_) #[true, true, true, true, true, true, true, true, false, false, false, false, false, false] rfl rfl (by kernel_rfl) (fun _ _ _ h => h) (Or.inl ⟨by rfl, ?_⟩) ?_ ?_
  rotate_left
  · intro w'
    go_simp
    with_reducible rfl
  rotate_left
  · simp only [Act.put, List.setIfInBounds_toArray, List.set_cons_zero, List.set_cons_succ, i64_w, i32_w]
    rfl
  refine one_ (i := 8) (N := some 15) #[true, true, true, true, true, true, true, true, true, false, false, false, false, false] rfl rfl (by kernel_rfl) (by decide) (fun K hK => ?_)
  refine goes_ Try.func26 (by kernel_rfl) rfl #[.pointer (some ⟨w1.heap.size, 0, none⟩)] (by rfl) rfl rfl (by simp only [List.map_toArray, List.map_cons, List.map_nil]; rfl) ?_
  with_reducible refine (good_is true w1.heap.size (Crc.iter 8) is_iter _ hHeld.2.1).mono ?_
  rintro e w4 ⟨rfl, hb4⟩
  refine ⟨_, rfl, ?_⟩
  refine hK.out _ _ ⟨(show w4.cell? _ = _ from pw_cell_below hb4 hHeld.1), (show w4.heap[w1.heap.size]? = _ from (hb4.block _ (Array.getElem?_eq_some_iff.1 hHeld.2.1).1).trans hHeld.2.1), (below_then hHeld.2.2 hHeld.2.2.size hb4)⟩ (fun hHeld => ?_)
  clear hK K
  refine norm_ (a' := ?_) ?_ ?_
  rotate_left
  · show Act.put _ (some 15) _ = _
    simp only [Act.put, List.setIfInBounds_toArray, List.set_cons_zero, List.set_cons_succ, i64_w, i32_w]
    rfl
  refine pure_ (i := 9) (N := some 16) (v := ?_) (a' := ?_) #[true, true, true, true, true, true, true, true, true, true, false, false, false, false] rfl rfl (by kernel_rfl) (fun _ _ _ h => h) (Or.inl ⟨by rfl, ?_⟩) ?_ ?_
  rotate_left
  · intro w'
    go_simp
    with_reducible rfl
  rotate_left
  · simp only [Act.put, List.setIfInBounds_toArray, List.set_cons_zero, List.set_cons_succ, i64_w, i32_w]
    rfl
  refine pure_ (i := 10) (N := some 17) (v := ?_) (a' := ?_) #[true, true, true, true, true, true, true, true, true, true, true, false, false, false] rfl rfl (by kernel_rfl) (fun _ _ _ h => h) (Or.inl ⟨by rfl, ?_⟩) ?_ ?_
  rotate_left
  · intro w'
    go_simp
    with_reducible rfl
  rotate_left
  · simp only [Act.put, List.setIfInBounds_toArray, List.set_cons_zero, List.set_cons_succ, i64_w, i32_w]
    rfl
  refine pure_ (i := 11) (N := some 18) (v := ?_) (a' := ?_) #[true, true, true, true, true, true, true, true, true, true, true, true, false, false] rfl rfl (by kernel_rfl) (fun _ _ _ h => h) (Or.inl ⟨by rfl, ?_⟩) ?_ ?_
  rotate_left
  · intro w'
    go_simp
    with_reducible rfl
  rotate_left
  · simp only [Act.put, List.setIfInBounds_toArray, List.set_cons_zero, List.set_cons_succ, i64_w, i32_w]
    rfl
  refine one_ (i := 12) (N := some 19) #[true, true, true, true, true, true, true, true, true, true, true, true, true, false] rfl rfl (by kernel_rfl) (by decide) (fun K hK => ?_)
  refine goes_ Try.func26 (by kernel_rfl) rfl #[.pointer none] (by rfl) rfl rfl (by simp only [List.map_toArray, List.map_cons, List.map_nil]; rfl) ?_
  with_reducible refine (Sum.good_nil _).mono ?_
  rintro e w5 ⟨rfl, hb5⟩
  refine ⟨_, rfl, ?_⟩
  refine hK.out _ _ ⟨(show w5.cell? _ = _ from pw_cell_below hb5 hHeld.1), (show w5.heap[w1.heap.size]? = _ from (hb5.block _ (Array.getElem?_eq_some_iff.1 hHeld.2.1).1).trans hHeld.2.1), (below_then hHeld.2.2 hHeld.2.2.size hb5)⟩ (fun hHeld => ?_)
  clear hK K
  refine norm_ (a' := ?_) ?_ ?_
  rotate_left
  · show Act.put _ (some 19) _ = _
    simp only [Act.put, List.setIfInBounds_toArray, List.set_cons_zero, List.set_cons_succ, i64_w, i32_w]
    rfl
  refine pure_ (i := 13) (N := some 20) (v := ?_) (a' := ?_) #[true, true, true, true, true, true, true, true, true, true, true, true, true, true] rfl rfl (by kernel_rfl) (fun _ _ _ h => h) (Or.inl ⟨by rfl, ?_⟩) ?_ ?_
  rotate_left
  · intro w'
    go_simp
    with_reducible rfl
  rotate_left
  · simp only [Act.put, List.setIfInBounds_toArray, List.set_cons_zero, List.set_cons_succ, i64_w, i32_w]
    rfl
  refine done_ (by kernel_rfl) ?_
  obtain ⟨h1, h2, h3⟩ := hHeld
  have H2 := Aside0.mk h2
  have H3 := Aside0.mk h3
  have hf := frozen_of_row _ _ i _ _ h2
  clear h2 h3 hb4 hb5
  go_wp2_with fail
  have hset : (w5.setCell ⟨w1.heap.size, i, none⟩ (.int .u32 ((Crc.iter 8 i ^^^ t : Nat) : Int))).heap[w1.heap.size]? = some (.cells (Bits.tab (turned i t)) 24 (0, 0)) := by
    rw [heap_setCell_same _ _ _ _ _ _ H2.out, Bits.tab_set _ _ _ hi]; rfl
  have hbs : Below w.heap.size w (w5.setCell ⟨w1.heap.size, i, none⟩ (.int .u32 ((Crc.iter 8 i ^^^ t : Nat) : Int))) := H3.out.setCell HS.out _
  by_cases h0 : t = 0
  · subst h0
    refine (good_is true w1.heap.size _ (by rw [is_turned _ _ hi]; rfl) _ hset).mono ?_
    rintro e w6 ⟨rfl, hb6⟩
    have HB6 := Aside0.mk (below_then hbs hbs.size hb6)
    clear hb6 hset hbs h1 hf
    go_wp2_with (go_at_call 15; refine (Sum.live_any _).mono ?_; rintro e w' ⟨rfl, hbel⟩)
    go_ret
    exact ⟨rfl, below_then HB6.out HB6.out.size hbel⟩
  · have h0' : ((t : Int) == 0) = false := by simp; omega
    refine (good_is false w1.heap.size _ (by rw [is_turned _ _ hi]; exact decide_eq_false h0) _ hset).mono ?_
    rintro e w6 ⟨rfl, hb6⟩
    have HB6 := Aside0.mk (below_then hbs hbs.size hb6)
    clear hb6 hset hbs h1 hf
    go_wp2_with (go_at_call 15; refine (Sum.live_any _).mono ?_; rintro e w' ⟨rfl, hbel⟩)
    go_ret
    exact ⟨rfl, below_then HB6.out HB6.out.size hbel⟩
end SumTable
end Go.Proofs.Ytgadcnlcldjhpaa
