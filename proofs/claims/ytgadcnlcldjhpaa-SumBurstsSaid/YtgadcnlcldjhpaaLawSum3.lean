/- The walks of the laws on sums: SumParts, SumBursts. -/
import Derived.Test.YtgadcnlcldjhpaaLawSum2
import Derived.Test.YtgadcnlcldjhpaaRow
namespace Go.Proofs.Ytgadcnlcldjhpaa
open Go.RowKit Go.Proofs.YtgadcnlcldjhpaaW.PrintWords Go.Proofs.YtgadcnlcldjhpaaW.PrintLast Go.Proofs.YtgadcnlcldjhpaaW.PrintMore
set_option linter.unusedVariables false
set_option linter.unusedSimpArgs false
namespace Sum
theorem nat_of {l : List Int} (h : ∀ x ∈ l, 0 ≤ x ∧ x < 256) : ∀ x ∈ l.map Int.toNat, x < 256 := by
  intro x hx
  obtain ⟨y, hy, rfl⟩ := List.mem_map.1 hx
  have := h y hy
  omega
theorem crc_lt (c : Nat) (l : List Int) : crc c l < 4294967296 := by unfold crc; omega
theorem crcT_lt (T : Nat → Nat) (c : Nat) (l : List Int) : crcT T c l < 4294967296 := by unfold crcT; omega
theorem crc_append (c : Nat) (a b : List Int) (ha : ∀ x ∈ a, 0 ≤ x ∧ x < 256) : crc c (a ++ b) = crc (crc c a) b := by
  have h := Crc.run_lt (4294967295 - c) (a.map Int.toNat) (by omega) (nat_of ha)
  unfold crc
  rw [List.map_append, Crc.run_append, show 4294967295 - (4294967295 - Crc.run (4294967295 - c) (a.map Int.toNat)) = Crc.run (4294967295 - c) (a.map Int.toNat) from by omega]
theorem runT_lt (T : Nat → Nat) (hT : ∀ i, i < 256 → T i < 4294967296) (c : Nat) (l : List Nat) (hc : c < 4294967296) (hl : ∀ x ∈ l, x < 256) : Bits.runT T c l < 4294967296 := by
  induction l generalizing c with
  | nil => exact hc
  | cons x l ih => exact ih _ (Bits.stepT_lt T hT c x hc (hl x (by simp))) (fun y hy => hl y (by simp [hy]))
theorem crcT_append (T : Nat → Nat) (hT : ∀ i, i < 256 → T i < 4294967296) (c : Nat) (a b : List Int) (ha : ∀ x ∈ a, 0 ≤ x ∧ x < 256) : crcT T c (a ++ b) = crcT T (crcT T c a) b := by
  have h := runT_lt T hT (4294967295 - c) (a.map Int.toNat) (by omega) (nat_of ha)
  unfold crcT
  rw [List.map_append, Bits.runT_append, show 4294967295 - (4294967295 - Bits.runT T (4294967295 - c) (a.map Int.toNat)) = Bits.runT T (4294967295 - c) (a.map Int.toNat) from by omega]
theorem dig_append (d : Nat) (a b : List Int) : dig d (a ++ b) = dig (dig d a) b := by
  unfold dig
  rw [List.map_append, Bits.digest_append]
theorem dig_lt (d : Nat) (hd : d < 18446744073709551616) (l : List Int) : dig d l < 18446744073709551616 := Bits.digest_lt _ _ hd
theorem C_old {WT w1 : World} {B : Nat} {A : Option Addr} {l : List Int} (h : Kd.C (Kd.int .u8) WT A l.length l) (HS : Aside0 (WT.heap.size = B)) (hb : Aside0 (Below B WT w1)) : Aside0 (Kd.C (Kd.int .u8) w1 A l.length l) :=
  ⟨Kd.C_below h (by rw [HS.out]; exact hb.out)⟩
theorem kept_old {WT w1 : World} {B g : Nat} {o : Obj} (h : Aside0 (WT.heap[g]? = some o)) (HS : Aside0 (WT.heap.size = B)) (hb : Aside0 (Below B WT w1)) : Aside0 (w1.heap[g]? = some o) :=
  ⟨by rw [hb.out.block g (by rw [← HS.out]; exact (Array.getElem?_eq_some_iff.1 h.out).1)]; exact h.out⟩
theorem joined {z1 z2 l0 l1 : List Int} (h1 : Aside0 (z1 = [] ++ l0)) (h2 : Aside0 (z2 = z1 ++ l1)) : Aside0 (z2 = l0 ++ l1) := ⟨by rw [h2.out, h1.out]; rfl⟩
end Sum
namespace SumParts
set_option maxHeartbeats 2000000 in
theorem walk (w : World) (A0 : Option Addr) (c0 : Nat) (l0 : List Int) (r0 : Kd.C (Kd.int .u8) w A0 l0.length l0) (k0 : l0.length ≤ c0) (g0 : ∀ v ∈ l0, (fun n : Int => (Lit.int .u8 n).wf = true) v) (m0 : l0.length * 1 ≤ 140737488351232) (A1 : Option Addr) (c1 : Nat) (l1 : List Int) (r1 : Kd.C (Kd.int .u8) w A1 l1.length l1) (k1 : l1.length ≤ c1) (g1 : ∀ v ∈ l1, (fun n : Int => (Lit.int .u8 n).wf = true) v) (m1 : l1.length * 1 ≤ 140737488351232) (cs2 : Array Value) (x2 : List Int) (r2 : cs2.toList = nums .u32 x2 ∧ x2.length = 256 ∧ ∀ x ∈ x2, (Lit.int .u32 x).wf = true) :
    Calls Try.prog 5 #[.slice A0 l0.length c0, .slice A1 l1.length c1, .agg cs2] w fun e w' => e = .returned (.bool true) ∧ Below w.heap.size w w' := by
  obtain ⟨T, rfl, hT⟩ := Sum.tab_of r2
  have HL0 := Aside0.mk (u8s g0)
  have HL1 := Aside0.mk (u8s g1)
  have HR0 := Aside0.mk r0
  have HR1 := Aside0.mk r1
  have HT := Aside0.mk hT
  have hm0 : l0.length ≤ 140737488351232 := by omega
  have hm1 : l1.length ≤ 140737488351232 := by omega
  clear g0 g1 r0 r1 m0 m1 r2 hT
  go_enter Try.func5, Try.ntmps5
  by_cases ha : 5000 < l0.length
  · go_wp2_with (go_at_call 15; refine (Sum.live_any _).mono ?_; rintro e w' ⟨rfl, hbel⟩)
    go_ret
    exact ⟨rfl, below_then (below_alloc (Below.refl _ _) _) (below_alloc (Below.refl _ _) _).size hbel⟩
  by_cases hb : 5000 < l1.length
  · go_wp2_with (go_at_call 15; refine (Sum.live_any _).mono ?_; rintro e w' ⟨rfl, hbel⟩)
    go_ret
    exact ⟨rfl, below_then (below_alloc (Below.refl _ _) _) (below_alloc (Below.refl _ _) _).size hbel⟩
  have HW : Aside0 (Below w.heap.size w (w.alloc (.cells (Bits.tab T) 24))) := ⟨below_alloc (Below.refl _ _) _⟩
  have HG : Aside0 ((w.alloc (.cells (Bits.tab T) 24)).heap[w.heap.size]? = some (.cells (Bits.tab T) 24 (0, 0))) := ⟨heap_alloc_new _ _⟩
  have HR0' := Aside0.mk (Kd.C_below HR0.out HW.out)
  have HR1' := Aside0.mk (Kd.C_below HR1.out HW.out)
  have HB0 : Aside0 (Below (w.heap.size + 1) (w.alloc (.cells (Bits.tab T) 24)) ((w.alloc (.cells (Bits.tab T) 24)).alloc (.cells #[] 5))) := ⟨by
    have h := below_alloc (Below.refl (w.alloc (.cells (Bits.tab T) 24)).heap.size (w.alloc (.cells (Bits.tab T) 24))) (.cells #[] 5)
    simpa using h⟩
  have HO0 : Aside0 (Row.OwnB ((w.alloc (.cells (Bits.tab T) 24)).alloc (.cells #[] 5)) (w.heap.size + 1) (.slice (some ⟨w.heap.size + 1, 0, none⟩) 0 0) []) := ⟨by
    have h := Row.OwnB.lit (w.alloc (.cells (Bits.tab T) 24)) (w.heap.size + 1) #[] [] rfl (by simp) (by decide)
    simpa using h⟩
  clear HR0 HR1
  have HS : Aside0 ((w.alloc (.cells (Bits.tab T) 24)).heap.size = w.heap.size + 1) := ⟨by simp⟩
  generalize hWT : w.alloc (.cells (Bits.tab T) 24) = WT at HW HG HR0' HR1' HB0 HO0 HS
  have HWT := Aside0.mk hWT
  clear hWT
  have HR0 : Aside0 (Kd.C (Kd.int .u8) (WT.alloc (.cells #[] 5)) A0 l0.length l0) := ⟨Kd.C_alloc HR0'.out _⟩
  rw [← HWT.out] at HR0 HB0 HO0
  go_wp2_with (first | ((with_reducible refine gate_builtin (b := .append) (xs := #[.tmp 17, .tmp 18]) rfl ?_); refine Row.app_rows (w.heap.size + 1) rfl (.tmp 17) (.tmp 18) rfl (.slice (some ⟨w.heap.size + 1, 0, none⟩) 0 0) [] l0 A0 _ c0 rfl rfl HO0.out HR0.out HB0.out (by simp) (by simp; omega) ?_; intro z1 B1 d1 w1 hz1 ho1 hl1 hl1' hc1 hr1 hb1 hs1 hg1 ha1; simp only [List.length_nil, Nat.zero_add] at hl1'; rw [HWT.out] at hb1; clear HB0 HO0 HR0 hg1 ha1; have HR1 := Sum.C_old HR1'.out HS hb1) | ((with_reducible refine gate_builtin (b := .append) (xs := #[.tmp 19, .tmp 20]) rfl ?_); refine Row.app_rows (w.heap.size + 1) rfl (.tmp 19) (.tmp 20) rfl (.slice B1 z1.length d1) z1 l1 A1 _ c1 rfl rfl ho1.out HR1.out hb1.out hs1.out (by omega) ?_; intro z2 B2 d2 w2 hz2 ho2 hl2 hl2' hc2 hr2 hb2 hs2 hg2 ha2; have HR2 := Sum.C_old HR1'.out HS hb2; have HR3 := Sum.C_old HR0'.out HS hb2; have HG2 := Sum.kept_old HG HS hb2; have HZ := Sum.joined hz1 hz2; clear hg2 ha2 hz1 hz2 HR1 hb1 hs1 ho1 hr1))
  have hm2 : z2.length ≤ 140737488351232 := by omega
  have HL2 : Aside0 (∀ x ∈ z2, 0 ≤ x ∧ x < 256) := ⟨fun x hx => by rw [HZ.out] at hx; rcases List.mem_append.1 hx with h | h; exact HL0.out x h; exact HL1.out x h⟩
  have q1 : Sum.crc 0 z2 = Sum.crc (Sum.crc 0 l0) l1 := by rw [HZ.out]; exact Sum.crc_append 0 l0 l1 HL0.out
  have q2 : Sum.crcT T 0 z2 = Sum.crcT T (Sum.crcT T 0 l0) l1 := by rw [HZ.out]; exact Sum.crcT_append T HT.out 0 l0 l1 HL0.out
  have q3 : Sum.dig 14695981039346656037 z2 = Sum.dig (Sum.dig 14695981039346656037 l0) l1 := by rw [HZ.out]; exact Sum.dig_append _ l0 l1
  have HC : Aside0 (∀ i, i < 256 → w2.cell? ⟨w.heap.size, i, none⟩ = some (.int .u32 (T i : Nat))) := ⟨fun i hi => by rw [cell_of_row _ _ _ _ _ _ HG2.out]; exact Bits.tab_at _ _ hi⟩
  go_wp2_with (first | (go_at_call 22; first | ((with_reducible refine (Sum.crc_nil B2 d2 z2 _ hr2.out hm2 HL2.out).mono ?_); rintro e w' ⟨rfl, rfl⟩) | ((with_reducible refine (Sum.crc_nil A0 c0 l0 _ HR3.out hm0 HL0.out).mono ?_); rintro e w' ⟨rfl, rfl⟩) | ((with_reducible refine (Sum.crc_tab w.heap.size T HT.out B2 d2 z2 _ HC.out hr2.out hm2 HL2.out).mono ?_); rintro e w' ⟨rfl, rfl⟩) | ((with_reducible refine (Sum.crc_tab w.heap.size T HT.out A0 c0 l0 _ HC.out HR3.out hm0 HL0.out).mono ?_); rintro e w' ⟨rfl, rfl⟩)) | (go_at_call 16; first | ((with_reducible refine (Sum.more_nil (Sum.crc 0 l0) (Sum.crc_lt _ _) A1 c1 l1 _ HR2.out hm1 HL1.out).mono ?_); rintro e w' ⟨rfl, rfl⟩) | ((with_reducible refine (Sum.more_tab w.heap.size T HT.out (Sum.crcT T 0 l0) (Sum.crcT_lt _ _ _) A1 c1 l1 _ HC.out HR2.out hm1 HL1.out).mono ?_); rintro e w' ⟨rfl, rfl⟩)) | (go_at_call 20; first | ((with_reducible refine (Sum.digest_any B2 d2 z2 _ hr2.out hm2 HL2.out).mono ?_); rintro e w' ⟨rfl, rfl⟩) | ((with_reducible refine (Sum.digest_any A0 c0 l0 _ HR3.out hm0 HL0.out).mono ?_); rintro e w' ⟨rfl, rfl⟩)) | (go_at_call 18; refine (Sum.on_any (Sum.dig 14695981039346656037 l0) ⟨Sum.dig_lt _ (by decide) _⟩ A1 c1 l1 _ HR2.out hm1 HL1.out).mono ?_; rintro e w' ⟨rfl, rfl⟩) | (go_at_call 15; refine (Sum.live_any _).mono ?_; rintro e w' ⟨rfl, hbel⟩))
  go_ret
  have hb2' : Below w.heap.size w w2 := below_then HW.out HW.out.size (by rw [HS.out]; exact hb2.out)
  exact ⟨rfl, below_then hb2' hb2'.size hbel⟩
end SumParts
end Go.Proofs.Ytgadcnlcldjhpaa
