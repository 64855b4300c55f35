/- Blocks are unpacked: literals alone. -/
import Derived.Test.YtbnkglcgblhjeaaLawLz1
import Derived.OpenShut
set_option linter.unusedVariables false
set_option linter.unusedSimpArgs false
namespace Go.Proofs.Ytbnkglcgblhjeaa
open Go.RowKit Go.Proofs.YtbnkglcgblhjeaaW.PrintWords Go.Proofs.YtbnkglcgblhjeaaW.PrintLast Go.Proofs.YtbnkglcgblhjeaaW.PrintMore
namespace Lz
/-- A length's further bytes, written. -/
def told (n : Nat) : List Int := List.replicate (n / 255) 255 ++ [((n % 255 : Nat) : Int)]
theorem lenL_told (m : Int) (r : List Int) : ∀ (k : Nat) (d : Nat), d < 255 → lenL m (List.replicate k 255 ++ [(d : Int)] ++ r) = some (m + 255 * k + d, r) := by
  intro k
  induction k generalizing m with
  | zero => intro d hd; simp only [List.replicate_zero, List.nil_append, List.singleton_append, lenL]; rw [if_pos (by omega)]; simp
  | succ k ih =>
    intro d hd
    rw [List.replicate_succ, List.cons_append, List.cons_append]
    unfold lenL
    rw [if_neg (by omega), ih _ d hd]
    simp only [Option.some.injEq, Prod.mk.injEq, and_true]
    omega
def plain (b : List Int) : List Int := if b.length < 15 then (16 * (b.length : Int)) :: b else 240 :: (told (b.length - 15) ++ b)
theorem dec_plain {b : List Int} (h : b.length ≤ 3000) : dec (plain b) b.length = (b, 0, ((plain b).length : Int)) := by
  have hst : step (plain b).length b.length 0 (plain b) = .last b := by
    unfold plain
    by_cases h15 : b.length < 15
    · rw [if_pos h15]
      have hL : lenH (16 * (b.length : Int) / 16) b = some (((b.length : Nat) : Int), b) := by
        unfold lenH
        rw [if_pos (by omega)]
        simp
      rw [step_d hL (by omega) (by omega)]
      simp [tailS]
    · rw [if_neg h15]
      have hL : lenH ((240 : Int) / 16) (told (b.length - 15) ++ b) = some (((b.length : Nat) : Int), b) := by
        unfold lenH
        rw [if_neg (by decide)]
        unfold told
        rw [lenL_told _ _ _ _ (Nat.mod_lt _ (by decide))]
        simp only [Option.some.injEq, Prod.mk.injEq, and_true]
        have := Nat.div_add_mod (b.length - 15) 255
        omega
      rw [step_d hL (by omega) (by omega)]
      simp [tailS]
  have hrun : run (plain b).length b.length ((plain b).length + 1) 0 (plain b) = ([(b, 0, 0)], 0, 0) := by
    unfold run
    rw [hst]
  unfold dec
  rw [if_neg (by omega), hrun]
  simp [outs, cp]
theorem told_length (n : Nat) : (told n).length = n / 255 + 1 := by simp [told]
theorem plain_length (b : List Int) (h : b.length ≤ 3000) : (plain b).length ≤ 4000 := by
  unfold plain
  split
  · simp; omega
  · simp [told_length]; omega
theorem plain_isB {b : List Int} (hb : isB b) (h : b.length ≤ 3000) : isB (plain b) := by
  unfold plain
  split
  · intro x hx
    simp only [List.mem_cons] at hx
    rcases hx with rfl | hx
    · omega
    · exact hb x hx
  · intro x hx
    simp only [List.mem_cons, List.mem_append, told, List.mem_replicate, List.mem_nil_iff, or_false] at hx
    rcases hx with rfl | (⟨_, rfl⟩ | rfl) | hx
    · omega
    · omega
    · have := Nat.mod_lt (b.length - 15) (by decide : 255 > 0); omega
    · exact hb x hx
theorem own_one {w : World} {base g : Nat} {x : Int} (h : w.heap[g]? = some (.cells #[.int .u8 x] 5 (0, 0))) (hb : base ≤ g) : Row.OwnB w base (.slice (some ⟨g, 0, none⟩) 1 1) [x] :=
  Kd.R_of_own ⟨rfl, Or.inr ⟨g, 1, _, rfl, hb, h, Nat.le_refl _, by decide, rfl, rfl⟩⟩ (fun _ _ => trivial)
end Lz
namespace LzPlain
set_option maxHeartbeats 1000000 in
set_option maxRecDepth 100000 in
theorem walk (w : World) (A0 : Option Addr) (c0 : Nat) (l0 : List Int) (r0 : Kd.C (Kd.int .u8) w A0 l0.length l0) (k0 : l0.length ≤ c0) (g0 : ∀ v ∈ l0, (fun n : Int => (Lit.int .u8 n).wf = true) v) (m0 : l0.length * 1 ≤ 140737488351232) :
    Calls Try.prog 4 #[.slice A0 l0.length c0] w fun e w' => e = .returned (.bool true) ∧ Below w.heap.size w w' := by
  have hb := Aside0.mk (Lz.u8B g0)
  clear g0
  by_cases hbig : 3000 < l0.length
  · go_enter Try.func4, Try.ntmps4
    go_wp2_with (go_at_call 14; refine (Lz.live_any _).mono ?_; rintro e w' ⟨rfl, hbel⟩)
    go_ret
    exact ⟨rfl, hbel⟩
  have h1 : l0.length ≤ 3000 := by omega
  clear hbig
  have KC := Aside0.mk r0
  clear r0
  by_cases h15 : l0.length < 15
  · have hlit : Row.OwnB (w.alloc (.cells #[.int .u8 (16 * (l0.length : Int))] 5)) w.heap.size (.slice (some ⟨w.heap.size, 0, none⟩) 1 1) [16 * (l0.length : Int)] := Lz.own_one (heap_alloc_new w _) (Nat.le_refl _)
    have hal : Below w.heap.size w (w.alloc (.cells #[.int .u8 (16 * (l0.length : Int))] 5)) := below_alloc (Below.refl _ _) _
    have Kl := Aside0.mk hlit
    have Kal := Aside0.mk hal
    clear hlit hal
    go_enter Try.func4, Try.ntmps4
    go_wp2_with ((with_reducible refine gate_builtin (b := .append) (xs := #[.tmp 37, .tmp 38]) rfl ?_); apply Aside0.out)
    refine ⟨?_⟩
    refine Row.app_rows (w0 := w) w.heap.size rfl (.tmp 37) (.tmp 38) rfl _ [16 * (l0.length : Int)] l0 A0 l0.length c0 rfl rfl Kl.out (Kd.C_below KC.out Kal.out) Kal.out (Kal.out).size (by simp; omega) ?_
    intro zs A1 c1 w1 e1 e2 e3 h4 h5 e4 hb1 e5 e6 e7
    have hzs : zs = Lz.plain l0 := by
      rw [e1.out]
      unfold Lz.plain
      rw [if_pos h15]; rfl
    have hd := Lz.decode_any w1 zs A1 c1 l0.length (fun w' hB => Kd.C_below e4.out hB) (by rw [hzs]; exact Lz.plain_isB hb.out h1) (by have := Lz.plain_length l0 h1; rw [hzs]; omega) h5
    rw [show Lz.dec zs l0.length = (l0, 0, (zs.length : Int)) by rw [hzs]; exact Lz.dec_plain h1] at hd
    simp only at hd
    have Kd1 := Aside0.mk hd
    clear hd e1 e2 e3 e4 e5 e6 e7 hzs
    go_wp2_with (first | (go_at_call 16; refine (Lz.num_any _ _).mono ?_; rintro e w' ⟨rfl, rfl⟩) | (go_at_call 14; refine (Lz.live_any _).mono ?_; rintro e w' ⟨rfl, hbel⟩) | (go_at_call 15; refine Kd1.out.mono ?_; rintro e w2 ⟨v2, rfl, ho2, hb2⟩; obtain ⟨A2, c2, rfl, hle2, hC2⟩ := Row.OwnB.slice ho2; have hs1 := Kd.C_string (P := Try.prog) (c := c2) Try.underlying22 Try.underlying5 Try.underlying9 hC2; have hs2 := Kd.C_string (P := Try.prog) (c := c0) Try.underlying22 Try.underlying5 Try.underlying9 (Kd.C_below KC.out (below_then hb1.out hb1.out.size hb2)); have Kb2 := Aside0.mk (below_then hb1.out hb1.out.size hb2); clear hC2 hb2 ho2 Kd1))
    go_ret
    exact ⟨rfl, below_then Kb2.out Kb2.out.size hbel⟩
  · have h15' : (15 : Int) ≤ (l0.length : Int) := by omega
    have K15 := Aside0.mk h15
    clear h15
    have Kl := Aside0.mk (Lz.own_one (x := 240) (heap_alloc_new w (.cells #[.int .u8 240] 5)) (Nat.le_refl w.heap.size))
    have hal : Below w.heap.size w (w.alloc (.cells #[.int .u8 240] 5)) := below_alloc (Below.refl _ _) _
    have Kal := Aside0.mk hal
    clear hal
    go_enter Try.func4, Try.ntmps4
    go_wp2
    go_loopw [3, 4] (fun u i wr => ∃ (k n : Nat) (A : Option Addr) (c : Nat), 255 * k + n = l0.length - 15 ∧ i = .int .i64 n ∧ u = .slice A (1 + k) c ∧ Aside0 (Row.OwnB wr w.heap.size (.slice A (1 + k) c) (240 :: List.replicate k 255)) ∧ Aside0 (Below w.heap.size w wr)) (fun _ i _ => (intOf i).toNat)
    case atStart => exact ⟨0, l0.length - 15, _, _, by omega, by rw [Int.ofNat_sub (by omega)]; rfl, rfl, Kl, Kal⟩
    case round =>
      obtain ⟨k, n, A, c, hkn, rfl, rfl, KO, KB⟩ := hrel
      by_cases hn : 255 ≤ n
      · go_wp2_with ((with_reducible refine gate_builtin (b := .append) (xs := #[.tmp 27, .tmp 28]) rfl ?_); apply Aside0.out)
        refine ⟨?_⟩
        refine Kd.R_append (Kd.int .u8) (w0 := w) (W := wr) w.heap.size rfl (.tmp 27) (.tmp 28) 22 5 (.int .u8 0) 1 rfl Try.underlying22 Row.info8 rfl (by decide) (by decide) (.slice A (1 + k) c) (240 :: List.replicate k 255) (255 : Int) [.int .u8 255] (fun _ => True) (fun _ => False) rfl rfl rfl (fun _ h => h.elim) (fun _ _ => trivial) KO.out KB.out KB.out.size (by simp; omega) ?_
        intro v5 w5 h5 hb5 hg5 hat5
        obtain ⟨A5, c5, hv5⟩ := Kd.R_slice h5
        have hll : ((240 : Int) :: List.replicate k 255 ++ [255]).length = 1 + (k + 1) := by simp; omega
        rw [hll] at hv5
        subst hv5
        have KO5 := Aside0.mk h5
        have KB5 := Aside0.mk hb5
        clear h5 hb5 hg5 hat5 hll
        go_wp2
        refine ⟨⟨k + 1, n - 255, A5, c5, by omega, by rw [Int.ofNat_sub (by omega)]; rfl, rfl, ⟨?_⟩, KB5⟩, ?_⟩
        · have := KO5.out
          rw [List.cons_append, ← List.replicate_succ'] at this
          exact this
        · simp [intOf]
          omega
      · have hnn : n = (l0.length - 15) % 255 ∧ k = (l0.length - 15) / 255 := by omega
        have Kn := Aside0.mk hnn
        have hn2 : (n : Int) < 255 := by omega
        clear hnn
        go_wp2_with ((with_reducible refine gate_builtin (b := .append) (xs := #[.tmp 32, .tmp 35]) rfl ?_); apply Aside0.out)
        refine ⟨?_⟩
        refine Kd.R_append (Kd.int .u8) (w0 := w) (W := wr) w.heap.size rfl (.tmp 32) (.tmp 35) 22 5 (.int .u8 0) 1 rfl Try.underlying22 Row.info8 rfl (by decide) (by decide) (.slice A (1 + k) c) (240 :: List.replicate k 255) (n : Int) [.int .u8 (n : Int)] (fun _ => True) (fun _ => False) rfl rfl rfl (fun _ h => h.elim) (fun _ _ => trivial) KO.out KB.out KB.out.size (by simp; omega) ?_
        intro v5 w5 h5 hb5 hg5 hat5
        obtain ⟨A5, c5, hv5⟩ := Kd.R_slice h5
        obtain ⟨n5, hn5⟩ : ∃ n5, n5 = ((240 : Int) :: List.replicate k 255 ++ [(n : Int)]).length := ⟨_, rfl⟩
        rw [← hn5] at hv5
        have hn6 : n5 ≤ 5000 := by rw [hn5]; simp; omega
        subst hv5
        have KO5 := Aside0.mk h5
        have KB5 := Aside0.mk hb5
        have Kn5 := Aside0.mk hn5
        clear h5 hb5 hg5 hat5 hn5
        go_wp2_with ((with_reducible refine gate_builtin (b := .append) (xs := #[.tmp 37, .tmp 38]) rfl ?_); apply Aside0.out)
        refine ⟨?_⟩
        refine Row.app_rows (w0 := w) w.heap.size rfl (.tmp 37) (.tmp 38) rfl _ ((240 : Int) :: List.replicate k 255 ++ [(n : Int)]) l0 A0 l0.length c0 rfl rfl KO5.out (Kd.C_below KC.out KB5.out) KB5.out (KB5.out).size (by rw [← Kn5.out]; omega) ?_
        intro zs A1 c1 w1 e1 e2 e3 h4 h5 e4 hb1 e5 e6 e7
        have hzs : zs = Lz.plain l0 := by
          rw [e1.out]
          unfold Lz.plain Lz.told
          rw [if_neg K15.out, ← Kn.out.1, ← Kn.out.2]; simp
        have hd := Lz.decode_any w1 zs A1 c1 l0.length (fun w' hB => Kd.C_below e4.out hB) (by rw [hzs]; exact Lz.plain_isB hb.out h1) (by have := Lz.plain_length l0 h1; rw [hzs]; omega) h5
        rw [show Lz.dec zs l0.length = (l0, 0, (zs.length : Int)) by rw [hzs]; exact Lz.dec_plain h1] at hd
        simp only at hd
        have Kd1 := Aside0.mk hd
        clear hd e1 e2 e3 e4 e5 e6 e7 hzs
        go_wp2_with (first | (go_at_call 16; refine (Lz.num_any _ _).mono ?_; rintro e w' ⟨rfl, rfl⟩) | (go_at_call 14; refine (Lz.live_any _).mono ?_; rintro e w' ⟨rfl, hbel⟩) | (go_at_call 15; refine Kd1.out.mono ?_; rintro e w2 ⟨v2, rfl, ho2, hb2⟩; obtain ⟨A2, c2, rfl, hle2, hC2⟩ := Row.OwnB.slice ho2; have hs1 := Kd.C_string (P := Try.prog) (c := c2) Try.underlying22 Try.underlying5 Try.underlying9 hC2; have hs2 := Kd.C_string (P := Try.prog) (c := c0) Try.underlying22 Try.underlying5 Try.underlying9 (Kd.C_below KC.out (below_then hb1.out hb1.out.size hb2)); have Kb2 := Aside0.mk (below_then hb1.out hb1.out.size hb2); clear hC2 hb2 ho2 Kd1))
        go_ret
        exact ⟨rfl, below_then Kb2.out Kb2.out.size hbel⟩

end LzPlain
end Go.Proofs.Ytbnkglcgblhjeaa
