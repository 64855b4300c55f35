/- Deltas: the page's example: walks. -/
import Derived.Test.YtogplkochcalpaaDe5
import Derived.Test.YtogplkochcalpaaEqb
import Derived.Carry
set_option linter.unusedVariables false
set_option linter.unusedSimpArgs false
namespace Go.Proofs.Ytogplkochcalpaa.De
open Go.RowKit Go.Proofs.Ytogplkochcalpaa.PD Go.Proofs.Ytogplkochcalpaa.Fd Go.Proofs.Ytogplkochcalpaa.Bg Go.Proofs.YtogplkochcalpaaW.PrintWords Go.Proofs.YtogplkochcalpaaW.PrintLast Go.Proofs.YtogplkochcalpaaW.PrintMore
/-- Old bytes without a piece. -/
theorem index_short {w0 w : World} {g : Nat} {A : Option Addr} {n ca : Nat} {sb : Value} (h : MS w0 g (.slice A n ca) sb none w (.slice none 0 0) [] 0) (hn : n < 16) :
    Calls Try.prog 52 #[.pointer (some ⟨g, 0, none⟩)] w fun e w' => e = .returned (.tuple #[]) ∧ ∃ m, MS w0 g (.slice A n ca) sb (some m) w' (.slice none 0 0) [] 0 := by
  have hmm := @run_makeMap Try.prog
  obtain ⟨w1, hw1⟩ : ∃ w1, w1 = w.alloc (.map #[] 0) := ⟨_, rfl⟩
  have hal : Below w.heap.size w w1 := by rw [hw1]; exact below_alloc (Below.refl _ _) _
  have h1 := h.keep hal
  have K2 : Aside0 (MS w0 g (.slice A n ca) sb (some w.heap.size) (w1.setCell ⟨g, 2, none⟩ (.map (some w.heap.size))) (.slice none 0 0) [] 0) := ⟨⟨blk_set h1.blk 2 _, Kd.N_nil _ _ _ _ _, h1.below.setCell h1.bg _, h1.bg⟩⟩
  rw [hw1] at K2 h1
  obtain ⟨c0, c1, c2, c3, c4⟩ := h1.cells
  have hf := h1.frozen 2
  obtain ⟨d0, d1, d2, d3, d4⟩ := K2.out.cells
  clear hal h h1 hw1
  go_enter Try.func52, Try.ntmps52
  go_wp2
  go_loop [2] (fun i => i = .int .i64 0) (fun _ => 0)
  case atStart => exact rfl
  case round =>
    subst hrel
    go_wp2
    go_end0
    exact ⟨rfl, _, K2.out⟩
theorem num_any (n : Int) (w : World) : Calls Try.prog 12 #[.int .i64 n] w fun e w' => e = .returned (.int .i64 n) ∧ w = w' := by
  go_enter Try.func12, Try.ntmps12
  go_wp2
  go_ret
  exact ⟨rfl, rfl⟩
set_option maxHeartbeats 4000000 in
/-- Short bytes by short ones: all of them as they are. -/
theorem run_short {w0 w : World} {g : Nat} {A B : Option Addr} {n ca cb : Nat} (b : List Int) (h : MS w0 g (.slice A n ca) (.slice B b.length cb) none w (.slice none 0 0) [] 0) (hn : n < 16) (hb : b.length < 16) (hC : Kd.C (Kd.int .u8) w0 B b.length b) (hcb : b.length ≤ cb) (h0 : 0 < b.length) :
    Calls Try.prog 29 #[.pointer (some ⟨g, 0, none⟩)] w fun e w' => e = .returned (.tuple #[]) ∧ ∃ m ov, MS w0 g (.slice A n ca) (.slice B b.length cb) (some m) w' ov [⟨0, 0, b⟩] b.length := by
  have KI := Aside0.mk (index_short h hn)
  obtain ⟨k, hk⟩ : ∃ k, k = b.length := ⟨_, rfl⟩
  have KD : Aside0 (∀ w1 m, MS w0 g (.slice A n ca) (.slice B k cb) (some m) w1 (.slice none 0 0) [] 0 → _) := ⟨fun w1 m h1 => by rw [hk] at h1; exact data_any b 0 b.length h1 hC hcb (by omega) (Nat.le_refl _) (by omega) (by simp)⟩
  have KP : Aside0 (dataP [] b 0 b.length = [⟨0, 0, b⟩]) := ⟨by unfold dataP; rw [if_pos h0]; simp⟩
  rw [KP.out] at KD
  rw [← hk] at KI hb ⊢
  rw [← hk] at KD
  clear h hC hcb h0 hk
  go_enter Try.func29, Try.ntmps29
  go_wp2_with (go_at_call 52; apply Aside0.out)
  refine ⟨?_⟩
  refine KI.out.mono ?_
  rintro e w1 ⟨rfl, m, h1⟩
  have K1 := Aside0.mk h1
  obtain ⟨c0, c1, c2, c3, c4⟩ := h1.cells
  clear h1
  go_wp2
  go_loop [2] (fun i => i = .int .i64 0) (fun _ => 0)
  case atStart => exact rfl
  case round =>
    subst hrel
    go_wp2_with (go_at_call 54; apply Aside0.out)
    refine ⟨?_⟩
    refine (KD.out w1 m K1.out).mono ?_
    rintro e w2 ⟨rfl, ⟨ov, h2⟩, -⟩
    have K2 := Aside0.mk h2
    clear h2
    go_wp2
    go_end0
    exact ⟨rfl, m, ov, K2.out⟩
end Go.Proofs.Ytogplkochcalpaa.De
