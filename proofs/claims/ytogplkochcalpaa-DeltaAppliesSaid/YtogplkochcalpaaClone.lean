/- Bytes in new memory, by bytes.Clone: a walk. -/
import Derived.Test.YtogplkochcalpaaRow
import Derived.Lib.SliceRun
set_option linter.unusedVariables false
set_option linter.unusedSimpArgs false
namespace Go.Proofs.Ytogplkochcalpaa.Eq_
open Go.RowKit Go.Proofs.YtogplkochcalpaaW.PrintWords Go.Proofs.YtogplkochcalpaaW.PrintLast Go.Proofs.YtogplkochcalpaaW.PrintMore
set_option maxHeartbeats 1000000 in
set_option maxRecDepth 100000 in
theorem clone_any (w : World) (A : Option Addr) (n c : Nat) (xs : List Int) (hC : Kd.C (Kd.int .u8) w A n xs) (hn : n ≤ 140737488355328) :
    Calls Try.prog 36 #[.slice A n c] w fun e w' => ∃ v, e = .returned v ∧ Row.OwnB w' w.heap.size v xs ∧ Below w.heap.size w w' := by
  have hlen := hC.1
  have hnil := fun w => Lib.run_eql_slice_nil (P := Try.prog) w 22 5 A n c 0 0 Try.underlying22
  have Kl := Aside0.mk hlen
  have KC := Aside0.mk hC
  have Khn := Aside0.mk hn
  clear hn
  cases A with
  | none =>
    have h0 : n = 0 := by
      rcases Nat.eq_zero_or_pos n with h | h
      · exact h
      · obtain ⟨ad, e, _⟩ := hC.2.2 h; cases e
    obtain rfl : xs = [] := List.eq_nil_of_length_eq_zero (by rw [hlen]; exact h0)
    subst h0
    clear hC hlen KC Khn Kl
    go_enter Try.func36, Try.ntmps36
    go_wp2
    go_ret
    exact ⟨_, rfl, Row.OwnB.nil _ _, Below.refl _ _⟩
  | some ad =>
    have hal : Below w.heap.size w (w.alloc (.cells #[] 5)) := below_alloc (Below.refl _ _) _
    have Kal := Aside0.mk hal
    have KO := Aside0.mk (Row.OwnB.lit w w.heap.size #[] [] rfl (Nat.le_refl _) (by simp))
    clear hC hal hlen
    go_enter Try.func36, Try.ntmps36
    go_wp2_with ((with_reducible refine gate_builtin (b := .append) (xs := #[.tmp 5, .tmp 6]) rfl ?_); apply Aside0.out)
    refine ⟨?_⟩
    refine Row.app_rows (w0 := w) w.heap.size rfl (.tmp 5) (.tmp 6) rfl (.slice (some ⟨w.heap.size, 0, none⟩) 0 0) [] xs (some ad) n c rfl rfl KO.out (Kd.C_below KC.out Kal.out) Kal.out Kal.out.size (by have := Khn.out; simp; omega) ?_
    intro zs A5 c5 w5 e1 e2 e3 h4 h5 e4 hb5 e5 e6 e7
    obtain rfl : zs = xs := by rw [e1.out]; rfl
    have K5 := Aside0.mk e2.out
    have Kb5 := Aside0.mk hb5.out
    clear e1 e2 e3 h4 e4 e5 e6 e7
    go_wp2
    go_ret
    exact ⟨_, rfl, K5.out, Kb5.out⟩
end Go.Proofs.Ytogplkochcalpaa.Eq_
