/- Tails in fragments: a new packer. -/
import Derived.Test.YtbnkglcgblhjeaaArr
import Derived.Test.YtbnkglcgblhjeaaWMore
import Derived.Test.YtbnkglcgblhjeaaRows
set_option linter.unusedVariables false
set_option linter.unusedSimpArgs false
namespace Go.Proofs.Ytbnkglcgblhjeaa.Frag
open Go.RowKit Go.Proofs.YtbnkglcgblhjeaaW.PrintWords Go.Proofs.YtbnkglcgblhjeaaW.PrintLast Go.Proofs.YtbnkglcgblhjeaaW.PrintMore
theorem num_any (x : Int) (w : World) : Calls Try.prog 26 #[.int .i64 x] w fun e w' => e = .returned (.int .i64 x) ∧ w = w' := by
  go_enter Try.func26, Try.ntmps26
  go_wp2
  go_ret
  exact ⟨rfl, rfl⟩
theorem new_err (n : Int) (h : n < 12 ∨ (12 ≤ n ∧ 20 < n)) (v : Value) (w : World) : Calls Try.prog 25 #[.int .i64 n, v] w fun e w' => e = .returned (.tuple #[.pointer none, .int .i64 1]) ∧ w = w' := by
  rcases h with h | ⟨h0, h⟩
  all_goals
    go_enter Try.func25, Try.ntmps25
    go_wp2
    go_ret2
    exact ⟨rfl, rfl⟩
theorem new_ok (n : Int) (h0 : 12 ≤ n) (h1 : n ≤ 20) (x : Nat) (w : World) : Calls Try.prog 25 #[.int .i64 n, .float .f64 x] w fun e w' => e = .returned (.tuple #[.pointer (some ⟨w.heap.size, 0, none⟩), .int .i64 0]) ∧ w' = w.alloc (.cells #[.int .i64 (wrap64 (2 ^ n.toNat)), .float .f64 x, .int .i64 0, .slice none 0 0] 90) := by
  go_enter Try.func25, Try.ntmps25
  go_wp2
  go_ret2
  exact ⟨rfl, rfl⟩
theorem count_nil (w : World) : Calls Try.prog 28 #[.pointer none] w fun e w' => e = .returned (.int .i64 0) ∧ w = w' := by
  go_enter Try.func28, Try.ntmps28
  go_wp2
  go_ret
  exact ⟨rfl, rfl⟩
theorem count_some (a : Nat) (A : Option Addr) (n c : Nat) (w : World) (h : w.cell? ⟨a, 3, none⟩ = some (.slice A n c)) : Calls Try.prog 28 #[.pointer (some ⟨a, 0, none⟩)] w fun e w' => e = .returned (.int .i64 n) ∧ w = w' := by
  go_enter Try.func28, Try.ntmps28
  go_wp2
  go_ret
  exact ⟨rfl, rfl⟩
theorem last_none (a : Nat) (A : Option Addr) (c : Nat) (w : World) (h : w.cell? ⟨a, 3, none⟩ = some (.slice A 0 c)) : Calls Try.prog 45 #[.pointer (some ⟨a, 3, none⟩)] w fun e w' => e = .returned (.pointer none) ∧ w = w' := by
  go_enter Try.func45, Try.ntmps45
  go_wp2
  go_ret
  exact ⟨rfl, rfl⟩
theorem last_some (a : Nat) (b o n c : Nat) (hn : 1 ≤ n) (hm : n ≤ 70000) (w : World) (h : w.cell? ⟨a, 3, none⟩ = some (.slice (some ⟨b, o, none⟩) n c)) : Calls Try.prog 45 #[.pointer (some ⟨a, 3, none⟩)] w fun e w' => e = .returned (.pointer (some ⟨b, o + (n - 1), none⟩)) ∧ ∃ k, w' = w.drewN k := by
  have hn0 : ((n : Int) == 0) = false := by simp; omega
  go_enter Try.func45, Try.ntmps45
  go_wp2
  go_quiet (fail)
  go_wp2
  go_ret
  exact ⟨rfl, _, rfl⟩
end Go.Proofs.Ytbnkglcgblhjeaa.Frag
