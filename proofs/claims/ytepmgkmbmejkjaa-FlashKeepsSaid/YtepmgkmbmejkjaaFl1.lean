/- A flash memory: which geometries may be; blank. -/
import Derived.Test.YtepmgkmbmejkjaaArr
import Derived.Test.YtepmgkmbmejkjaaWMore
import Derived.Test.YtepmgkmbmejkjaaWZeros
import Derived.Test.YtepmgkmbmejkjaaRows
import Derived.Test.YtepmgkmbmejkjaaRow
import Derived.OpenShut
set_option linter.unusedVariables false
set_option linter.unusedSimpArgs false
namespace Go.Proofs.Ytepmgkmbmejkjaa.Fl
open Go.RowKit Go.Proofs.YtepmgkmbmejkjaaW.PrintWords Go.Proofs.YtepmgkmbmejkjaaW.PrintLast Go.Proofs.YtepmgkmbmejkjaaW.PrintMore
theorem num_any (n : Int) (w : World) : Calls Try.prog 11 #[.int .i64 n] w fun e w' => e = .returned (.int .i64 n) ∧ w = w' := by
  go_enter Try.func11, Try.ntmps11
  go_wp2
  go_ret
  exact ⟨rfl, rfl⟩
/-- From low to high? -/
def btw (n lo hi : Int) : Bool := decide (lo ≤ n) && decide (n ≤ hi)
theorem btw_yes {n lo hi : Int} (h : lo ≤ n) (h2 : n ≤ hi) : btw n lo hi = true := by unfold btw; simp [h, h2]
theorem btw_no {n lo hi : Int} (h : n < lo ∨ hi < n) : btw n lo hi = false := by unfold btw; rcases h with h | h <;> simp <;> omega
theorem between_any (n lo hi : Int) (w : World) : Calls Try.prog 41 #[.int .i64 n, .int .i64 lo, .int .i64 hi] w fun e w' => e = .returned (.bool (btw n lo hi)) ∧ w = w' := by
  by_cases h : lo ≤ n
  · by_cases h2 : n ≤ hi
    · rw [btw_yes h h2]
      go_enter Try.func41, Try.ntmps41
      go_wp2
      go_ret
      exact ⟨rfl, rfl⟩
    · rw [btw_no (Or.inr (by omega))]
      have h3 : decide (n ≤ hi) = false := decide_eq_false h2
      go_enter Try.func41, Try.ntmps41
      go_wp2
      go_ret
      exact ⟨rfl, rfl⟩
  · rw [btw_no (Or.inl (by omega))]
    have h3 : decide (lo ≤ n) = false := decide_eq_false h
    go_enter Try.func41, Try.ntmps41
    go_wp2
    go_ret
    exact ⟨rfl, rfl⟩
/-- What is wrong with a geometry. -/
def chk (S P B : Int) : Int :=
  if (1 ≤ S ∧ S ≤ 4096) ∧ (1 ≤ P ∧ P ≤ 1024) ∧ (16 ≤ B ∧ B ≤ 65536) then (if 16777216 < S * P * B then 2 else 0) else 1
theorem mul3 {S P B : Int} (h : (1 ≤ S ∧ S ≤ 4096) ∧ (1 ≤ P ∧ P ≤ 1024) ∧ (16 ≤ B ∧ B ≤ 65536)) : 1 ≤ S * P ∧ S * P ≤ 4194304 ∧ 1 ≤ S * P * B ∧ S * P * B ≤ 274877906944 := by
  obtain ⟨⟨a1, a2⟩, ⟨b1, b2⟩, ⟨c1, c2⟩⟩ := h
  have e1 : 1 * 1 ≤ S * P := Int.mul_le_mul a1 b1 (by omega) (by omega)
  have e2 : S * P ≤ 4096 * 1024 := Int.mul_le_mul a2 b2 (by omega) (by omega)
  have e3 : 1 * 16 ≤ S * P * B := Int.mul_le_mul (by omega) c1 (by omega) (by omega)
  have e4 : S * P * B ≤ 4194304 * 65536 := Int.mul_le_mul (by omega) c2 (by omega) (by omega)
  omega
theorem chk_ok {S P B : Int} (h : chk S P B = 0) : ((1 ≤ S ∧ S ≤ 4096) ∧ (1 ≤ P ∧ P ≤ 1024) ∧ (16 ≤ B ∧ B ≤ 65536)) ∧ S * P * B ≤ 16777216 := by
  unfold chk at h
  split at h
  · rename_i h1
    split at h
    · cases h
    · exact ⟨h1, by omega⟩
  · cases h
set_option maxHeartbeats 1000000 in
theorem check_any (S P B : Int) (w : World) : Calls Try.prog 12 #[.agg #[.int .i64 S, .int .i64 P, .int .i64 B]] w fun e w' => e = .returned (.int .i64 (chk S P B)) ∧ Below w.heap.size w w' := by
  have hal : Below w.heap.size w (w.alloc (.cells #[.int .i64 S, .int .i64 P, .int .i64 B] 23)) := below_alloc (Below.refl _ _) _
  have Kal := Aside0.mk hal
  clear hal
  unfold chk
  by_cases h1 : 1 ≤ S ∧ S ≤ 4096
  · by_cases h2 : 1 ≤ P ∧ P ≤ 1024
    · by_cases h3 : 16 ≤ B ∧ B ≤ 65536
      · rw [if_pos ⟨h1, h2, h3⟩]
        have hm := mul3 ⟨h1, h2, h3⟩
        obtain ⟨m1, m2, m3, m4⟩ := hm
        obtain ⟨x, hx⟩ : ∃ x, S * P = x := ⟨_, rfl⟩
        rw [hx] at m1 m2 m3 m4 ⊢
        obtain ⟨y, hy⟩ : ∃ y, x * B = y := ⟨_, rfl⟩
        rw [hy] at m3 m4 ⊢
        have b1 := btw_yes h1.1 h1.2
        have b2 := btw_yes h2.1 h2.2
        have b3 := btw_yes h3.1 h3.2
        clear h1 h2 h3
        by_cases hbig : 16777216 < y
        · rw [if_pos hbig]
          go_enter Try.func12, Try.ntmps12
          go_wp2_with (go_at_call 41; refine (between_any _ _ _ _).mono ?_; rintro e w' ⟨rfl, rfl⟩)
          go_ret
          exact ⟨rfl, Kal.out⟩
        · rw [if_neg hbig]
          go_enter Try.func12, Try.ntmps12
          go_wp2_with (go_at_call 41; refine (between_any _ _ _ _).mono ?_; rintro e w' ⟨rfl, rfl⟩)
          go_ret
          exact ⟨rfl, Kal.out⟩
      · rw [if_neg (fun h => h3 h.2.2)]
        have b1 := btw_yes h1.1 h1.2
        have b2 := btw_yes h2.1 h2.2
        have b3 : btw B 16 65536 = false := btw_no (by omega)
        clear h1 h2 h3
        go_enter Try.func12, Try.ntmps12
        go_wp2_with (go_at_call 41; refine (between_any _ _ _ _).mono ?_; rintro e w' ⟨rfl, rfl⟩)
        go_ret
        exact ⟨rfl, Kal.out⟩
    · rw [if_neg (fun h => h2 h.2.1)]
      have b1 := btw_yes h1.1 h1.2
      have b2 : btw P 1 1024 = false := btw_no (by omega)
      clear h1 h2
      go_enter Try.func12, Try.ntmps12
      go_wp2_with (go_at_call 41; refine (between_any _ _ _ _).mono ?_; rintro e w' ⟨rfl, rfl⟩)
      go_ret
      exact ⟨rfl, Kal.out⟩
  · rw [if_neg (fun h => h1 h.1)]
    have b1 : btw S 1 4096 = false := btw_no (by omega)
    clear h1
    go_enter Try.func12, Try.ntmps12
    go_wp2_with (go_at_call 41; refine (between_any _ _ _ _).mono ?_; rintro e w' ⟨rfl, rfl⟩)
    go_ret
    exact ⟨rfl, Kal.out⟩
set_option maxHeartbeats 1000000 in
theorem rcheck_any (S P B : Int) (w : World) : Calls Try.prog 13 #[.agg #[.int .i64 S, .int .i64 P, .int .i64 B]] w fun e w' => e = .returned (.int .i64 (chk S P B)) ∧ Below w.heap.size w w' := by
  have hal : Below w.heap.size w (w.alloc (.cells #[.int .i64 S, .int .i64 P, .int .i64 B] 23)) := below_alloc (Below.refl _ _) _
  have Kal := Aside0.mk hal
  clear hal
  unfold chk
  by_cases h : (1 ≤ S ∧ S ≤ 4096) ∧ (1 ≤ P ∧ P ≤ 1024) ∧ (16 ≤ B ∧ B ≤ 65536)
  · rw [if_pos h]
    have hm := mul3 h
    obtain ⟨m1, m2, m3, m4⟩ := hm
    obtain ⟨⟨a1, a2⟩, ⟨b1, b2⟩, ⟨c1, c2⟩⟩ := h
    obtain ⟨x, hx⟩ : ∃ x, S * P = x := ⟨_, rfl⟩
    rw [hx] at m1 m2 m3 m4 ⊢
    obtain ⟨y, hy⟩ : ∃ y, x * B = y := ⟨_, rfl⟩
    rw [hy] at m3 m4 ⊢
    have d3 : decide (65536 < B) = false := decide_eq_false (by omega)
    by_cases hbig : 16777216 < y
    · rw [if_pos hbig]
      go_enter Try.func13, Try.ntmps13
      go_wp2
      go_ret
      exact ⟨rfl, Kal.out⟩
    · rw [if_neg hbig]
      go_enter Try.func13, Try.ntmps13
      go_wp2
      go_ret
      exact ⟨rfl, Kal.out⟩
  · rw [if_neg h]
    have h' : S < 1 ∨ (1 ≤ S ∧ 4096 < S) ∨ (1 ≤ S ∧ S ≤ 4096 ∧ P < 1) ∨ (1 ≤ S ∧ S ≤ 4096 ∧ 1 ≤ P ∧ 1024 < P) ∨ (1 ≤ S ∧ S ≤ 4096 ∧ 1 ≤ P ∧ P ≤ 1024 ∧ B < 16) ∨ (1 ≤ S ∧ S ≤ 4096 ∧ 1 ≤ P ∧ P ≤ 1024 ∧ 16 ≤ B ∧ 65536 < B) := by omega
    clear h
    rcases h' with h | ⟨h, h2⟩ | ⟨h, h2, h3⟩ | ⟨h, h2, h3, h4⟩ | ⟨h, h2, h3, h4, h5⟩ | ⟨h, h2, h3, h4, h5, h6⟩
    all_goals
      go_enter Try.func13, Try.ntmps13
      go_wp2
      go_ret
      exact ⟨rfl, Kal.out⟩
end Go.Proofs.Ytepmgkmbmejkjaa.Fl
