/- Nothing in common: the walk. -/
import Derived.Test.YtgadcnlcldjhpaaPart8
set_option linter.unusedVariables false
set_option linter.unusedSimpArgs false
namespace Go.Proofs.Ytgadcnlcldjhpaa.Part
open Go.RowKit Go.Proofs.YtgadcnlcldjhpaaW.PrintWords Go.Proofs.YtgadcnlcldjhpaaW.PrintLast Go.Proofs.YtgadcnlcldjhpaaW.PrintMore PartFn
set_option maxHeartbeats 4000000 in
set_option maxRecDepth 100000 in
theorem apart_core_b (S P B n k k' a i bs pg o h sz : Int) (hk : a.tmod 2 = k) (hk0 : 0 ≤ k) (hk1 : k ≤ 1) (ho : (k' != k) = true) (ha0 : 0 ≤ a) (ha1 : a < 256)
    (n0 : 1 ≤ n) (n1 : n ≤ 4096) (n2 : 2 + n + n ≤ S) (n3 : S ≤ 4096) (hPB : P * B ≤ sz) (ePB : wrap64 (P * B) = P * B) (hsz : sz ≤ 8388608 ∨ (8388608 < sz ∧ n = 1))
    (hat : (0 ≤ i ∧ sz ≤ i ∧ h = 9))
    (HM : ∀ w, Calls Try.prog 27 #[.agg (geo S P B)] w fun e' w' => e' = .returned (.tuple #[.agg (pl S P B 0 1 2 (2 + n) n), .int .i64 0]) ∧ Below w.heap.size w w')
    (HB : ∀ w, Calls Try.prog 35 #[.agg (pl S P B 0 1 2 (2 + n) n), .int .i64 k] w fun e' w' => e' = .returned (.tuple #[.int .i64 bs, .int .i64 0]) ∧ Below w.heap.size w w')
    (HP : ∀ w, Calls Try.prog 33 #[.agg (pl S P B 0 1 2 (2 + n) n), .int .i64 k, .int .i64 i] w fun e' w' => e' = .returned (.tuple #[.int .i64 pg, .int .i64 o, .int .i64 h]) ∧ Below w.heap.size w w')
    (HZ : ∀ w, Calls Try.prog 37 #[.agg (pl S P B 0 1 2 (2 + n) n)] w fun e' w' => e' = .returned (.int .i64 sz) ∧ Below w.heap.size w w')
    (HO : ∀ w, Calls Try.prog 39 #[.int .i64 k] w fun e' w' => e' = .returned (.int .i64 k') ∧ w = w')
    (HO2 : ∀ w, Calls Try.prog 39 #[.int .i64 k'] w fun e' w' => e' = .returned (.int .i64 k) ∧ w = w') (w : World) :
    Calls Try.prog 11 #[.agg (geo S P B), .int .u8 a, .int .i64 i] w fun e w' => e = .returned (.bool true) ∧ Below w.heap.size w w' := by
  unfold geo at HM ⊢
  unfold pl at HM HB HP HZ
  have KM := Aside0.mk HM
  have KB := Aside0.mk HB
  have KP := Aside0.mk HP
  have KZ := Aside0.mk HZ
  have KO := Aside0.mk HO
  have KO2 := Aside0.mk HO2
  clear HM HB HP HZ HO HO2
  obtain ⟨i0, i1, rfl⟩ := hat
  all_goals
    rcases hsz with hs | ⟨hs, rfl⟩
    all_goals
      go_enter Try.func11, Try.ntmps11
      go_wp2_with (first | (go_at_call 27; refine (KM.out _).mono ?_; rintro e w1 ⟨rfl, hb⟩; obtain ⟨hc1, hf1⟩ := bcell hb; have hz1 : w.heap.size < w1.heap.size := bnext0 hb; have hz1' : w.heap.size ≤ w1.heap.size := Nat.le_of_lt hz1; have HB1 : Aside0 (Below w.heap.size w w1) := ⟨below1 hb⟩; clear hb hf1) | (go_at_call 35; refine (KB.out _).mono ?_; rintro e w2 ⟨rfl, hb⟩; obtain ⟨hc2, hf2⟩ := bcell hb; have hz2 : w.heap.size < w2.heap.size := (by first | exact bnextA hz1 hb | (refine bnext ?_ hb; assumption)); have hy2 : w1.heap.size < w2.heap.size := (by first | exact bnext0 hb | (refine bnext ?_ hb; assumption)); have HB2 : Aside0 (Below w.heap.size w w2) := (by first | exact ⟨below_via HB1.out HB1.out.size hb⟩ | (refine bstep ?_ hb; assumption)); clear hb hf2) | (go_at_call 33; refine (KP.out _).mono ?_; rintro e w3 ⟨rfl, hb⟩; obtain ⟨hc3, hf3⟩ := bcell hb; have hz3 : w.heap.size < w3.heap.size := (by first | exact bnextA hz1 hb | (refine bnext ?_ hb; assumption)); have hy3 : w1.heap.size < w3.heap.size := (by first | exact bnext0 hb | (refine bnext ?_ hb; assumption)); have HB3 : Aside0 (Below w.heap.size w w3) := (by first | exact ⟨below_via HB1.out HB1.out.size hb⟩ | (refine bstep ?_ hb; assumption)); clear hb hf3) | (go_at_call 37; refine (KZ.out _).mono ?_; rintro e w4 ⟨rfl, hb⟩; obtain ⟨hc4, hf4⟩ := bcell hb; have hz4 : w.heap.size < w4.heap.size := (by first | exact bnextA hz1 hb | (refine bnext ?_ hb; assumption)); have hy4 : w1.heap.size < w4.heap.size := (by first | exact bnext0 hb | (refine bnext ?_ hb; assumption)); have HB4 : Aside0 (Below w.heap.size w w4) := (by first | exact ⟨below_via HB1.out HB1.out.size hb⟩ | (refine bstep ?_ hb; assumption)); clear hb hf4) | (go_at_call 32; refine (live_any _).mono ?_; rintro e w5 ⟨rfl, hb⟩; obtain ⟨hc5, hf5⟩ := bcell hb; have hz5 : w.heap.size < w5.heap.size := (by first | exact bnextA hz1 hb | (refine bnext ?_ hb; assumption)); have hy5 : w1.heap.size < w5.heap.size := (by first | exact bnext0 hb | (refine bnext ?_ hb; assumption)); have HB5 : Aside0 (Below w.heap.size w w5) := (by first | exact ⟨below_via HB1.out HB1.out.size hb⟩ | (refine bstep ?_ hb; assumption)); clear hb hf5) | (go_at_call 39; first | ((with_reducible refine (KO.out _).mono ?_); rintro e w' ⟨rfl, rfl⟩) | ((with_reducible refine (KO2.out _).mono ?_); rintro e w' ⟨rfl, rfl⟩)) | (go_at_call 29; refine (num_any _ _).mono ?_; rintro e w' ⟨rfl, rfl⟩))
      go_ret
      exact ⟨rfl, (show Aside0 (Below w.heap.size w _) by assumption).out⟩
end Go.Proofs.Ytgadcnlcldjhpaa.Part
