/- Where what lies in a flash: the walks of part.Check, Size, right, Base, Page, Sector, Other. -/
import Derived.Test.YtgadcnlcldjhpaaPart1
import Derived.Test.YtgadcnlcldjhpaaArr
set_option linter.unusedVariables false
set_option linter.unusedSimpArgs false
namespace Go.Proofs.Ytgadcnlcldjhpaa.Part
open Go.RowKit Go.Proofs.YtgadcnlcldjhpaaW.PrintWords Go.Proofs.YtgadcnlcldjhpaaW.PrintLast Go.Proofs.YtgadcnlcldjhpaaW.PrintMore PartFn
/-- Is it what Make makes? -/
def right (S P B b0 b1 s0 s1 n : Int) : Prop := pck S P B = 0 ∧ b0 = 0 ∧ b1 = 1 ∧ s0 = 2 ∧ s1 = 2 + cnt S P B ∧ n = cnt S P B
instance (S P B b0 b1 s0 s1 n : Int) : Decidable (right S P B b0 b1 s0 s1 n) := by unfold right; infer_instance
theorem eq2 (a b c d : Int) (w : World) : (Op.equalIn 9999 46 (.agg #[.int .i64 a, .int .i64 b]) (.agg #[.int .i64 c, .int .i64 d])).run Try.prog w = .ok (a == c && b == d) w := by
  have h := Arr.run_equalIn_ints (P := Try.prog) w 9998 46 3 2 .i64 #[.int .i64 a, .int .i64 b] #[.int .i64 c, .int .i64 d] (fun i => if i = 0 then a else b) (fun i => if i = 0 then c else d) Try.underlying46 Try.underlying3 (by kernel_rfl) (fun w x y => run_equalIn_int w 9997 _ _ _ x y Try.underlying3)
    (fun i hi => by rcases i with _ | _ | i; rfl; rfl; omega) (fun i hi => by rcases i with _ | _ | i; rfl; rfl; omega)
  rw [h]
  congr 1
  rw [Bool.eq_iff_iff, Arr.eqUpTo_iff]
  simp only [Bool.and_eq_true, beq_iff_eq]
  constructor
  · intro h; exact ⟨by simpa using h 0 (by decide), by simpa using h 1 (by decide)⟩
  · rintro ⟨h1, h2⟩ i hi
    rcases i with _ | _ | i
    · simpa using h1
    · simpa using h2
    · omega
def chk (S P B b0 b1 s0 s1 n : Int) : Int := if right S P B b0 b1 s0 s1 n then 0 else 1
theorem chk_0 {S P B b0 b1 s0 s1 n : Int} (h : right S P B b0 b1 s0 s1 n) : chk S P B b0 b1 s0 s1 n = 0 := if_pos h
theorem chk_1 {S P B b0 b1 s0 s1 n : Int} (h : ¬ right S P B b0 b1 s0 s1 n) : chk S P B b0 b1 s0 s1 n = 1 := if_neg h
theorem check_err (S P B b0 b1 s0 s1 n : Int) (h : pck S P B ≠ 0) (w : World) : Calls Try.prog 31 #[.agg (pl S P B b0 b1 s0 s1 n)] w fun e w' => e = .returned (.int .i64 1) ∧ Below w.heap.size w w' := by
  have hfn := make_err S P B h
  have hpb : (pck S P B != 0) = true := by simp [h]
  unfold geo at hfn
  unfold pl at hfn ⊢
  have HF := Aside0.mk hfn
  clear hfn h
  go_enter Try.func31, Try.ntmps31
  go_wp2_with (first | (go_at_call 27; refine (HF.out _).mono ?_; rintro e w1 ⟨rfl, hb1⟩; obtain ⟨hc1, hf1⟩ := bcell hb1; have HB1 := Aside0.mk hb1; clear hb1 hf1))
  go_ret
  exact ⟨rfl, below_alloc (below1 HB1.out) _⟩
theorem check_same (S P B b0 b1 s0 s1 n : Int) (h : pck S P B = 0) (w : World) : Calls Try.prog 31 #[.agg (pl S P B b0 b1 s0 s1 n)] w fun e w' => e = .returned (.int .i64 (chk S P B b0 b1 s0 s1 n)) ∧ Below w.heap.size w w' := by
  have hfn := make_ok S P B h
  have HR2 : Aside0 (right S P B b0 b1 s0 s1 n ↔ b0 = 0 ∧ b1 = 1 ∧ s0 = 2 ∧ s1 = 2 + cnt S P B ∧ n = cnt S P B) := ⟨by unfold right; simp [h]⟩
  have hq2 := eq2
  unfold geo at hfn
  unfold pl at hfn ⊢
  have HF := Aside0.mk hfn
  clear hfn h
  obtain ⟨c, hc⟩ : ∃ c, cnt S P B = c := ⟨_, rfl⟩
  rw [hc] at HF HR2
  clear hc
  obtain ⟨d, hd⟩ : ∃ d, 2 + c = d := ⟨_, rfl⟩
  rw [hd] at HF HR2
  clear hd
  go_enter Try.func31, Try.ntmps31
  go_wp2_with (first | (go_at_call 27; refine (HF.out _).mono ?_; rintro e w1 ⟨rfl, hb1⟩; obtain ⟨hc1, hf1⟩ := bcell hb1; have hz1 : w.heap.size < w1.heap.size := (by have := hb1.size; simp at this; omega); have HB1 := Aside0.mk hb1; clear hb1 hf1))
  all_goals
    go_ret
    refine ⟨ret_i ?_, below_alloc (below1 HB1.out) _⟩
    first | exact (chk_0 (HR2.out.2 (by omega))).symm | exact (chk_1 (fun h => by have := HR2.out.1 h; omega)).symm
theorem check_any (S P B b0 b1 s0 s1 n : Int) (w : World) : Calls Try.prog 31 #[.agg (pl S P B b0 b1 s0 s1 n)] w fun e w' => e = .returned (.int .i64 (chk S P B b0 b1 s0 s1 n)) ∧ Below w.heap.size w w' := by
  by_cases h : pck S P B = 0
  · exact check_same S P B b0 b1 s0 s1 n h w
  · rw [chk_1 (fun hr => h hr.1)]
    exact check_err S P B b0 b1 s0 s1 n h w
/-- A slot's bytes. -/
def size (S P B b0 b1 s0 s1 n : Int) : Int := if right S P B b0 b1 s0 s1 n then n * P * B else 0
theorem size_bounds {S P B b0 b1 s0 s1 n : Int} (h : right S P B b0 b1 s0 s1 n) : 0 ≤ n * P ∧ n * P ≤ 4194304 ∧ 0 ≤ n * P * B ∧ n * P * B ≤ 274877906944 := by
  obtain ⟨h0, _, _, _, _, rfl⟩ := h
  have hc := cnt_bounds h0
  obtain ⟨⟨g1, g2, g3, g4, g5, g6⟩, _, _, _⟩ := pck_zero.1 h0
  have a2 : cnt S P B * P ≤ 4096 * 1024 := Int.mul_le_mul (by omega) g4 (by omega) (by omega)
  have a1 : 1 * 1 ≤ cnt S P B * P := Int.mul_le_mul hc.1 g3 (by omega) (by omega)
  have a4 : cnt S P B * P * B ≤ (4096 * 1024) * 65536 := Int.mul_le_mul a2 g6 (by omega) (by omega)
  have a3 : 1 * 16 ≤ cnt S P B * P * B := Int.mul_le_mul (by omega) g5 (by omega) (by omega)
  omega
theorem size_any (S P B b0 b1 s0 s1 n : Int) (w : World) : Calls Try.prog 37 #[.agg (pl S P B b0 b1 s0 s1 n)] w fun e w' => e = .returned (.int .i64 (size S P B b0 b1 s0 s1 n)) ∧ Below w.heap.size w w' := by
  have hfn := check_any S P B b0 b1 s0 s1 n
  unfold pl at hfn ⊢
  by_cases h : right S P B b0 b1 s0 s1 n
  · have hs : size S P B b0 b1 s0 s1 n = n * P * B := if_pos h
    obtain ⟨p1, p2, p3, p4⟩ := size_bounds h
    rw [chk_0 h] at hfn
    have HS := Aside0.mk hs
    have HF := Aside0.mk hfn
    clear hs hfn h
    go_enter Try.func37, Try.ntmps37
    go_wp2_with (first | (go_at_call 31; refine (HF.out _).mono ?_; rintro e w1 ⟨rfl, hb1⟩; obtain ⟨hc1, hf1⟩ := bcell hb1; have HB1 := Aside0.mk hb1; clear hb1 hf1))
    go_ret
    exact ⟨ret_i HS.out.symm, below1 HB1.out⟩
  · have hs : size S P B b0 b1 s0 s1 n = 0 := if_neg h
    rw [chk_1 h] at hfn
    have HS := Aside0.mk hs
    have HF := Aside0.mk hfn
    clear hs hfn h
    go_enter Try.func37, Try.ntmps37
    go_wp2_with (first | (go_at_call 31; refine (HF.out _).mono ?_; rintro e w1 ⟨rfl, hb1⟩; obtain ⟨hc1, hf1⟩ := bcell hb1; have HB1 := Aside0.mk hb1; clear hb1 hf1))
    go_ret
    exact ⟨ret_i HS.out.symm, below1 HB1.out⟩
/-- What is wrong with a plan, a slot, a place of so many. -/
def wrong (S P B b0 b1 s0 s1 n slot at_ m : Int) : Int := if ¬ right S P B b0 b1 s0 s1 n ∨ (slot ≠ 0 ∧ slot ≠ 1) then 1 else if at_ < 0 ∨ m ≤ at_ then 9 else 0
theorem right_any (S P B b0 b1 s0 s1 n slot at_ m : Int) (w : World) : Calls Try.prog 55 #[.agg (pl S P B b0 b1 s0 s1 n), .int .i64 slot, .int .i64 at_, .int .i64 m] w fun e w' => e = .returned (.int .i64 (wrong S P B b0 b1 s0 s1 n slot at_ m)) ∧ Below w.heap.size w w' := by
  have hfn := check_any S P B b0 b1 s0 s1 n
  unfold pl at hfn ⊢
  by_cases h : right S P B b0 b1 s0 s1 n
  · have HW : Aside0 (wrong S P B b0 b1 s0 s1 n slot at_ m = if slot ≠ 0 ∧ slot ≠ 1 then 1 else if at_ < 0 ∨ m ≤ at_ then 9 else 0) := ⟨by unfold wrong; simp [h]⟩
    rw [chk_0 h] at hfn
    have HF := Aside0.mk hfn
    clear hfn h
    by_cases g : slot ≠ 0 ∧ slot ≠ 1
    · obtain ⟨g1, g2⟩ := g
      have HV : Aside0 (wrong S P B b0 b1 s0 s1 n slot at_ m = 1) := ⟨by rw [HW.out, if_pos ⟨g1, g2⟩]⟩
      have g1' : (slot != 0) = true := by simp [g1]
      have g2' : (slot != 1) = true := by simp [g2]
      clear HW
      go_enter Try.func55, Try.ntmps55
      go_wp2_with (first | (go_at_call 31; refine (HF.out _).mono ?_; rintro e w1 ⟨rfl, hb1⟩; have HB1 := Aside0.mk hb1; clear hb1))
      go_ret
      exact ⟨ret_i HV.out.symm, below1 HB1.out⟩
    · have HW2 : Aside0 (wrong S P B b0 b1 s0 s1 n slot at_ m = if at_ < 0 ∨ m ≤ at_ then 9 else 0) := ⟨by rw [HW.out, if_neg g]⟩
      have hs : slot = 0 ∨ slot = 1 := by omega
      clear HW g
      by_cases a0 : at_ < 0
      · have HV : Aside0 (wrong S P B b0 b1 s0 s1 n slot at_ m = 9) := ⟨by rw [HW2.out, if_pos (.inl a0)]⟩
        clear HW2
        rcases hs with rfl | rfl
        all_goals
          go_enter Try.func55, Try.ntmps55
          go_wp2_with (first | (go_at_call 31; refine (HF.out _).mono ?_; rintro e w1 ⟨rfl, hb1⟩; have HB1 := Aside0.mk hb1; clear hb1))
          go_ret
          exact ⟨ret_i HV.out.symm, below1 HB1.out⟩
      · by_cases a1 : m ≤ at_
        · have HV : Aside0 (wrong S P B b0 b1 s0 s1 n slot at_ m = 9) := ⟨by rw [HW2.out, if_pos (.inr a1)]⟩
          clear HW2
          rcases hs with rfl | rfl
          all_goals
            go_enter Try.func55, Try.ntmps55
            go_wp2_with (first | (go_at_call 31; refine (HF.out _).mono ?_; rintro e w1 ⟨rfl, hb1⟩; have HB1 := Aside0.mk hb1; clear hb1))
            go_ret
            exact ⟨ret_i HV.out.symm, below1 HB1.out⟩
        · have HV : Aside0 (wrong S P B b0 b1 s0 s1 n slot at_ m = 0) := ⟨by rw [HW2.out, if_neg (by omega)]⟩
          clear HW2
          rcases hs with rfl | rfl
          all_goals
            go_enter Try.func55, Try.ntmps55
            go_wp2_with (first | (go_at_call 31; refine (HF.out _).mono ?_; rintro e w1 ⟨rfl, hb1⟩; have HB1 := Aside0.mk hb1; clear hb1))
            go_ret
            exact ⟨ret_i HV.out.symm, below1 HB1.out⟩
  · have HV : Aside0 (wrong S P B b0 b1 s0 s1 n slot at_ m = 1) := ⟨by unfold wrong; simp [h]⟩
    rw [chk_1 h] at hfn
    have HF := Aside0.mk hfn
    clear hfn h
    go_enter Try.func55, Try.ntmps55
    go_wp2_with (first | (go_at_call 31; refine (HF.out _).mono ?_; rintro e w1 ⟨rfl, hb1⟩; have HB1 := Aside0.mk hb1; clear hb1))
    go_ret
    exact ⟨ret_i HV.out.symm, below1 HB1.out⟩
end Go.Proofs.Ytgadcnlcldjhpaa.Part
