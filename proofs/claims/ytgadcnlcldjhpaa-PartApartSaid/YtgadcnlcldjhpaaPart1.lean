/- Where what lies in a flash: the walks of flash.Check, part.Make. -/
import Derived.Test.YtgadcnlcldjhpaaProg
import Derived.WalkKit
import Derived.WalkLawsBesides
import Derived.OpenShut
import Derived.Laws.CopyOwn
import Derived.Test.YtgadcnlcldjhpaaPartFn
import Derived.Test.YtgadcnlcldjhpaaWWords
import Derived.Test.YtgadcnlcldjhpaaWLast
import Derived.Test.YtgadcnlcldjhpaaWMore
set_option linter.unusedVariables false
set_option linter.unusedSimpArgs false
namespace Go.Proofs.Ytgadcnlcldjhpaa.Part
open Go.RowKit Go.Proofs.YtgadcnlcldjhpaaW.PrintWords Go.Proofs.YtgadcnlcldjhpaaW.PrintLast Go.Proofs.YtgadcnlcldjhpaaW.PrintMore PartFn
attribute [local go_sem] max2_int min2_int max_two min_two
def geo (S P B : Int) : Array Value := #[.int .i64 S, .int .i64 P, .int .i64 B]
def pl (S P B b0 b1 s0 s1 n : Int) : Array Value := #[.int .i64 S, .int .i64 P, .int .i64 B, .int .i64 b0, .int .i64 b1, .int .i64 s0, .int .i64 s1, .int .i64 n]
def is64 (x : Int) : Prop := -9223372036854775808 ≤ x ∧ x ≤ 9223372036854775807
theorem bcell {W w1 : World} (hb : Below W.heap.size W w1) : (∀ b o, b < W.heap.size → w1.cell? ⟨b, o, none⟩ = W.cell? ⟨b, o, none⟩) ∧ (∀ b o, b < W.heap.size → w1.frozen? ⟨b, o, none⟩ = W.frozen? ⟨b, o, none⟩) :=
  ⟨fun b o h => hb.cell (p := ⟨b, o, none⟩) h, fun b o h => hb.frozen (p := ⟨b, o, none⟩) h⟩
theorem below1 {w w1 : World} {o1 : Obj} (hb : Below (w.alloc o1).heap.size (w.alloc o1) w1) : Below w.heap.size w w1 := below_then (below_alloc (Below.refl _ _) _) (below_alloc (Below.refl _ _) _).size hb
theorem below2 {w w1 : World} {o1 o2 : Obj} (hb : Below ((w.alloc o1).alloc o2).heap.size ((w.alloc o1).alloc o2) w1) : Below w.heap.size w w1 :=
  below_then (below_alloc (below_alloc (Below.refl _ _) _) _) (below_alloc (below_alloc (Below.refl _ _) _) _).size hb
theorem ret_i {a b : Int} (h : a = b) : Ending.returned (.int .i64 a) = .returned (.int .i64 b) := by rw [h]
/-- Is a number from low to high? -/
def btw (n lo hi : Int) : Bool := decide (lo ≤ n ∧ n ≤ hi)
theorem btw_yes {n lo hi : Int} (h : lo ≤ n ∧ n ≤ hi) : btw n lo hi = true := decide_eq_true h
theorem btw_no {n lo hi : Int} (h : ¬ (lo ≤ n ∧ n ≤ hi)) : btw n lo hi = false := decide_eq_false h
theorem between_any (n lo hi : Int) (w : World) : Calls Try.prog 58 #[.int .i64 n, .int .i64 lo, .int .i64 hi] w fun e w' => e = .returned (.bool (btw n lo hi)) ∧ w = w' := by
  by_cases h1 : lo ≤ n
  · by_cases h2 : n ≤ hi
    · have HB := Aside0.mk (btw_yes ⟨h1, h2⟩)
      go_enter Try.func58, Try.ntmps58
      go_wp2
      go_ret
      exact ⟨by rw [HB.out]; rfl, rfl⟩
    · have HB := Aside0.mk (btw_no (n := n) (lo := lo) (hi := hi) (fun h => h2 h.2))
      have h2' : hi < n := by omega
      have hd : decide (n ≤ hi) = false := decide_eq_false h2
      clear h2
      go_enter Try.func58, Try.ntmps58
      go_wp2
      go_ret
      exact ⟨by rw [HB.out]; rfl, rfl⟩
  · have HB := Aside0.mk (btw_no (n := n) (lo := lo) (hi := hi) (fun h => h1 h.1))
    have h1' : n < lo := by omega
    have hd : decide (lo ≤ n) = false := decide_eq_false h1
    clear h1
    go_enter Try.func58, Try.ntmps58
    go_wp2
    go_ret
    exact ⟨by rw [HB.out]; rfl, rfl⟩
theorem fck_no {S P B : Int} (h : ¬ good S P B) : fck S P B = 1 := by unfold fck; rw [if_neg h]
theorem fcheck_any (S P B : Int) (w : World) : Calls Try.prog 53 #[.agg (geo S P B)] w fun e w' => e = .returned (.int .i64 (fck S P B)) ∧ Below w.heap.size w w' := by
  unfold geo
  by_cases hg : good S P B
  · have hp := prods hg
    have hq : fck S P B = if S * P * B > 16777216 then 2 else 0 := by unfold fck; rw [if_pos hg]
    obtain ⟨h1, h2, h3, h4, h5, h6⟩ := hg
    have b1 := btw_yes ⟨h1, h2⟩
    have b2 := btw_yes ⟨h3, h4⟩
    have b3 := btw_yes ⟨h5, h6⟩
    obtain ⟨p1, p2, p3, p4, _, _⟩ := hp
    have HQ := Aside0.mk hq
    clear hq
    by_cases hm : S * P * B > 16777216
    · go_enter Try.func53, Try.ntmps53
      go_wp2_with (go_at_call 58; refine (between_any _ _ _ _).mono ?_; rintro e w' ⟨rfl, rfl⟩)
      go_ret
      exact ⟨ret_i (by rw [HQ.out, if_pos hm]), below_alloc (Below.refl _ _) _⟩
    · have HE : Aside0 (fck S P B = 0) := ⟨by rw [HQ.out, if_neg hm]⟩
      go_enter Try.func53, Try.ntmps53
      go_wp2_with (go_at_call 58; refine (between_any _ _ _ _).mono ?_; rintro e w' ⟨rfl, rfl⟩)
      go_ret
      exact ⟨ret_i HE.out.symm, below_alloc (Below.refl _ _) _⟩
  · have HQ := Aside0.mk (fck_no hg)
    by_cases g1 : 1 ≤ S ∧ S ≤ 4096
    · have b1 := btw_yes g1
      by_cases g2 : 1 ≤ P ∧ P ≤ 1024
      · have b2 := btw_yes g2
        have b3 : btw B 16 65536 = false := btw_no (fun h => hg ⟨g1.1, g1.2, g2.1, g2.2, h.1, h.2⟩)
        clear hg g1 g2
        go_enter Try.func53, Try.ntmps53
        go_wp2_with (go_at_call 58; refine (between_any _ _ _ _).mono ?_; rintro e w' ⟨rfl, rfl⟩)
        go_ret
        exact ⟨ret_i HQ.out.symm, below_alloc (Below.refl _ _) _⟩
      · have b2 := btw_no g2
        clear hg g1 g2
        go_enter Try.func53, Try.ntmps53
        go_wp2_with (go_at_call 58; refine (between_any _ _ _ _).mono ?_; rintro e w' ⟨rfl, rfl⟩)
        go_ret
        exact ⟨ret_i HQ.out.symm, below_alloc (Below.refl _ _) _⟩
    · have b1 := btw_no g1
      clear hg g1
      go_enter Try.func53, Try.ntmps53
      go_wp2_with (go_at_call 58; refine (between_any _ _ _ _).mono ?_; rintro e w' ⟨rfl, rfl⟩)
      go_ret
      exact ⟨ret_i HQ.out.symm, below_alloc (Below.refl _ _) _⟩
theorem plSize (S P B b0 b1 s0 s1 n : Int) : (Try.prog.info? 48).map (·.size) = some (pl S P B b0 b1 s0 s1 n).size := by kernel_rfl
theorem plOne (S P B b0 b1 s0 s1 n : Int) : (pl S P B b0 b1 s0 s1 n).all (·.oneCell') = true := by simp [pl, Value.oneCell']
theorem pl_at_new (w : World) (o : Obj) (S P B b0 b1 s0 s1 n : Int) : ((w.alloc o).alloc (.cells (pl S P B b0 b1 s0 s1 n) 48)).heap[w.heap.size + 1]? = some (.cells (pl S P B b0 b1 s0 s1 n) 48 (0, 0)) := heap_alloc2_new _ _ _
theorem make_err (S P B : Int) (h : pck S P B ≠ 0) (w : World) : Calls Try.prog 27 #[.agg (geo S P B)] w fun e w' => e = .returned (.tuple #[.agg (pl 0 0 0 0 0 0 0 0), .int .i64 (pck S P B)]) ∧ Below w.heap.size w w' := by
  have hfn := fcheck_any S P B
  unfold geo at hfn ⊢
  have hz : ∀ w, (zeroValue 48).run Try.prog w = .ok (.agg (pl 0 0 0 0 0 0 0 0)) w := fun w => by kernel_rfl
  have hbd : ∀ w, (Instr.build 48 #[]).run Try.prog w = .ok (.agg (pl 0 0 0 0 0 0 0 0)) w := fun w => by kernel_rfl
  by_cases hf : fck S P B = 0
  · have hp : pck S P B = if S < 4 ∨ B < 64 then 1 else 0 := by unfold pck; rw [if_neg (by simp [hf])]
    by_cases hs : S < 4 ∨ B < 64
    · rw [if_pos hs] at hp
      rw [hf] at hfn
      have HP := Aside0.mk hp
      have HF := Aside0.mk hfn
      clear hp h hf hfn
      have hs' : S < 4 ∨ (4 ≤ S ∧ B < 64) := by omega
      clear hs
      rcases hs' with hs | ⟨hs, hs2⟩
      all_goals
        go_enter Try.func27, Try.ntmps27
        go_wp2_with (first | (go_at_call 53; refine (HF.out _).mono ?_; rintro e w1 ⟨rfl, hb1⟩; obtain ⟨hc1, hf1⟩ := bcell hb1; have HG1 := Aside0.mk ((hb1.block (w.heap.size + 1) (by simp)).trans (pl_at_new w _ 0 0 0 0 0 0 0 0)); have HB1 := Aside0.mk hb1; clear hb1 hf1) | (refine wpList_store_row rfl 48 (Operand.tmp 2) (Operand.tmp 21) rfl (w.heap.size + 1) (pl 0 0 0 0 0 0 0 0) rfl rfl _ _ HG1.out (plSize _ _ _ _ _ _ _ _) rfl (plOne _ _ _ _ _ _ _ _) ?_))
        have hg : (w1.setRow (w.heap.size + 1) (pl 0 0 0 0 0 0 0 0)).heap[w.heap.size + 1]? = some (.cells (pl 0 0 0 0 0 0 0 0) 48 (0, 0)) := setRow_heap _ _ _ _ _ _ HG1.out
        refine bodyPost_ret (results_list (rs := [.cell 2 48, .tmp 3]) rfl (by simp) (.cell (w.heap.size + 1) 48 _ _ _ rfl hg Try.underlying48 rfl (plSize _ _ _ _ _ _ _ _) (.tmp .nil))) rfl ⟨?_, ?_⟩
        · rw [HP.out]; rfl
        · exact below_setRow (below2 HB1.out) (by omega) _
    · rw [if_neg hs] at hp
      exact absurd hp h
  · have hp : pck S P B = fck S P B := by unfold pck; rw [if_pos hf]
    have hf0 : (fck S P B != 0) = true := by simp [hf]
    have HP := Aside0.mk hp
    have HF := Aside0.mk hfn
    clear hp h hf hfn
    go_enter Try.func27, Try.ntmps27
    go_wp2_with (first | (go_at_call 53; refine (HF.out _).mono ?_; rintro e w1 ⟨rfl, hb1⟩; obtain ⟨hc1, hf1⟩ := bcell hb1; have HG1 := Aside0.mk ((hb1.block (w.heap.size + 1) (by simp)).trans (pl_at_new w _ 0 0 0 0 0 0 0 0)); have HB1 := Aside0.mk hb1; clear hb1 hf1) | (refine wpList_store_row rfl 48 (Operand.tmp 2) (Operand.tmp 11) rfl (w.heap.size + 1) (pl 0 0 0 0 0 0 0 0) rfl rfl _ _ HG1.out (plSize _ _ _ _ _ _ _ _) rfl (plOne _ _ _ _ _ _ _ _) ?_))
    have hg : (w1.setRow (w.heap.size + 1) (pl 0 0 0 0 0 0 0 0)).heap[w.heap.size + 1]? = some (.cells (pl 0 0 0 0 0 0 0 0) 48 (0, 0)) := setRow_heap _ _ _ _ _ _ HG1.out
    refine bodyPost_ret (results_list (rs := [.cell 2 48, .tmp 3]) rfl (by simp) (.cell (w.heap.size + 1) 48 _ _ _ rfl hg Try.underlying48 rfl (plSize _ _ _ _ _ _ _ _) (.tmp .nil))) rfl ⟨?_, ?_⟩
    · rw [HP.out]; rfl
    · exact below_setRow (below2 HB1.out) (by omega) _
theorem cnt_of {S P B x y : Int} (h : x = min ((S - 2) / 2) (max (8388608 / (P * B)) 1)) (hy : y = 2 + x) : pl S P B 0 1 2 y x = pl S P B 0 1 2 (2 + cnt S P B) (cnt S P B) := by subst hy; subst h; rfl
theorem make_ok (S P B : Int) (h : pck S P B = 0) (w : World) : Calls Try.prog 27 #[.agg (geo S P B)] w fun e w' => e = .returned (.tuple #[.agg (pl S P B 0 1 2 (2 + cnt S P B) (cnt S P B)), .int .i64 0]) ∧ Below w.heap.size w w' := by
  have hfn := fcheck_any S P B
  unfold geo at hfn ⊢
  have hz : ∀ w, (zeroValue 48).run Try.prog w = .ok (.agg #[.int .i64 0, .int .i64 0, .int .i64 0, .int .i64 0, .int .i64 0, .int .i64 0, .int .i64 0, .int .i64 0]) w := fun w => by kernel_rfl
  obtain ⟨g1, g2, g3, g4⟩ := pck_zero.1 h
  have hf : fck S P B = 0 := by unfold fck; rw [if_pos g1, if_neg (by omega)]
  have hp := prods g1
  have hcb := cnt_bounds h
  obtain ⟨_, h2, h3, h4, h5, h6⟩ := g1
  obtain ⟨p1, p2, p3, p4, p5, p6⟩ := hp
  obtain ⟨c1, c2, _⟩ := hcb
  have hd0 : 0 ≤ 8388608 / (P * B) := Int.ediv_nonneg (by omega) (by omega)
  have hd1 : 8388608 / (P * B) ≤ 8388608 := Int.ediv_le_self _ (by omega)
  rw [hf] at hfn
  have HF := Aside0.mk hfn
  clear h hfn hf
  go_enter Try.func27, Try.ntmps27
  go_wp2_with (first | (go_at_call 53; refine (HF.out _).mono ?_; rintro e w1 ⟨rfl, hb1⟩; obtain ⟨hc1, hf1⟩ := bcell hb1; have HG1 := Aside0.mk ((hb1.block (w.heap.size + 1) (by simp)).trans (pl_at_new w _ 0 0 0 0 0 0 0 0)); have HB1 := Aside0.mk hb1; clear hb1 hf1) | (refine wpList_store_row rfl 48 (Operand.tmp 2) (Operand.tmp 41) rfl (w.heap.size + 1) _ rfl rfl _ _ HG1.out (plSize _ _ _ _ _ _ _ _) rfl (plOne _ _ _ _ _ _ _ _) ?_))
  all_goals
    refine bodyPost_ret (results_list (rs := [.cell 2 48, .tmp 3]) rfl (by simp) (.cell (w.heap.size + 1) 48 _ _ _ rfl (setRow_heap _ _ _ _ _ _ HG1.out) Try.underlying48 rfl (plSize _ _ _ _ _ _ _ _) (.tmp .nil))) rfl ⟨?_, below_setRow (below2 HB1.out) (by omega) _⟩
    refine congrArg (fun c => Ending.returned (.tuple #[.agg c, .int .i64 0])) (cnt_of ?_ ?_) <;> omega
end Go.Proofs.Ytgadcnlcldjhpaa.Part
