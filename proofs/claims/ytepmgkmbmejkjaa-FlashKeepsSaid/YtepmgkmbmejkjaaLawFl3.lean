/- The walks of the laws on flash: FlashReads. -/
import Derived.Test.YtepmgkmbmejkjaaFl10
import Derived.Test.YtepmgkmbmejkjaaLawFl1
set_option linter.unusedVariables false
set_option linter.unusedSimpArgs false
namespace Go.Proofs.Ytepmgkmbmejkjaa
open Go.RowKit Go.Proofs.YtepmgkmbmejkjaaW.PrintWords Go.Proofs.YtepmgkmbmejkjaaW.PrintLast Go.Proofs.YtepmgkmbmejkjaaW.PrintMore
namespace Fl
theorem write_fresh_no {S P B : Nat} (page : Int) (b : List Int) (h : (writeP (fresh S P B) page b).2 ≠ 0) : (writeP (fresh S P B) page b).1 = fresh S P B := by
  unfold writeP at h ⊢
  split
  · rename_i hin
    rw [if_pos hin] at h
    split
    · rfl
    · rename_i hl
      rw [if_neg hl] at h
      rw [if_neg (by simp [fresh])]
      rw [if_neg (by simp [fresh])] at h
      split
      · rfl
      · rename_i hd
        rw [if_neg hd] at h
        exfalso; apply h
        unfold failsP
        simp [fresh]
  · rfl
theorem write_fresh_ok {S P B : Nat} (page : Int) (b : List Int) (h : (writeP (fresh S P B) page b).2 = 0) : ∃ p : Nat, page = p ∧ p < S * P ∧ b.length ≤ B ∧ (writeP (fresh S P B) page b).1 = { fresh S P B with dirty := (List.replicate (S * P) false).set p true, mem := splice (splice (List.replicate (S * P * B) 255) (p * B) (List.replicate B 255)) (p * B) b, ops := 1 } := by
  unfold writeP at h ⊢
  split
  · rename_i hin
    rw [if_pos hin] at h
    obtain ⟨p, rfl⟩ := Int.eq_ofNat_of_zero_le hin.1
    have hp : p < S * P := by have := hin.2; simp only [fresh, List.length_replicate] at this; omega
    refine ⟨p, rfl, hp, ?_⟩
    split
    · rename_i hl
      rw [if_pos hl] at h
      cases h
    · rename_i hl
      rw [if_neg hl] at h
      refine ⟨by have : (fresh S P B).B = B := rfl; omega, ?_⟩
      rw [if_neg (by simp [fresh])]
      rw [if_neg (by rw [show (fresh S P B).dirty = List.replicate (S * P) false from rfl, List.getD_eq_getElem?_getD, List.getElem?_replicate]; split <;> decide)]
      unfold failsP
      simp [fresh]
  · rename_i hin
    rw [if_neg hin] at h
    cases h
theorem want_at {N o B : Nat} (b : List Int) (hb : b.length ≤ B) (hfit : o + B ≤ N) (j : Nat) (hj : j < N) :
    (splice (splice (List.replicate N (255 : Int)) o (List.replicate B 255)) o b).getD j 0 = if o ≤ j ∧ j - o < b.length then b.getD (j - o) 0 else 255 := by
  have h1 : splice (List.replicate N (255 : Int)) o (List.replicate B 255) = List.replicate N 255 := by
    unfold splice
    simp only [List.length_replicate, List.take_replicate, List.drop_replicate, List.replicate_append_replicate]
    congr 1
    omega
  rw [h1]
  unfold splice
  rw [List.getD_eq_getElem?_getD, List.getElem?_append]
  simp only [List.length_take, List.length_replicate, List.take_replicate, List.drop_replicate]
  by_cases h2 : j < o
  · rw [if_neg (show ¬ (o ≤ j ∧ j - o < b.length) by omega), if_pos (show j < min o N by omega), List.getElem?_replicate, if_pos (by omega)]
    rfl
  · rw [if_neg (show ¬ j < min o N by omega), List.getElem?_append, show min o N = o by omega]
    by_cases h3 : j - o < b.length
    · rw [if_pos h3, if_pos ⟨by omega, h3⟩, List.getD_eq_getElem?_getD]
    · rw [if_neg h3, if_neg (by omega), List.getElem?_replicate, if_pos (by omega)]
      rfl
theorem read_all (x : Fl) (h : x.off = false) : readP x 0 x.mem.length = (x.mem, 0) := by
  unfold readP
  rw [if_pos (by omega), if_neg (by rw [h]; decide)]
  simp
theorem exec_convert {o : Oper} {a : Act} {w : World} (s d : TypeId) (x : Operand) (ho : o.op = .convert s d x) (v u : Value) (hx : a.eval x = v) (hrun : (convert s d v).run Try.prog w = .ok u w) : (execOp a.eval o).run Try.prog w = .ok (.value u) w := by
  unfold execOp
  simp [ho, hx, hrun, Result.andThen]
theorem geo_ne {w : World} {base f gb gd gw g : Nat} {tv : Value} {x : Fl} {cs : Array Value} (h : w.heap[g]? = some (.cells cs 23 (0, 0))) (hF : FM w base f gb gd gw tv x) : g ≠ f ∧ g ≠ gb ∧ g ≠ gd ∧ g ≠ gw :=
  ⟨blk_ne h hF.blk (by decide), blk_ne h hF.mem (by decide), blk_ne h hF.dirty (by decide), blk_ne h hF.worn (by decide)⟩
end Fl
namespace FlashReads
set_option maxRecDepth 100000 in
set_option maxHeartbeats 4000000 in
theorem walk (w : World) (cs0 : Array Value) (x0 : Int × Int × Int) (r0 : ∃ c00 c01, cs0.toList = c00 ++ c01 ∧ ((Kd.int .i64).K w x0.1 c00 ∧ (fun n : Int => (Lit.int .i64 n).wf = true) x0.1) ∧ (∃ c10 c11, c01 = c10 ++ c11 ∧ ((Kd.int .i64).K w x0.2.1 c10 ∧ (fun n : Int => (Lit.int .i64 n).wf = true) x0.2.1) ∧ ((Kd.int .i64).K w x0.2.2 c11 ∧ (fun n : Int => (Lit.int .i64 n).wf = true) x0.2.2))) (a1 : Int) (w1 : (Lit.int .i64 a1).wf = true) (A2 : Option Addr) (c2 : Nat) (l2 : List Int) (r2 : Kd.C (Kd.int .u8) w A2 l2.length l2) (k2 : l2.length ≤ c2) (g2 : ∀ v ∈ l2, (fun n : Int => (Lit.int .u8 n).wf = true) v) (m2 : l2.length * 1 ≤ 140737488351232) (a3 : Int) (w3 : (Lit.int .i64 a3).wf = true) (a4 : Int) (w4 : (Lit.int .i64 a4).wf = true) :
    Calls Try.prog 4 #[.agg cs0, .int .i64 a1, .slice A2 l2.length c2, .int .i64 a3, .int .i64 a4] w fun e w' => e = .returned (.bool true) ∧ Below w.heap.size w w' := by
  obtain ⟨S, P, B, rfl⟩ := Fl.geo_of r0
  have hpage := Go.bounds_i64 w1
  have hat := Go.bounds_i64 w3
  have hn := Go.bounds_i64 w4
  have Kr2 := Aside0.mk r2
  have Kpage := Aside0.mk hpage
  have Kat := Aside0.mk hat
  have Kn := Aside0.mk hn
  have Km2 := Aside0.mk m2
  clear r0 w1 w3 w4 g2 k2 m2 r2 hpage hat hn
  have hal : Below w.heap.size w (w.alloc (.cells #[.int .i64 S, .int .i64 P, .int .i64 B] 23)) := below_alloc (Below.refl _ _) _
  have hX : (w.alloc (.cells #[.int .i64 S, .int .i64 P, .int .i64 B] 23)).heap[w.heap.size]? = some (.cells #[.int .i64 S, .int .i64 P, .int .i64 B] 23 (0, 0)) := heap_alloc_new w _
  have Kal := Aside0.mk hal
  have KX := Aside0.mk hX
  clear hal hX
  obtain ⟨g, hg⟩ : ∃ g, w.heap.size = g := ⟨_, rfl⟩
  by_cases hc : Fl.chk S P B = 0
  · by_cases hs : Fl.smallP S P B = true
    · obtain ⟨hS, hP, hB⟩ := Fl.small_of hs hc
      have hsm := fun w => Fl.small_any S P B w
      rw [hs] at hsm
      have hck := fun w => Fl.rcheck_any S P B w
      rw [hc] at hck
      obtain ⟨S, rfl⟩ := Int.eq_ofNat_of_zero_le (show 0 ≤ S by omega)
      obtain ⟨P, rfl⟩ := Int.eq_ofNat_of_zero_le (show 0 ≤ P by omega)
      obtain ⟨B, rfl⟩ := Int.eq_ofNat_of_zero_le (show 0 ≤ B by omega)
      have Ksm := Aside0.mk hsm
      have Kck := Aside0.mk hck
      have Knew := Aside0.mk (fun w => Fl.new_ok w S P B hc)
      have Ksh := Aside0.mk (Fl.fresh_shape hc)
      have Klow := Aside0.mk (Fl.fresh_low S P B)
      have KS := Aside0.mk hS
      have KP := Aside0.mk hP
      have KB := Aside0.mk hB
      obtain ⟨x1, hx1⟩ : ∃ x1, x1 = (Fl.writeP (Fl.fresh S P B) a1 l2).1 := ⟨_, rfl⟩
      obtain ⟨hh, hhe⟩ : ∃ hh, hh = (Fl.writeP (Fl.fresh S P B) a1 l2).2 := ⟨_, rfl⟩
      have hshape1 := (Fl.write_shape (Fl.fresh_shape hc) a1 l2).1
      rw [← hx1] at hshape1
      have hoff1 : x1.off = false := by
        by_cases h0 : (Fl.writeP (Fl.fresh S P B) a1 l2).2 = 0
        · obtain ⟨p, -, -, -, e⟩ := Fl.write_fresh_ok a1 l2 h0
          rw [hx1, e]; rfl
        · rw [hx1, Fl.write_fresh_no a1 l2 h0]; rfl
      have hsame1 := (Fl.write_shape (Fl.fresh_shape hc) a1 l2).2
      rw [← hx1] at hsame1
      obtain ⟨N, hN⟩ : ∃ N, N = x1.mem.length := ⟨_, rfl⟩
      have hNe : N = S * P * B := by rw [hN, hshape1.mem, hsame1.1, hsame1.2.1, hsame1.2.2]; rfl
      have hN1 : 16 ≤ N ∧ N ≤ 16384 := by
        rw [hNe]
        have e1 : 1 * 1 ≤ S * P := Nat.mul_le_mul (by omega) (by omega)
        have e2 : S * P ≤ 16 * 16 := Nat.mul_le_mul (by omega) (by omega)
        have e3 : 1 * 16 ≤ S * P * B := Nat.mul_le_mul (by omega) (by omega)
        have e4 : S * P * B ≤ 256 * 64 := Nat.mul_le_mul (by omega) (by omega)
        omega
      have hrd := Fl.read_all x1 hoff1
      rw [← hN] at hrd
      have Krd := Aside0.mk hrd
      have Kx1 := Aside0.mk (And.intro hx1 hhe)
      have Ksh1 := Aside0.mk hshape1
      have Koff1 := Aside0.mk hoff1
      have KN := Aside0.mk hN
      have KNe := Aside0.mk hNe
      have KN1 := Aside0.mk hN1
      have tokA : True := trivial
      have hNa := hN1
      rcases (by omega : (a3 < 0 ∨ (0 ≤ a3 ∧ a4 < 0) ∨ (0 ≤ a3 ∧ 0 ≤ a4 ∧ (N : Int) < a3) ∨ (0 ≤ a3 ∧ 0 ≤ a4 ∧ a3 ≤ N ∧ (N : Int) - a3 < a4)) ∨ (0 ≤ a3 ∧ 0 ≤ a4 ∧ a3 ≤ N ∧ a4 ≤ N - a3)) with hq | ⟨hq1, hq2, hq3, hq4⟩
      · obtain ⟨xs, hxs⟩ : ∃ xs : List Int, xs = [] := ⟨_, rfl⟩
        have hxl : xs.length = 0 := by rw [hxs]; rfl
        have hrd2 : Fl.readP x1 a3 a4 = (xs, 9) := by
          unfold Fl.readP
          rw [if_neg (by rw [← hN]; omega), hxs]
        have Krd2 := Aside0.mk hrd2
        have Kxl := Aside0.mk hxl
        clear hxs hxl hrd2
        clear hsm hck hc hs hS hP hB hx1 hhe hshape1 hoff1 hsame1 hN hNe hN1 hrd
        rcases hq with hq | ⟨hq, hq2⟩ | ⟨hq, hq2, hq3⟩ | ⟨hq, hq2, hq3, hq4⟩
        all_goals
          (try have hda : decide (0 ≤ a3) = false := decide_eq_false (by omega))
          (try have hdb : decide (a4 ≤ (N : Int) - a3) = false := decide_eq_false (by omega))
          go_enter Try.func4, Try.ntmps4
          go_wp2_with (first | (go_at_call 15; refine (Ksm.out _).mono ?_; rintro e w1 ⟨rfl, hb1⟩; have hX1 := blk_below KX.out hb1; rw [hg] at hX1; have d0 : w1.cell? ⟨g, 0, none⟩ = some (.int .i64 S) := (cell_of_row _ _ _ _ _ _ hX1).trans rfl; have d1 : w1.cell? ⟨g, 1, none⟩ = some (.int .i64 P) := (cell_of_row _ _ _ _ _ _ hX1).trans rfl; have d2 : w1.cell? ⟨g, 2, none⟩ = some (.int .i64 B) := (cell_of_row _ _ _ _ _ _ hX1).trans rfl; have Kb1 : Aside0 (Below w.heap.size w w1) := ⟨below_then Kal.out Kal.out.size hb1⟩; clear hb1) | (go_at_call 13; refine (Kck.out _).mono ?_; rintro e w2 ⟨rfl, hb2⟩; have hX2 := blk_below hX1 hb2; clear hX1 d0 d1 d2; have d0 : w2.cell? ⟨g, 0, none⟩ = some (.int .i64 S) := (cell_of_row _ _ _ _ _ _ hX2).trans rfl; have d1 : w2.cell? ⟨g, 1, none⟩ = some (.int .i64 P) := (cell_of_row _ _ _ _ _ _ hX2).trans rfl; have d2 : w2.cell? ⟨g, 2, none⟩ = some (.int .i64 B) := (cell_of_row _ _ _ _ _ _ hX2).trans rfl; have Kb2 : Aside0 (Below w.heap.size w w2) := ⟨below_then Kb1.out Kb1.out.size hb2⟩; clear hb2) | (go_at_call 16; refine (Knew.out _).mono ?_; rintro e w3 ⟨f, gb, gd, gw, rfl, hF3, hb3⟩; have KX3 := Aside0.mk (blk_below hX2 hb3); clear hX2 d0 d1 d2; have Kb3 : Aside0 (Below w.heap.size w w3) := ⟨below_then Kb2.out Kb2.out.size hb3⟩; have K3 := Aside0.mk (hF3.lower Kb2.out.size); clear hb3 hF3) | (go_at_call 17; refine (Fl.write_any K3.out Ksh.out Klow.out (by decide) a1 A2 c2 l2 (fun w' hch => Kd.C_below Kr2.out (Kb3.out.trans hch.below)) Kpage.out).mono ?_; rw [← Kx1.out.1, ← Kx1.out.2]; rintro e w4 ⟨rfl, hF4, hch4⟩; have K4 := Aside0.mk hF4; have Kb4 : Aside0 (Below w.heap.size w w4) := ⟨Kb3.out.trans hch4.below⟩; have KX4 : Aside0 (w4.heap[g]? = some (.cells #[.int .i64 S, .int .i64 P, .int .i64 B] 23 (0, 0))) := ⟨(hch4.rest g (blk_lt KX3.out) (Fl.geo_ne KX3.out K3.out).1 (Fl.geo_ne KX3.out K3.out).2.1 (Fl.geo_ne KX3.out K3.out).2.2.1 (Fl.geo_ne KX3.out K3.out).2.2.2).trans KX3.out⟩; clear hF4 hch4) | (go_at_call 19; first | (refine (Fl.size_any K6.out).mono ?_; rintro e w' ⟨rfl, rfl⟩; rw [← KN.out]) | (refine (Fl.size_any K4.out).mono ?_; rintro e w' ⟨rfl, rfl⟩; rw [← KN.out])) | (go_at_call 18; have _t := tokA; refine (Fl.read_any K4.out (by rw [← KN.out]; have := KN1.out; omega) 0 N (by decide) (by have := KN1.out; omega)).mono ?_; rw [Krd.out]; rintro e w5 ⟨v5, rfl, hO5, hb5⟩; obtain ⟨A5, c5, hv5, hle5, -⟩ := Row.OwnB.slice hO5; rw [← KN.out] at hv5 hle5; subst hv5; have Kle5 := Aside0.mk hle5; have KO5 := Aside0.mk hO5; have K5 := Aside0.mk (K4.out.below hb5); have Kb5 : Aside0 (Below w.heap.size w w5) := ⟨below_then Kb4.out Kb4.out.size hb5⟩; have KX5 := Aside0.mk (blk_below KX4.out hb5); clear hO5 hb5 hle5 tokA) | (go_at_call 18; refine (Fl.read_any K5.out (by rw [← KN.out]; have := KN1.out; omega) _ _ Kat.out Kn.out).mono ?_; rw [Krd2.out]; rintro e w6 ⟨v6, rfl, hO6, hb6⟩; obtain ⟨A6, c6, hv6, -, -⟩ := Row.OwnB.slice hO6; rw [Kxl.out] at hv6; subst hv6; have KO6 := Aside0.mk hO6; have KO56 := Aside0.mk (KO5.out.below hb6); have K6 := Aside0.mk (K5.out.below hb6); have Kb6 : Aside0 (Below w.heap.size w w6) := ⟨below_then Kb5.out Kb5.out.size hb6⟩; have KX6 := Aside0.mk (blk_below KX5.out hb6); clear hO6 hb6) | (go_at_call 11; refine (Fl.num_any _ _).mono ?_; rintro e w' ⟨rfl, rfl⟩))

          refine start_ (n := 20) (S := fun w' => w' = w6.drew) (ds := []) #[false, false, false, false, false, false, false, false, false, false, false, false, false, false, false, false, false, false, false, false] (by kernel_rfl) rfl rfl (rfl) (fun hHeld => ?_)
          refine pure_ (i := 0) (N := some 90) (v := ?_) (a' := ?_) #[true, false, false, false, false, false, false, false, false, false, false, false, false, false, false, false, false, false, false, false] rfl rfl (by kernel_rfl) (fun _ _ _ h => h) (Or.inl ⟨by rfl, ?_⟩) ?_ ?_
          rotate_left
          · intro w'
            go_simp
            with_reducible rfl
          rotate_left
          · simp only [Act.put, List.setIfInBounds_toArray, List.set_cons_zero, List.set_cons_succ, i64_w, i32_w]
            rfl
          refine pure_ (i := 3) (N := some 93) (v := ?_) (a' := ?_) #[true, false, false, true, false, false, false, false, false, false, false, false, false, false, false, false, false, false, false, false] rfl rfl (by kernel_rfl) (fun _ _ _ h => h) (Or.inl ⟨by rfl, ?_⟩) ?_ ?_
          rotate_left
          · intro w'
            go_simp
            with_reducible rfl
          rotate_left
          · simp only [Act.put, List.setIfInBounds_toArray, List.set_cons_zero, List.set_cons_succ, i64_w, i32_w]
            rfl
          refine one_ (i := 1) (N := some 91) #[true, true, false, true, false, false, false, false, false, false, false, false, false, false, false, false, false, false, false, false] rfl rfl (by kernel_rfl) (by decide) (fun K hK => ?_)
          refine goes_ Try.func11 (by kernel_rfl) rfl #[.int .i64 9] (by rfl) rfl rfl (by simp only [List.map_toArray, List.map_cons, List.map_nil]; rfl) ?_
          with_reducible refine (Fl.num_any 9 _).mono ?_
          rintro e w7 ⟨rfl, rfl⟩
          refine ⟨_, rfl, ?_⟩
          refine hK.out _ _ (hHeld) (fun hHeld => ?_)
          clear hK K
          refine norm_ (a' := ?_) ?_ ?_
          rotate_left
          · show Act.put _ (some 91) _ = _
            simp only [Act.put, List.setIfInBounds_toArray, List.set_cons_zero, List.set_cons_succ, i64_w, i32_w]
            rfl
          refine pure_ (i := 2) (N := some 92) (v := ?_) (a' := ?_) #[true, true, true, true, false, false, false, false, false, false, false, false, false, false, false, false, false, false, false, false] rfl rfl (by kernel_rfl) (fun _ _ _ h => h) (Or.inl ⟨by rfl, ?_⟩) ?_ ?_
          rotate_left
          · intro w'
            go_simp
            with_reducible rfl
          rotate_left
          · simp only [Act.put, List.setIfInBounds_toArray, List.set_cons_zero, List.set_cons_succ, i64_w, i32_w]
            rfl
          refine pure_ (i := 4) (N := some 94) (v := ?_) (a' := ?_) #[true, true, true, true, true, false, false, false, false, false, false, false, false, false, false, false, false, false, false, false] rfl rfl (by kernel_rfl) (fun _ _ _ h => h) (Or.inl ⟨by rfl, ?_⟩) ?_ ?_
          rotate_left
          · intro w'
            go_simp
            with_reducible rfl
          rotate_left
          · simp only [Act.put, List.setIfInBounds_toArray, List.set_cons_zero, List.set_cons_succ, i64_w, i32_w]
            rfl
          refine pure_ (i := 5) (N := some 95) (v := ?_) (a' := ?_) #[true, true, true, true, true, true, false, false, false, false, false, false, false, false, false, false, false, false, false, false] rfl rfl (by kernel_rfl) (fun _ _ _ h => h) (Or.inl ⟨by rfl, ?_⟩) ?_ ?_
          rotate_left
          · intro w'
            go_simp
            with_reducible rfl
          rotate_left
          · simp only [Act.put, List.setIfInBounds_toArray, List.set_cons_zero, List.set_cons_succ, i64_w, i32_w]
            rfl
          refine pure_ (i := 6) (N := some 96) (v := ?_) (a' := ?_) #[true, true, true, true, true, true, true, false, false, false, false, false, false, false, false, false, false, false, false, false] rfl rfl (by kernel_rfl) (fun _ _ _ h => h) (Or.inl ⟨by rfl, ?_⟩) ?_ ?_
          rotate_left
          · intro w'
            go_simp
            with_reducible rfl
          rotate_left
          · simp only [Act.put, List.setIfInBounds_toArray, List.set_cons_zero, List.set_cons_succ, i64_w, i32_w]
            rfl
          refine pure_ (i := 7) (N := some 97) (v := ?_) (a' := ?_) #[true, true, true, true, true, true, true, true, false, false, false, false, false, false, false, false, false, false, false, false] rfl rfl (by kernel_rfl) (fun _ _ _ h => h) (Or.inl ⟨by rfl, ?_⟩) ?_ ?_
          rotate_left
          · intro w'
            go_simp
            with_reducible rfl
          rotate_left
          · simp only [Act.put, List.setIfInBounds_toArray, List.set_cons_zero, List.set_cons_succ, i64_w, i32_w]
            rfl
          refine pure_ (i := 8) (N := some 98) (v := undef) (a' := ?_) #[true, true, true, true, true, true, true, true, true, false, false, false, false, false, false, false, false, false, false, false] rfl rfl (by kernel_rfl) (fun _ _ _ h => h) (Or.inr ⟨by rfl, rfl⟩) ?_ ?_
          rotate_left
          · simp only [Act.put, List.setIfInBounds_toArray, List.set_cons_zero, List.set_cons_succ, i64_w, i32_w]
            rfl
          refine pure_ (i := 9) (N := some 99) (v := undef) (a' := ?_) #[true, true, true, true, true, true, true, true, true, true, false, false, false, false, false, false, false, false, false, false] rfl rfl (by kernel_rfl) (fun _ _ _ h => h) (Or.inr ⟨by rfl, rfl⟩) ?_ ?_
          rotate_left
          · simp only [Act.put, List.setIfInBounds_toArray, List.set_cons_zero, List.set_cons_succ, i64_w, i32_w]
            rfl
          refine pure_ (i := 10) (N := some 100) (v := undef) (a' := ?_) #[true, true, true, true, true, true, true, true, true, true, true, false, false, false, false, false, false, false, false, false] rfl rfl (by kernel_rfl) (fun _ _ _ h => h) (Or.inr ⟨by rfl, rfl⟩) ?_ ?_
          rotate_left
          · simp only [Act.put, List.setIfInBounds_toArray, List.set_cons_zero, List.set_cons_succ, i64_w, i32_w]
            rfl
          refine pure_ (i := 11) (N := some 101) (v := undef) (a' := ?_) #[true, true, true, true, true, true, true, true, true, true, true, true, false, false, false, false, false, false, false, false] rfl rfl (by kernel_rfl) (fun _ _ _ h => h) (Or.inr ⟨by rfl, rfl⟩) ?_ ?_
          rotate_left
          · simp only [Act.put, List.setIfInBounds_toArray, List.set_cons_zero, List.set_cons_succ, i64_w, i32_w]
            rfl
          refine pure_ (i := 12) (N := some 102) (v := undef) (a' := ?_) #[true, true, true, true, true, true, true, true, true, true, true, true, true, false, false, false, false, false, false, false] rfl rfl (by kernel_rfl) (fun _ _ _ h => h) (Or.inr ⟨by rfl, rfl⟩) ?_ ?_
          rotate_left
          · simp only [Act.put, List.setIfInBounds_toArray, List.set_cons_zero, List.set_cons_succ, i64_w, i32_w]
            rfl
          refine pure_ (i := 13) (N := some 103) (v := undef) (a' := ?_) #[true, true, true, true, true, true, true, true, true, true, true, true, true, true, false, false, false, false, false, false] rfl rfl (by kernel_rfl) (fun _ _ _ h => h) (Or.inr ⟨by rfl, rfl⟩) ?_ ?_
          rotate_left
          · simp only [Act.put, List.setIfInBounds_toArray, List.set_cons_zero, List.set_cons_succ, i64_w, i32_w]
            rfl
          refine pure_ (i := 14) (N := some 104) (v := undef) (a' := ?_) #[true, true, true, true, true, true, true, true, true, true, true, true, true, true, true, false, false, false, false, false] rfl rfl (by kernel_rfl) (fun _ _ _ h => h) (Or.inr ⟨by rfl, rfl⟩) ?_ ?_
          rotate_left
          · simp only [Act.put, List.setIfInBounds_toArray, List.set_cons_zero, List.set_cons_succ, i64_w, i32_w]
            rfl
          refine pure_ (i := 15) (N := some 105) (v := undef) (a' := ?_) #[true, true, true, true, true, true, true, true, true, true, true, true, true, true, true, true, false, false, false, false] rfl rfl (by kernel_rfl) (fun _ _ _ h => h) (Or.inr ⟨by rfl, rfl⟩) ?_ ?_
          rotate_left
          · simp only [Act.put, List.setIfInBounds_toArray, List.set_cons_zero, List.set_cons_succ, i64_w, i32_w]
            rfl
          refine pure_ (i := 16) (N := some 106) (v := undef) (a' := ?_) #[true, true, true, true, true, true, true, true, true, true, true, true, true, true, true, true, true, false, false, false] rfl rfl (by kernel_rfl) (fun _ _ _ h => h) (Or.inr ⟨by rfl, rfl⟩) ?_ ?_
          rotate_left
          · simp only [Act.put, List.setIfInBounds_toArray, List.set_cons_zero, List.set_cons_succ, i64_w, i32_w]
            rfl
          refine pure_ (i := 17) (N := some 107) (v := undef) (a' := ?_) #[true, true, true, true, true, true, true, true, true, true, true, true, true, true, true, true, true, true, false, false] rfl rfl (by kernel_rfl) (fun _ _ _ h => h) (Or.inr ⟨by rfl, rfl⟩) ?_ ?_
          rotate_left
          · simp only [Act.put, List.setIfInBounds_toArray, List.set_cons_zero, List.set_cons_succ, i64_w, i32_w]
            rfl
          refine pure_ (i := 18) (N := some 108) (v := ?_) (a' := ?_) #[true, true, true, true, true, true, true, true, true, true, true, true, true, true, true, true, true, true, true, false] rfl rfl (by kernel_rfl) (fun _ _ _ h => h) (Or.inl ⟨by rfl, ?_⟩) ?_ ?_
          rotate_left
          · intro w'
            go_simp
            with_reducible rfl
          rotate_left
          · simp only [Act.put, List.setIfInBounds_toArray, List.set_cons_zero, List.set_cons_succ, i64_w, i32_w]
            rfl
          refine pure_ (i := 19) (N := some 109) (v := ?_) (a' := ?_) #[true, true, true, true, true, true, true, true, true, true, true, true, true, true, true, true, true, true, true, true] rfl rfl (by kernel_rfl) (fun _ _ _ h => h) (Or.inl ⟨by rfl, ?_⟩) ?_ ?_
          rotate_left
          · intro w'
            go_simp
            with_reducible rfl
          rotate_left
          · simp only [Act.put, List.setIfInBounds_toArray, List.set_cons_zero, List.set_cons_succ, i64_w, i32_w]
            rfl
          refine done_ (by kernel_rfl) ?_
          clear hHeld
          have KF := Aside0.mk (K6.out.below (Below.refl _ _).drew)
          have KOF := Aside0.mk (Row.OwnB.below KO56.out (Below.refl _ _).drew)
          have KbF : Aside0 (Below w.heap.size w w6.drew) := ⟨Kb6.out.drew⟩
          have KXF := Aside0.mk (blk_below KX6.out (Below.refl _ _).drew)
          obtain ⟨wF, hwF⟩ : ∃ wF, wF = w6.drew := ⟨_, rfl⟩
          rw [← hwF] at KF KOF KbF KXF ⊢
          clear hwF K3 K4 K5 K6 KO5 KO6 KO56 KX3 KX4 KX5 KX6
          by_cases hh0 : hh = 0
          · subst hh0
            obtain ⟨pg, rfl, hpg, hbl, hxe⟩ := Fl.write_fresh_ok a1 l2 Kx1.out.2.symm
            rw [← Kx1.out.1] at hxe
            obtain ⟨o, ho⟩ : ∃ o, o = pg * B := ⟨_, rfl⟩
            have hfit : o + B ≤ N := by
              rw [KNe.out, ho]
              calc pg * B + B = (pg + 1) * B := by rw [Nat.add_mul, Nat.one_mul]
                _ ≤ S * P * B := Nat.mul_le_mul_right _ hpg
            have hmem : ∀ j, j < N → x1.mem.getD j 0 = if o ≤ j ∧ j - o < l2.length then l2.getD (j - o) 0 else 255 := by
              intro j hj
              rw [hxe, ← KNe.out, ← ho]
              exact Fl.want_at l2 hbl hfit j hj
            have hdirty : Fl.dirtyP x1 (pg : Int) = true := by
              rw [hxe]
              unfold Fl.dirtyP
              simp [hpg, List.getD_eq_getElem?_getD]
              rw [← Int.natCast_mul]
              exact Int.ofNat_lt.2 hpg
            have hops : x1.ops = 1 := by rw [hxe]
            have hw1 : IntKind.i64.wrap ((pg : Int) * (B : Int)) = (o : Int) := by rw [← Int.natCast_mul, ← ho]; exact IntWalk.i64_in _ (by have := KN1.out; omega)
            have d2 : wF.cell? ⟨g, 2, none⟩ = some (.int .i64 B) := (cell_of_row _ _ _ _ _ _ KXF.out).trans rfl
            obtain ⟨-, -, hC5⟩ := Row.OwnB.reads KOF.out
            rw [← KN.out] at hC5
            obtain ⟨ad5, hA5, hc5⟩ := (Kd.reads_of_C (d := (0 : Int)) hC5).2.2 (by have := KN1.out; omega)
            subst hA5
            have hC2 := Kd.C_below Kr2.out KbF.out
            have hC2r := (Kd.reads_of_C (d := (0 : Int)) hC2).2.2
            have Kmem := Aside0.mk hmem
            have Kc5 := Aside0.mk hc5
            have KC2 := Aside0.mk hC2r
            have Kdirty := Aside0.mk hdirty
            have Kops := Aside0.mk hops
            have Kbl := Aside0.mk hbl
            have Ko := Aside0.mk ho
            have hNN := KN1.out
            clear hpg hxe ho hmem hdirty hops hC5 hc5 hC2 hC2r hbl
            go_wp2_with (go_at_call 11; refine (Fl.num_any _ _).mono ?_; rintro e w' ⟨rfl, rfl⟩)
            go_loopw [19] (fun i wr => ∃ k : Nat, k ≤ N ∧ i = .int .i64 k ∧ wr = wF) (fun i _ => N - (intOf i).toNat)
            case atStart => exact ⟨0, Nat.zero_le _, rfl, rfl⟩
            case round =>
              obtain ⟨k, hk, rfl, rfl⟩ := hrel
              by_cases hlt : k < N
              · have hv := Kmem.out k hlt
                have hcA := Kc5.out k hlt
                obtain ⟨v, hve⟩ : ∃ v, v = x1.mem.getD k 0 := ⟨_, rfl⟩
                rw [← hve] at hv hcA
                by_cases h1 : o ≤ k
                · by_cases h2 : k - o < l2.length
                  · rw [if_pos ⟨h1, h2⟩] at hv
                    obtain ⟨ad2, hA2, hc2⟩ := KC2.out (by omega)
                    have hcB := hc2 (k - o) h2
                    rw [← hv] at hcB
                    subst hA2
                    clear hv hc2 hve
                    go_wp2
                    refine ⟨⟨k + 1, hlt, by go_num, by trivial⟩, by simp [intOf]; omega⟩
                  · rw [if_neg (by omega)] at hv
                    subst hv
                    clear hve
                    go_wp2
                    refine ⟨⟨k + 1, hlt, by go_num, by trivial⟩, by simp [intOf]; omega⟩
                · rw [if_neg (by omega)] at hv
                  subst hv
                  clear hve
                  go_wp2
                  refine ⟨⟨k + 1, hlt, by go_num, by trivial⟩, by simp [intOf]; omega⟩
              · obtain rfl : k = N := by omega
                go_wp2_with (first | (go_at_call 20; refine (Fl.dirty_any KF.out _).mono ?_; rw [Kdirty.out]; rintro e w' ⟨rfl, rfl⟩) | (go_at_call 21; refine (Fl.ops_any KF.out).mono ?_; rw [Kops.out]; rintro e w' ⟨rfl, rfl⟩) | (go_at_call 14; refine (Fl.live_any _).mono ?_; rintro e w9 ⟨rfl, hb9⟩; have Kb9 := Aside0.mk hb9; clear hb9))
                go_ret
                exact ⟨rfl, below_then KbF.out KbF.out.size Kb9.out⟩
          · have hne : (hh != 0) = true := by simpa using hh0
            have hxf := Fl.write_fresh_no a1 l2 (by rw [← Kx1.out.2]; exact hh0)
            rw [← Kx1.out.1] at hxf
            have hdirty : Fl.dirtyP x1 a1 = false := by
              rw [hxf]
              unfold Fl.dirtyP
              simp only [Fl.fresh, List.length_replicate, List.getD_eq_getElem?_getD, List.getElem?_replicate]
              split <;> simp
            have hops : x1.ops = 0 := by rw [hxf]; rfl
            have Kdirty := Aside0.mk hdirty
            have Kops := Aside0.mk hops
            clear hxf hdirty hops hh0
            go_wp2_with (first | (go_at_call 11; refine (Fl.num_any _ _).mono ?_; rintro e w' ⟨rfl, rfl⟩) | (go_at_call 20; refine (Fl.dirty_any KF.out _).mono ?_; rw [Kdirty.out]; rintro e w' ⟨rfl, rfl⟩) | (go_at_call 21; refine (Fl.ops_any KF.out).mono ?_; rw [Kops.out]; rintro e w' ⟨rfl, rfl⟩) | (go_at_call 14; refine (Fl.live_any _).mono ?_; rintro e w9 ⟨rfl, hb9⟩; have Kb9 := Aside0.mk hb9; clear hb9))
            go_ret
            exact ⟨rfl, below_then KbF.out KbF.out.size Kb9.out⟩

      · obtain ⟨p, rfl⟩ := Int.eq_ofNat_of_zero_le hq1
        obtain ⟨m, rfl⟩ := Int.eq_ofNat_of_zero_le hq2
        obtain ⟨xs, hxs⟩ : ∃ xs : List Int, xs = (x1.mem.drop p).take m := ⟨_, rfl⟩
        have hpm : p + m ≤ N := by omega
        have hxl : xs.length = m := by rw [hxs, List.length_take, List.length_drop, ← hN]; omega
        have hrd2 : Fl.readP x1 p m = (xs, 0) := by
          unfold Fl.readP
          rw [if_pos (by rw [← hN]; omega), if_neg (by rw [hoff1]; decide), hxs]
          rfl
        have Krd2 := Aside0.mk hrd2
        have Kxl := Aside0.mk hxl
        have Kxs := Aside0.mk hxs
        clear hxs hxl hrd2 hq1 hq2
        clear hsm hck hc hs hS hP hB hx1 hhe hshape1 hoff1 hsame1 hN hNe hN1 hrd
        go_enter Try.func4, Try.ntmps4
        go_wp2_with (first | (go_at_call 15; refine (Ksm.out _).mono ?_; rintro e w1 ⟨rfl, hb1⟩; have hX1 := blk_below KX.out hb1; rw [hg] at hX1; have d0 : w1.cell? ⟨g, 0, none⟩ = some (.int .i64 S) := (cell_of_row _ _ _ _ _ _ hX1).trans rfl; have d1 : w1.cell? ⟨g, 1, none⟩ = some (.int .i64 P) := (cell_of_row _ _ _ _ _ _ hX1).trans rfl; have d2 : w1.cell? ⟨g, 2, none⟩ = some (.int .i64 B) := (cell_of_row _ _ _ _ _ _ hX1).trans rfl; have Kb1 : Aside0 (Below w.heap.size w w1) := ⟨below_then Kal.out Kal.out.size hb1⟩; clear hb1) | (go_at_call 13; refine (Kck.out _).mono ?_; rintro e w2 ⟨rfl, hb2⟩; have hX2 := blk_below hX1 hb2; clear hX1 d0 d1 d2; have d0 : w2.cell? ⟨g, 0, none⟩ = some (.int .i64 S) := (cell_of_row _ _ _ _ _ _ hX2).trans rfl; have d1 : w2.cell? ⟨g, 1, none⟩ = some (.int .i64 P) := (cell_of_row _ _ _ _ _ _ hX2).trans rfl; have d2 : w2.cell? ⟨g, 2, none⟩ = some (.int .i64 B) := (cell_of_row _ _ _ _ _ _ hX2).trans rfl; have Kb2 : Aside0 (Below w.heap.size w w2) := ⟨below_then Kb1.out Kb1.out.size hb2⟩; clear hb2) | (go_at_call 16; refine (Knew.out _).mono ?_; rintro e w3 ⟨f, gb, gd, gw, rfl, hF3, hb3⟩; have KX3 := Aside0.mk (blk_below hX2 hb3); clear hX2 d0 d1 d2; have Kb3 : Aside0 (Below w.heap.size w w3) := ⟨below_then Kb2.out Kb2.out.size hb3⟩; have K3 := Aside0.mk (hF3.lower Kb2.out.size); clear hb3 hF3) | (go_at_call 17; refine (Fl.write_any K3.out Ksh.out Klow.out (by decide) a1 A2 c2 l2 (fun w' hch => Kd.C_below Kr2.out (Kb3.out.trans hch.below)) Kpage.out).mono ?_; rw [← Kx1.out.1, ← Kx1.out.2]; rintro e w4 ⟨rfl, hF4, hch4⟩; have K4 := Aside0.mk hF4; have Kb4 : Aside0 (Below w.heap.size w w4) := ⟨Kb3.out.trans hch4.below⟩; have KX4 : Aside0 (w4.heap[g]? = some (.cells #[.int .i64 S, .int .i64 P, .int .i64 B] 23 (0, 0))) := ⟨(hch4.rest g (blk_lt KX3.out) (Fl.geo_ne KX3.out K3.out).1 (Fl.geo_ne KX3.out K3.out).2.1 (Fl.geo_ne KX3.out K3.out).2.2.1 (Fl.geo_ne KX3.out K3.out).2.2.2).trans KX3.out⟩; clear hF4 hch4) | (go_at_call 19; first | (refine (Fl.size_any K6.out).mono ?_; rintro e w' ⟨rfl, rfl⟩; rw [← KN.out]) | (refine (Fl.size_any K4.out).mono ?_; rintro e w' ⟨rfl, rfl⟩; rw [← KN.out])) | (go_at_call 18; have _t := tokA; refine (Fl.read_any K4.out (by rw [← KN.out]; have := KN1.out; omega) 0 N (by decide) (by have := KN1.out; omega)).mono ?_; rw [Krd.out]; rintro e w5 ⟨v5, rfl, hO5, hb5⟩; obtain ⟨A5, c5, hv5, hle5, -⟩ := Row.OwnB.slice hO5; rw [← KN.out] at hv5 hle5; subst hv5; have Kle5 := Aside0.mk hle5; have KO5 := Aside0.mk hO5; have K5 := Aside0.mk (K4.out.below hb5); have Kb5 : Aside0 (Below w.heap.size w w5) := ⟨below_then Kb4.out Kb4.out.size hb5⟩; have KX5 := Aside0.mk (blk_below KX4.out hb5); clear hO5 hb5 hle5 tokA) | (go_at_call 18; refine (Fl.read_any K5.out (by rw [← KN.out]; have := KN1.out; omega) _ _ Kat.out Kn.out).mono ?_; rw [Krd2.out]; rintro e w6 ⟨v6, rfl, hO6, hb6⟩; obtain ⟨A6, c6, hv6, -, -⟩ := Row.OwnB.slice hO6; rw [Kxl.out] at hv6; subst hv6; have KO6 := Aside0.mk hO6; have KO56 := Aside0.mk (KO5.out.below hb6); have K6 := Aside0.mk (K5.out.below hb6); have Kb6 : Aside0 (Below w.heap.size w w6) := ⟨below_then Kb5.out Kb5.out.size hb6⟩; have KX6 := Aside0.mk (blk_below KX5.out hb6); clear hO6 hb6) | (go_at_call 11; refine (Fl.num_any _ _).mono ?_; rintro e w' ⟨rfl, rfl⟩))

        have hxsC : Row.OwnB w6 w5.heap.size (.slice A6 m c6) xs := KO6.out
        have Ks1 := Aside0.mk (Kd.C_string (P := Try.prog) (c := c6) Try.underlying30 Try.underlying5 Try.underlying9 (Kd.C_drew (Row.OwnB.reads hxsC).2.2))
        rw [Kxl.out] at Ks1
        clear hxsC
        have hw8 : IntKind.i64.wrap ((p : Int) + (m : Int)) = (p : Int) + (m : Int) := IntWalk.i64_in _ (by omega)
        have hto : ((p : Int) + (m : Int)).toNat = p + m := by omega
        have hsub : p + m - p = m := by omega
        have hi1 : (0 : Int) ≤ (p : Int) := by omega
        have hi2 : (p : Int) ≤ (p : Int) + (m : Int) := by omega
        have hi3 : (p : Int) + (m : Int) ≤ (c5 : Int) := by have := Kle5.out; omega
        have hi4 : (0 : Int) ≤ (p : Int) + (m : Int) := by omega
        have hle : p ≤ p + m := by omega
        have hle2 : p + m ≤ c5 := by have := Kle5.out; omega
        have hC5a := (Row.OwnB.reads KO56.out).2.2
        rw [← KN.out] at hC5a
        obtain ⟨ad5, hA5, hc5⟩ := (Kd.reads_of_C (d := (0 : Int)) hC5a).2.2 (by have := KN1.out; omega)
        subst hA5
        by_cases hend : c5 = p
        · have hC0 : ∀ A, Kd.C (Kd.int .u8) w6 A m xs := fun A => Kd.C_of_reads (d := (0 : Int)) ⟨Kxl.out, by omega, fun h => absurd h (by have := Kle5.out; omega)⟩
          have Ks2 := Aside0.mk (fun (A : Option Addr) (c : Nat) => Kd.C_string (P := Try.prog) (c := c) Try.underlying30 Try.underlying5 Try.underlying9 (Kd.C_drew (hC0 A)))
          have hi5 : (p : Int) + (m : Int) ≤ (p : Int) := by have := Kle5.out; omega
          have hend : (c5 = p) = True := by simp; exact hend
          clear hC0 hC5a hc5
          refine start_ (n := 20) (S := fun w' => w' = w6.drew) (ds := []) #[false, false, false, false, false, false, false, false, false, false, false, false, false, false, false, false, false, false, false, false] (by kernel_rfl) rfl rfl (rfl) (fun hHeld => ?_)
          refine pure_ (i := 0) (N := some 90) (v := ?_) (a' := ?_) #[true, false, false, false, false, false, false, false, false, false, false, false, false, false, false, false, false, false, false, false] rfl rfl (by kernel_rfl) (fun _ _ _ h => h) (Or.inl ⟨by rfl, ?_⟩) ?_ ?_
          rotate_left
          · intro w'
            go_simp
            with_reducible rfl
          rotate_left
          · simp only [Act.put, List.setIfInBounds_toArray, List.set_cons_zero, List.set_cons_succ, i64_w, i32_w]
            rfl
          refine pure_ (i := 3) (N := some 93) (v := ?_) (a' := ?_) #[true, false, false, true, false, false, false, false, false, false, false, false, false, false, false, false, false, false, false, false] rfl rfl (by kernel_rfl) (fun _ _ _ h => h) (Or.inl ⟨by rfl, ?_⟩) ?_ ?_
          rotate_left
          · intro w'
            go_simp
            with_reducible rfl
          rotate_left
          · simp only [Act.put, List.setIfInBounds_toArray, List.set_cons_zero, List.set_cons_succ, i64_w, i32_w]
            rfl
          refine one_ (i := 1) (N := some 91) #[true, true, false, true, false, false, false, false, false, false, false, false, false, false, false, false, false, false, false, false] rfl rfl (by kernel_rfl) (by decide) (fun K hK => ?_)
          refine goes_ Try.func11 (by kernel_rfl) rfl #[.int .i64 0] (by rfl) rfl rfl (by simp only [List.map_toArray, List.map_cons, List.map_nil]; rfl) ?_
          with_reducible refine (Fl.num_any 0 _).mono ?_
          rintro e w7 ⟨rfl, rfl⟩
          refine ⟨_, rfl, ?_⟩
          refine hK.out _ _ (hHeld) (fun hHeld => ?_)
          clear hK K
          refine norm_ (a' := ?_) ?_ ?_
          rotate_left
          · show Act.put _ (some 91) _ = _
            simp only [Act.put, List.setIfInBounds_toArray, List.set_cons_zero, List.set_cons_succ, i64_w, i32_w]
            rfl
          refine pure_ (i := 2) (N := some 92) (v := ?_) (a' := ?_) #[true, true, true, true, false, false, false, false, false, false, false, false, false, false, false, false, false, false, false, false] rfl rfl (by kernel_rfl) (fun _ _ _ h => h) (Or.inl ⟨by rfl, ?_⟩) ?_ ?_
          rotate_left
          · intro w'
            go_simp
            with_reducible rfl
          rotate_left
          · simp only [Act.put, List.setIfInBounds_toArray, List.set_cons_zero, List.set_cons_succ, i64_w, i32_w]
            rfl
          refine pure_ (i := 4) (N := some 94) (v := ?_) (a' := ?_) #[true, true, true, true, true, false, false, false, false, false, false, false, false, false, false, false, false, false, false, false] rfl rfl (by kernel_rfl) (fun _ _ _ h => h) (Or.inl ⟨by rfl, ?_⟩) ?_ ?_
          rotate_left
          · intro w'
            go_simp
            with_reducible rfl
          rotate_left
          · simp only [Act.put, List.setIfInBounds_toArray, List.set_cons_zero, List.set_cons_succ, i64_w, i32_w]
            rfl
          refine pure_ (i := 5) (N := some 95) (v := ?_) (a' := ?_) #[true, true, true, true, true, true, false, false, false, false, false, false, false, false, false, false, false, false, false, false] rfl rfl (by kernel_rfl) (fun _ _ _ h => h) (Or.inl ⟨by rfl, ?_⟩) ?_ ?_
          rotate_left
          · intro w'
            go_simp
            with_reducible rfl
          rotate_left
          · simp only [Act.put, List.setIfInBounds_toArray, List.set_cons_zero, List.set_cons_succ, i64_w, i32_w]
            rfl
          refine pure_ (i := 6) (N := some 96) (v := ?_) (a' := ?_) #[true, true, true, true, true, true, true, false, false, false, false, false, false, false, false, false, false, false, false, false] rfl rfl (by kernel_rfl) (fun _ _ _ h => h) (Or.inl ⟨by rfl, ?_⟩) ?_ ?_
          rotate_left
          · intro w'
            go_simp
            with_reducible rfl
          rotate_left
          · simp only [Act.put, List.setIfInBounds_toArray, List.set_cons_zero, List.set_cons_succ, i64_w, i32_w]
            rfl
          refine pure_ (i := 7) (N := some 97) (v := ?_) (a' := ?_) #[true, true, true, true, true, true, true, true, false, false, false, false, false, false, false, false, false, false, false, false] rfl rfl (by kernel_rfl) (fun _ _ _ h => h) (Or.inl ⟨by rfl, ?_⟩) ?_ ?_
          rotate_left
          · intro w'
            go_simp
            with_reducible rfl
          rotate_left
          · simp only [Act.put, List.setIfInBounds_toArray, List.set_cons_zero, List.set_cons_succ, i64_w, i32_w]
            rfl
          refine pure_ (i := 8) (N := some 98) (v := ?_) (a' := ?_) #[true, true, true, true, true, true, true, true, true, false, false, false, false, false, false, false, false, false, false, false] rfl rfl (by kernel_rfl) (fun _ _ _ h => h) (Or.inl ⟨by rfl, ?_⟩) ?_ ?_
          rotate_left
          · intro w'
            go_simp
            with_reducible rfl
          rotate_left
          · simp only [Act.put, List.setIfInBounds_toArray, List.set_cons_zero, List.set_cons_succ, i64_w, i32_w]
            rfl
          refine pure_ (i := 10) (N := some 100) (v := ?_) (a' := ?_) #[true, true, true, true, true, true, true, true, true, false, true, false, false, false, false, false, false, false, false, false] rfl rfl (by kernel_rfl) (fun _ _ _ h => h) (Or.inl ⟨by rfl, ?_⟩) ?_ ?_
          rotate_left
          · intro w'
            go_simp
            with_reducible rfl
          rotate_left
          · simp only [Act.put, List.setIfInBounds_toArray, List.set_cons_zero, List.set_cons_succ, i64_w, i32_w]
            rfl
          refine pure_ (i := 11) (N := some 101) (v := ?_) (a' := ?_) #[true, true, true, true, true, true, true, true, true, false, true, true, false, false, false, false, false, false, false, false] rfl rfl (by kernel_rfl) (fun _ _ _ h => h) (Or.inl ⟨by rfl, ?_⟩) ?_ ?_
          rotate_left
          · intro w'
            go_simp
            with_reducible rfl
          rotate_left
          · simp only [Act.put, List.setIfInBounds_toArray, List.set_cons_zero, List.set_cons_succ, i64_w, i32_w]
            rfl
          refine pure_ (i := 12) (N := some 102) (v := ?_) (a' := ?_) #[true, true, true, true, true, true, true, true, true, false, true, true, true, false, false, false, false, false, false, false] rfl rfl (by kernel_rfl) (fun _ _ _ h => h) (Or.inl ⟨by rfl, ?_⟩) ?_ ?_
          rotate_left
          · intro w'
            go_simp
            with_reducible rfl
          rotate_left
          · simp only [Act.put, List.setIfInBounds_toArray, List.set_cons_zero, List.set_cons_succ, i64_w, i32_w]
            rfl
          refine pure_ (i := 13) (N := some 103) (v := ?_) (a' := ?_) #[true, true, true, true, true, true, true, true, true, false, true, true, true, true, false, false, false, false, false, false] rfl rfl (by kernel_rfl) (fun _ _ _ h => h) (Or.inl ⟨by rfl, ?_⟩) ?_ ?_
          rotate_left
          · intro w'
            go_simp
            with_reducible rfl
          rotate_left
          · simp only [Act.put, List.setIfInBounds_toArray, List.set_cons_zero, List.set_cons_succ, i64_w, i32_w]
            rfl
          refine pure_ (i := 14) (N := some 104) (v := ?_) (a' := ?_) #[true, true, true, true, true, true, true, true, true, false, true, true, true, true, true, false, false, false, false, false] rfl rfl (by kernel_rfl) (fun _ _ _ h => h) (Or.inl ⟨by rfl, ?_⟩) ?_ ?_
          rotate_left
          · intro w'
            go_simp
            with_reducible rfl
          rotate_left
          · simp only [Act.put, List.setIfInBounds_toArray, List.set_cons_zero, List.set_cons_succ, i64_w, i32_w]
            rfl
          refine pure_ (i := 15) (N := some 105) (v := ?_) (a' := ?_) #[true, true, true, true, true, true, true, true, true, false, true, true, true, true, true, true, false, false, false, false] rfl rfl (by kernel_rfl) (fun _ _ _ h => h) (Or.inl ⟨by rfl, ?_⟩) ?_ ?_
          rotate_left
          · intro w'
            go_simp
            with_reducible rfl
          rotate_left
          · simp only [Act.put, List.setIfInBounds_toArray, List.set_cons_zero, List.set_cons_succ, i64_w, i32_w]
            rfl
          refine take_ (i := 9) (N := some 99) (v := .string (strOfNums xs)) (a' := ?_) #[true, true, true, true, true, true, true, true, true, true, true, true, true, true, true, true, false, false, false, false] rfl rfl (by kernel_rfl) (fun _ _ _ h => h) (Or.inl ⟨by rfl, ?_⟩) hHeld ?_ ?_
          · intro w' s0
            subst s0
            exact Fl.exec_convert 30 9 (Operand.tmp 98) (by rfl) _ _ (by rfl) Ks1.out
          rotate_left
          · simp only [Act.put, List.setIfInBounds_toArray, List.set_cons_zero, List.set_cons_succ, i64_w, i32_w]
            rfl
          refine take_ (i := 16) (N := some 106) (v := .string (strOfNums xs)) (a' := ?_) #[true, true, true, true, true, true, true, true, true, true, true, true, true, true, true, true, true, false, false, false] rfl rfl (by kernel_rfl) (fun _ _ _ h => h) (Or.inl ⟨by rfl, ?_⟩) hHeld ?_ ?_
          · intro w' s0
            subst s0
            exact Fl.exec_convert 30 9 (Operand.tmp 105) (by rfl) _ _ (by rfl) (Ks2.out _ _)
          rotate_left
          · simp only [Act.put, List.setIfInBounds_toArray, List.set_cons_zero, List.set_cons_succ, i64_w, i32_w]
            rfl
          refine pure_ (i := 17) (N := some 107) (v := ?_) (a' := ?_) #[true, true, true, true, true, true, true, true, true, true, true, true, true, true, true, true, true, true, false, false] rfl rfl (by kernel_rfl) (fun _ _ _ h => h) (Or.inl ⟨by rfl, ?_⟩) ?_ ?_
          rotate_left
          · intro w'
            go_simp
            with_reducible rfl
          rotate_left
          · simp only [Act.put, List.setIfInBounds_toArray, List.set_cons_zero, List.set_cons_succ, i64_w, i32_w]
            rfl
          refine pure_ (i := 18) (N := some 108) (v := ?_) (a' := ?_) #[true, true, true, true, true, true, true, true, true, true, true, true, true, true, true, true, true, true, true, false] rfl rfl (by kernel_rfl) (fun _ _ _ h => h) (Or.inl ⟨by rfl, ?_⟩) ?_ ?_
          rotate_left
          · intro w'
            go_simp
            with_reducible rfl
          rotate_left
          · simp only [Act.put, List.setIfInBounds_toArray, List.set_cons_zero, List.set_cons_succ, i64_w, i32_w]
            rfl
          refine pure_ (i := 19) (N := some 109) (v := ?_) (a' := ?_) #[true, true, true, true, true, true, true, true, true, true, true, true, true, true, true, true, true, true, true, true] rfl rfl (by kernel_rfl) (fun _ _ _ h => h) (Or.inl ⟨by rfl, ?_⟩) ?_ ?_
          rotate_left
          · intro w'
            go_simp
            with_reducible rfl
          rotate_left
          · simp only [Act.put, List.setIfInBounds_toArray, List.set_cons_zero, List.set_cons_succ, i64_w, i32_w]
            rfl
          refine done_ (by kernel_rfl) ?_
          clear hHeld
          have KF := Aside0.mk (K6.out.below (Below.refl _ _).drew)
          have KOF := Aside0.mk (Row.OwnB.below KO56.out (Below.refl _ _).drew)
          have KbF : Aside0 (Below w.heap.size w w6.drew) := ⟨Kb6.out.drew⟩
          have KXF := Aside0.mk (blk_below KX6.out (Below.refl _ _).drew)
          obtain ⟨wF, hwF⟩ : ∃ wF, wF = w6.drew := ⟨_, rfl⟩
          rw [← hwF] at KF KOF KbF KXF ⊢
          clear hwF K3 K4 K5 K6 KO5 KO6 KO56 KX3 KX4 KX5 KX6
          by_cases hh0 : hh = 0
          · subst hh0
            obtain ⟨pg, rfl, hpg, hbl, hxe⟩ := Fl.write_fresh_ok a1 l2 Kx1.out.2.symm
            rw [← Kx1.out.1] at hxe
            obtain ⟨o, ho⟩ : ∃ o, o = pg * B := ⟨_, rfl⟩
            have hfit : o + B ≤ N := by
              rw [KNe.out, ho]
              calc pg * B + B = (pg + 1) * B := by rw [Nat.add_mul, Nat.one_mul]
                _ ≤ S * P * B := Nat.mul_le_mul_right _ hpg
            have hmem : ∀ j, j < N → x1.mem.getD j 0 = if o ≤ j ∧ j - o < l2.length then l2.getD (j - o) 0 else 255 := by
              intro j hj
              rw [hxe, ← KNe.out, ← ho]
              exact Fl.want_at l2 hbl hfit j hj
            have hdirty : Fl.dirtyP x1 (pg : Int) = true := by
              rw [hxe]
              unfold Fl.dirtyP
              simp [hpg, List.getD_eq_getElem?_getD]
              rw [← Int.natCast_mul]
              exact Int.ofNat_lt.2 hpg
            have hops : x1.ops = 1 := by rw [hxe]
            have hw1 : IntKind.i64.wrap ((pg : Int) * (B : Int)) = (o : Int) := by rw [← Int.natCast_mul, ← ho]; exact IntWalk.i64_in _ (by have := KN1.out; omega)
            have d2 : wF.cell? ⟨g, 2, none⟩ = some (.int .i64 B) := (cell_of_row _ _ _ _ _ _ KXF.out).trans rfl
            obtain ⟨-, -, hC5⟩ := Row.OwnB.reads KOF.out
            rw [← KN.out] at hC5
            obtain ⟨ad5, hA5, hc5⟩ := (Kd.reads_of_C (d := (0 : Int)) hC5).2.2 (by have := KN1.out; omega)
            injection hA5 with hA5
            subst hA5
            have hC2 := Kd.C_below Kr2.out KbF.out
            have hC2r := (Kd.reads_of_C (d := (0 : Int)) hC2).2.2
            have Kmem := Aside0.mk hmem
            have Kc5 := Aside0.mk hc5
            have KC2 := Aside0.mk hC2r
            have Kdirty := Aside0.mk hdirty
            have Kops := Aside0.mk hops
            have Kbl := Aside0.mk hbl
            have Ko := Aside0.mk ho
            have hNN := KN1.out
            clear hpg hxe ho hmem hdirty hops hC5 hc5 hC2 hC2r hbl
            go_wp2_with (go_at_call 11; refine (Fl.num_any _ _).mono ?_; rintro e w' ⟨rfl, rfl⟩)
            go_loopw [19] (fun i wr => ∃ k : Nat, k ≤ N ∧ i = .int .i64 k ∧ wr = wF) (fun i _ => N - (intOf i).toNat)
            case atStart => exact ⟨0, Nat.zero_le _, rfl, rfl⟩
            case round =>
              obtain ⟨k, hk, rfl, rfl⟩ := hrel
              by_cases hlt : k < N
              · have hv := Kmem.out k hlt
                have hcA := Kc5.out k hlt
                obtain ⟨v, hve⟩ : ∃ v, v = x1.mem.getD k 0 := ⟨_, rfl⟩
                rw [← hve] at hv hcA
                by_cases h1 : o ≤ k
                · by_cases h2 : k - o < l2.length
                  · rw [if_pos ⟨h1, h2⟩] at hv
                    obtain ⟨ad2, hA2, hc2⟩ := KC2.out (by omega)
                    have hcB := hc2 (k - o) h2
                    rw [← hv] at hcB
                    subst hA2
                    clear hv hc2 hve
                    go_wp2
                    refine ⟨⟨k + 1, hlt, by go_num, by trivial⟩, by simp [intOf]; omega⟩
                  · rw [if_neg (by omega)] at hv
                    subst hv
                    clear hve
                    go_wp2
                    refine ⟨⟨k + 1, hlt, by go_num, by trivial⟩, by simp [intOf]; omega⟩
                · rw [if_neg (by omega)] at hv
                  subst hv
                  clear hve
                  go_wp2
                  refine ⟨⟨k + 1, hlt, by go_num, by trivial⟩, by simp [intOf]; omega⟩
              · obtain rfl : k = N := by omega
                go_wp2_with (first | (go_at_call 20; refine (Fl.dirty_any KF.out _).mono ?_; rw [Kdirty.out]; rintro e w' ⟨rfl, rfl⟩) | (go_at_call 21; refine (Fl.ops_any KF.out).mono ?_; rw [Kops.out]; rintro e w' ⟨rfl, rfl⟩) | (go_at_call 14; refine (Fl.live_any _).mono ?_; rintro e w9 ⟨rfl, hb9⟩; have Kb9 := Aside0.mk hb9; clear hb9))
                go_ret
                exact ⟨rfl, below_then KbF.out KbF.out.size Kb9.out⟩
          · have hne : (hh != 0) = true := by simpa using hh0
            have hxf := Fl.write_fresh_no a1 l2 (by rw [← Kx1.out.2]; exact hh0)
            rw [← Kx1.out.1] at hxf
            have hdirty : Fl.dirtyP x1 a1 = false := by
              rw [hxf]
              unfold Fl.dirtyP
              simp only [Fl.fresh, List.length_replicate, List.getD_eq_getElem?_getD, List.getElem?_replicate]
              split <;> simp
            have hops : x1.ops = 0 := by rw [hxf]; rfl
            have Kdirty := Aside0.mk hdirty
            have Kops := Aside0.mk hops
            clear hxf hdirty hops hh0
            go_wp2_with (first | (go_at_call 11; refine (Fl.num_any _ _).mono ?_; rintro e w' ⟨rfl, rfl⟩) | (go_at_call 20; refine (Fl.dirty_any KF.out _).mono ?_; rw [Kdirty.out]; rintro e w' ⟨rfl, rfl⟩) | (go_at_call 21; refine (Fl.ops_any KF.out).mono ?_; rw [Kops.out]; rintro e w' ⟨rfl, rfl⟩) | (go_at_call 14; refine (Fl.live_any _).mono ?_; rintro e w9 ⟨rfl, hb9⟩; have Kb9 := Aside0.mk hb9; clear hb9))
            go_ret
            exact ⟨rfl, below_then KbF.out KbF.out.size Kb9.out⟩
        · have hend : (c5 = p) = False := by simp; exact hend
          have hpart : Kd.C (Kd.int .u8) w6 (some (ad5.add p)) m xs := by
            refine Kd.C_of_reads (d := (0 : Int)) ⟨Kxl.out, by omega, fun _ => ⟨_, rfl, fun j hj => ?_⟩⟩
            rw [Addr.add_add, hc5 (p + j) (by omega)]
            congr 2
            rw [Kxs.out, List.getD_eq_getElem?_getD, List.getD_eq_getElem?_getD, List.getElem?_take, if_pos hj, List.getElem?_drop]
          have Ks2 := Aside0.mk (Kd.C_string (P := Try.prog) (c := c5 - p) Try.underlying30 Try.underlying5 Try.underlying9 (Kd.C_drew hpart))
          clear hC5a hc5 hpart
          refine start_ (n := 20) (S := fun w' => w' = w6.drew) (ds := []) #[false, false, false, false, false, false, false, false, false, false, false, false, false, false, false, false, false, false, false, false] (by kernel_rfl) rfl rfl (rfl) (fun hHeld => ?_)
          refine pure_ (i := 0) (N := some 90) (v := ?_) (a' := ?_) #[true, false, false, false, false, false, false, false, false, false, false, false, false, false, false, false, false, false, false, false] rfl rfl (by kernel_rfl) (fun _ _ _ h => h) (Or.inl ⟨by rfl, ?_⟩) ?_ ?_
          rotate_left
          · intro w'
            go_simp
            with_reducible rfl
          rotate_left
          · simp only [Act.put, List.setIfInBounds_toArray, List.set_cons_zero, List.set_cons_succ, i64_w, i32_w]
            rfl
          refine pure_ (i := 3) (N := some 93) (v := ?_) (a' := ?_) #[true, false, false, true, false, false, false, false, false, false, false, false, false, false, false, false, false, false, false, false] rfl rfl (by kernel_rfl) (fun _ _ _ h => h) (Or.inl ⟨by rfl, ?_⟩) ?_ ?_
          rotate_left
          · intro w'
            go_simp
            with_reducible rfl
          rotate_left
          · simp only [Act.put, List.setIfInBounds_toArray, List.set_cons_zero, List.set_cons_succ, i64_w, i32_w]
            rfl
          refine one_ (i := 1) (N := some 91) #[true, true, false, true, false, false, false, false, false, false, false, false, false, false, false, false, false, false, false, false] rfl rfl (by kernel_rfl) (by decide) (fun K hK => ?_)
          refine goes_ Try.func11 (by kernel_rfl) rfl #[.int .i64 0] (by rfl) rfl rfl (by simp only [List.map_toArray, List.map_cons, List.map_nil]; rfl) ?_
          with_reducible refine (Fl.num_any 0 _).mono ?_
          rintro e w7 ⟨rfl, rfl⟩
          refine ⟨_, rfl, ?_⟩
          refine hK.out _ _ (hHeld) (fun hHeld => ?_)
          clear hK K
          refine norm_ (a' := ?_) ?_ ?_
          rotate_left
          · show Act.put _ (some 91) _ = _
            simp only [Act.put, List.setIfInBounds_toArray, List.set_cons_zero, List.set_cons_succ, i64_w, i32_w]
            rfl
          refine pure_ (i := 2) (N := some 92) (v := ?_) (a' := ?_) #[true, true, true, true, false, false, false, false, false, false, false, false, false, false, false, false, false, false, false, false] rfl rfl (by kernel_rfl) (fun _ _ _ h => h) (Or.inl ⟨by rfl, ?_⟩) ?_ ?_
          rotate_left
          · intro w'
            go_simp
            with_reducible rfl
          rotate_left
          · simp only [Act.put, List.setIfInBounds_toArray, List.set_cons_zero, List.set_cons_succ, i64_w, i32_w]
            rfl
          refine pure_ (i := 4) (N := some 94) (v := ?_) (a' := ?_) #[true, true, true, true, true, false, false, false, false, false, false, false, false, false, false, false, false, false, false, false] rfl rfl (by kernel_rfl) (fun _ _ _ h => h) (Or.inl ⟨by rfl, ?_⟩) ?_ ?_
          rotate_left
          · intro w'
            go_simp
            with_reducible rfl
          rotate_left
          · simp only [Act.put, List.setIfInBounds_toArray, List.set_cons_zero, List.set_cons_succ, i64_w, i32_w]
            rfl
          refine pure_ (i := 5) (N := some 95) (v := ?_) (a' := ?_) #[true, true, true, true, true, true, false, false, false, false, false, false, false, false, false, false, false, false, false, false] rfl rfl (by kernel_rfl) (fun _ _ _ h => h) (Or.inl ⟨by rfl, ?_⟩) ?_ ?_
          rotate_left
          · intro w'
            go_simp
            with_reducible rfl
          rotate_left
          · simp only [Act.put, List.setIfInBounds_toArray, List.set_cons_zero, List.set_cons_succ, i64_w, i32_w]
            rfl
          refine pure_ (i := 6) (N := some 96) (v := ?_) (a' := ?_) #[true, true, true, true, true, true, true, false, false, false, false, false, false, false, false, false, false, false, false, false] rfl rfl (by kernel_rfl) (fun _ _ _ h => h) (Or.inl ⟨by rfl, ?_⟩) ?_ ?_
          rotate_left
          · intro w'
            go_simp
            with_reducible rfl
          rotate_left
          · simp only [Act.put, List.setIfInBounds_toArray, List.set_cons_zero, List.set_cons_succ, i64_w, i32_w]
            rfl
          refine pure_ (i := 7) (N := some 97) (v := ?_) (a' := ?_) #[true, true, true, true, true, true, true, true, false, false, false, false, false, false, false, false, false, false, false, false] rfl rfl (by kernel_rfl) (fun _ _ _ h => h) (Or.inl ⟨by rfl, ?_⟩) ?_ ?_
          rotate_left
          · intro w'
            go_simp
            with_reducible rfl
          rotate_left
          · simp only [Act.put, List.setIfInBounds_toArray, List.set_cons_zero, List.set_cons_succ, i64_w, i32_w]
            rfl
          refine pure_ (i := 8) (N := some 98) (v := ?_) (a' := ?_) #[true, true, true, true, true, true, true, true, true, false, false, false, false, false, false, false, false, false, false, false] rfl rfl (by kernel_rfl) (fun _ _ _ h => h) (Or.inl ⟨by rfl, ?_⟩) ?_ ?_
          rotate_left
          · intro w'
            go_simp
            with_reducible rfl
          rotate_left
          · simp only [Act.put, List.setIfInBounds_toArray, List.set_cons_zero, List.set_cons_succ, i64_w, i32_w]
            rfl
          refine pure_ (i := 10) (N := some 100) (v := ?_) (a' := ?_) #[true, true, true, true, true, true, true, true, true, false, true, false, false, false, false, false, false, false, false, false] rfl rfl (by kernel_rfl) (fun _ _ _ h => h) (Or.inl ⟨by rfl, ?_⟩) ?_ ?_
          rotate_left
          · intro w'
            go_simp
            with_reducible rfl
          rotate_left
          · simp only [Act.put, List.setIfInBounds_toArray, List.set_cons_zero, List.set_cons_succ, i64_w, i32_w]
            rfl
          refine pure_ (i := 11) (N := some 101) (v := ?_) (a' := ?_) #[true, true, true, true, true, true, true, true, true, false, true, true, false, false, false, false, false, false, false, false] rfl rfl (by kernel_rfl) (fun _ _ _ h => h) (Or.inl ⟨by rfl, ?_⟩) ?_ ?_
          rotate_left
          · intro w'
            go_simp
            with_reducible rfl
          rotate_left
          · simp only [Act.put, List.setIfInBounds_toArray, List.set_cons_zero, List.set_cons_succ, i64_w, i32_w]
            rfl
          refine pure_ (i := 12) (N := some 102) (v := ?_) (a' := ?_) #[true, true, true, true, true, true, true, true, true, false, true, true, true, false, false, false, false, false, false, false] rfl rfl (by kernel_rfl) (fun _ _ _ h => h) (Or.inl ⟨by rfl, ?_⟩) ?_ ?_
          rotate_left
          · intro w'
            go_simp
            with_reducible rfl
          rotate_left
          · simp only [Act.put, List.setIfInBounds_toArray, List.set_cons_zero, List.set_cons_succ, i64_w, i32_w]
            rfl
          refine pure_ (i := 13) (N := some 103) (v := ?_) (a' := ?_) #[true, true, true, true, true, true, true, true, true, false, true, true, true, true, false, false, false, false, false, false] rfl rfl (by kernel_rfl) (fun _ _ _ h => h) (Or.inl ⟨by rfl, ?_⟩) ?_ ?_
          rotate_left
          · intro w'
            go_simp
            with_reducible rfl
          rotate_left
          · simp only [Act.put, List.setIfInBounds_toArray, List.set_cons_zero, List.set_cons_succ, i64_w, i32_w]
            rfl
          refine pure_ (i := 14) (N := some 104) (v := ?_) (a' := ?_) #[true, true, true, true, true, true, true, true, true, false, true, true, true, true, true, false, false, false, false, false] rfl rfl (by kernel_rfl) (fun _ _ _ h => h) (Or.inl ⟨by rfl, ?_⟩) ?_ ?_
          rotate_left
          · intro w'
            go_simp
            with_reducible rfl
          rotate_left
          · simp only [Act.put, List.setIfInBounds_toArray, List.set_cons_zero, List.set_cons_succ, i64_w, i32_w]
            rfl
          refine pure_ (i := 15) (N := some 105) (v := ?_) (a' := ?_) #[true, true, true, true, true, true, true, true, true, false, true, true, true, true, true, true, false, false, false, false] rfl rfl (by kernel_rfl) (fun _ _ _ h => h) (Or.inl ⟨by rfl, ?_⟩) ?_ ?_
          rotate_left
          · intro w'
            go_simp
            with_reducible rfl
          rotate_left
          · simp only [Act.put, List.setIfInBounds_toArray, List.set_cons_zero, List.set_cons_succ, i64_w, i32_w]
            rfl
          refine take_ (i := 9) (N := some 99) (v := .string (strOfNums xs)) (a' := ?_) #[true, true, true, true, true, true, true, true, true, true, true, true, true, true, true, true, false, false, false, false] rfl rfl (by kernel_rfl) (fun _ _ _ h => h) (Or.inl ⟨by rfl, ?_⟩) hHeld ?_ ?_
          · intro w' s0
            subst s0
            exact Fl.exec_convert 30 9 (Operand.tmp 98) (by rfl) _ _ (by rfl) Ks1.out
          rotate_left
          · simp only [Act.put, List.setIfInBounds_toArray, List.set_cons_zero, List.set_cons_succ, i64_w, i32_w]
            rfl
          refine take_ (i := 16) (N := some 106) (v := .string (strOfNums xs)) (a' := ?_) #[true, true, true, true, true, true, true, true, true, true, true, true, true, true, true, true, true, false, false, false] rfl rfl (by kernel_rfl) (fun _ _ _ h => h) (Or.inl ⟨by rfl, ?_⟩) hHeld ?_ ?_
          · intro w' s0
            subst s0
            exact Fl.exec_convert 30 9 (Operand.tmp 105) (by rfl) _ _ (by rfl) Ks2.out
          rotate_left
          · simp only [Act.put, List.setIfInBounds_toArray, List.set_cons_zero, List.set_cons_succ, i64_w, i32_w]
            rfl
          refine pure_ (i := 17) (N := some 107) (v := ?_) (a' := ?_) #[true, true, true, true, true, true, true, true, true, true, true, true, true, true, true, true, true, true, false, false] rfl rfl (by kernel_rfl) (fun _ _ _ h => h) (Or.inl ⟨by rfl, ?_⟩) ?_ ?_
          rotate_left
          · intro w'
            go_simp
            with_reducible rfl
          rotate_left
          · simp only [Act.put, List.setIfInBounds_toArray, List.set_cons_zero, List.set_cons_succ, i64_w, i32_w]
            rfl
          refine pure_ (i := 18) (N := some 108) (v := ?_) (a' := ?_) #[true, true, true, true, true, true, true, true, true, true, true, true, true, true, true, true, true, true, true, false] rfl rfl (by kernel_rfl) (fun _ _ _ h => h) (Or.inl ⟨by rfl, ?_⟩) ?_ ?_
          rotate_left
          · intro w'
            go_simp
            with_reducible rfl
          rotate_left
          · simp only [Act.put, List.setIfInBounds_toArray, List.set_cons_zero, List.set_cons_succ, i64_w, i32_w]
            rfl
          refine pure_ (i := 19) (N := some 109) (v := ?_) (a' := ?_) #[true, true, true, true, true, true, true, true, true, true, true, true, true, true, true, true, true, true, true, true] rfl rfl (by kernel_rfl) (fun _ _ _ h => h) (Or.inl ⟨by rfl, ?_⟩) ?_ ?_
          rotate_left
          · intro w'
            go_simp
            with_reducible rfl
          rotate_left
          · simp only [Act.put, List.setIfInBounds_toArray, List.set_cons_zero, List.set_cons_succ, i64_w, i32_w]
            rfl
          refine done_ (by kernel_rfl) ?_
          clear hHeld
          have KF := Aside0.mk (K6.out.below (Below.refl _ _).drew)
          have KOF := Aside0.mk (Row.OwnB.below KO56.out (Below.refl _ _).drew)
          have KbF : Aside0 (Below w.heap.size w w6.drew) := ⟨Kb6.out.drew⟩
          have KXF := Aside0.mk (blk_below KX6.out (Below.refl _ _).drew)
          obtain ⟨wF, hwF⟩ : ∃ wF, wF = w6.drew := ⟨_, rfl⟩
          rw [← hwF] at KF KOF KbF KXF ⊢
          clear hwF K3 K4 K5 K6 KO5 KO6 KO56 KX3 KX4 KX5 KX6
          by_cases hh0 : hh = 0
          · subst hh0
            obtain ⟨pg, rfl, hpg, hbl, hxe⟩ := Fl.write_fresh_ok a1 l2 Kx1.out.2.symm
            rw [← Kx1.out.1] at hxe
            obtain ⟨o, ho⟩ : ∃ o, o = pg * B := ⟨_, rfl⟩
            have hfit : o + B ≤ N := by
              rw [KNe.out, ho]
              calc pg * B + B = (pg + 1) * B := by rw [Nat.add_mul, Nat.one_mul]
                _ ≤ S * P * B := Nat.mul_le_mul_right _ hpg
            have hmem : ∀ j, j < N → x1.mem.getD j 0 = if o ≤ j ∧ j - o < l2.length then l2.getD (j - o) 0 else 255 := by
              intro j hj
              rw [hxe, ← KNe.out, ← ho]
              exact Fl.want_at l2 hbl hfit j hj
            have hdirty : Fl.dirtyP x1 (pg : Int) = true := by
              rw [hxe]
              unfold Fl.dirtyP
              simp [hpg, List.getD_eq_getElem?_getD]
              rw [← Int.natCast_mul]
              exact Int.ofNat_lt.2 hpg
            have hops : x1.ops = 1 := by rw [hxe]
            have hw1 : IntKind.i64.wrap ((pg : Int) * (B : Int)) = (o : Int) := by rw [← Int.natCast_mul, ← ho]; exact IntWalk.i64_in _ (by have := KN1.out; omega)
            have d2 : wF.cell? ⟨g, 2, none⟩ = some (.int .i64 B) := (cell_of_row _ _ _ _ _ _ KXF.out).trans rfl
            obtain ⟨-, -, hC5⟩ := Row.OwnB.reads KOF.out
            rw [← KN.out] at hC5
            obtain ⟨ad5, hA5, hc5⟩ := (Kd.reads_of_C (d := (0 : Int)) hC5).2.2 (by have := KN1.out; omega)
            injection hA5 with hA5
            subst hA5
            have hC2 := Kd.C_below Kr2.out KbF.out
            have hC2r := (Kd.reads_of_C (d := (0 : Int)) hC2).2.2
            have Kmem := Aside0.mk hmem
            have Kc5 := Aside0.mk hc5
            have KC2 := Aside0.mk hC2r
            have Kdirty := Aside0.mk hdirty
            have Kops := Aside0.mk hops
            have Kbl := Aside0.mk hbl
            have Ko := Aside0.mk ho
            have hNN := KN1.out
            clear hpg hxe ho hmem hdirty hops hC5 hc5 hC2 hC2r hbl
            go_wp2_with (go_at_call 11; refine (Fl.num_any _ _).mono ?_; rintro e w' ⟨rfl, rfl⟩)
            go_loopw [19] (fun i wr => ∃ k : Nat, k ≤ N ∧ i = .int .i64 k ∧ wr = wF) (fun i _ => N - (intOf i).toNat)
            case atStart => exact ⟨0, Nat.zero_le _, rfl, rfl⟩
            case round =>
              obtain ⟨k, hk, rfl, rfl⟩ := hrel
              by_cases hlt : k < N
              · have hv := Kmem.out k hlt
                have hcA := Kc5.out k hlt
                obtain ⟨v, hve⟩ : ∃ v, v = x1.mem.getD k 0 := ⟨_, rfl⟩
                rw [← hve] at hv hcA
                by_cases h1 : o ≤ k
                · by_cases h2 : k - o < l2.length
                  · rw [if_pos ⟨h1, h2⟩] at hv
                    obtain ⟨ad2, hA2, hc2⟩ := KC2.out (by omega)
                    have hcB := hc2 (k - o) h2
                    rw [← hv] at hcB
                    subst hA2
                    clear hv hc2 hve
                    go_wp2
                    refine ⟨⟨k + 1, hlt, by go_num, by trivial⟩, by simp [intOf]; omega⟩
                  · rw [if_neg (by omega)] at hv
                    subst hv
                    clear hve
                    go_wp2
                    refine ⟨⟨k + 1, hlt, by go_num, by trivial⟩, by simp [intOf]; omega⟩
                · rw [if_neg (by omega)] at hv
                  subst hv
                  clear hve
                  go_wp2
                  refine ⟨⟨k + 1, hlt, by go_num, by trivial⟩, by simp [intOf]; omega⟩
              · obtain rfl : k = N := by omega
                go_wp2_with (first | (go_at_call 20; refine (Fl.dirty_any KF.out _).mono ?_; rw [Kdirty.out]; rintro e w' ⟨rfl, rfl⟩) | (go_at_call 21; refine (Fl.ops_any KF.out).mono ?_; rw [Kops.out]; rintro e w' ⟨rfl, rfl⟩) | (go_at_call 14; refine (Fl.live_any _).mono ?_; rintro e w9 ⟨rfl, hb9⟩; have Kb9 := Aside0.mk hb9; clear hb9))
                go_ret
                exact ⟨rfl, below_then KbF.out KbF.out.size Kb9.out⟩
          · have hne : (hh != 0) = true := by simpa using hh0
            have hxf := Fl.write_fresh_no a1 l2 (by rw [← Kx1.out.2]; exact hh0)
            rw [← Kx1.out.1] at hxf
            have hdirty : Fl.dirtyP x1 a1 = false := by
              rw [hxf]
              unfold Fl.dirtyP
              simp only [Fl.fresh, List.length_replicate, List.getD_eq_getElem?_getD, List.getElem?_replicate]
              split <;> simp
            have hops : x1.ops = 0 := by rw [hxf]; rfl
            have Kdirty := Aside0.mk hdirty
            have Kops := Aside0.mk hops
            clear hxf hdirty hops hh0
            go_wp2_with (first | (go_at_call 11; refine (Fl.num_any _ _).mono ?_; rintro e w' ⟨rfl, rfl⟩) | (go_at_call 20; refine (Fl.dirty_any KF.out _).mono ?_; rw [Kdirty.out]; rintro e w' ⟨rfl, rfl⟩) | (go_at_call 21; refine (Fl.ops_any KF.out).mono ?_; rw [Kops.out]; rintro e w' ⟨rfl, rfl⟩) | (go_at_call 14; refine (Fl.live_any _).mono ?_; rintro e w9 ⟨rfl, hb9⟩; have Kb9 := Aside0.mk hb9; clear hb9))
            go_ret
            exact ⟨rfl, below_then KbF.out KbF.out.size Kb9.out⟩
    · have hsm := fun w => Fl.small_any S P B w
      rw [Bool.eq_false_iff.2 hs] at hsm
      have Ksm := Aside0.mk hsm
      clear hsm hs hc
      go_enter Try.func4, Try.ntmps4
      go_wp2_with (first | (go_at_call 15; refine (Ksm.out _).mono ?_; rintro e w1 ⟨rfl, hb1⟩; have Kb1 : Aside0 (Below w.heap.size w w1) := ⟨below_then Kal.out Kal.out.size hb1⟩; clear hb1) | (go_at_call 14; refine (Fl.live_any _).mono ?_; rintro e w9 ⟨rfl, hb9⟩; have Kb9 := Aside0.mk hb9; clear hb9))
      go_ret
      exact ⟨rfl, below_then Kb1.out Kb1.out.size Kb9.out⟩
  · have hs : Fl.smallP S P B = true := by unfold Fl.smallP; rw [if_neg hc]
    have hsm := fun w => Fl.small_any S P B w
    rw [hs] at hsm
    have hck := fun w => Fl.rcheck_any S P B w
    obtain ⟨q, hq⟩ : ∃ q, q = Fl.chk S P B := ⟨_, rfl⟩
    rw [← hq] at hck hc
    have hne : (q != 0) = true := by simpa using hc
    have Ksm := Aside0.mk hsm
    have Kck := Aside0.mk hck
    clear hsm hck hs hc hq
    go_enter Try.func4, Try.ntmps4
    go_wp2_with (first | (go_at_call 15; refine (Ksm.out _).mono ?_; rintro e w1 ⟨rfl, hb1⟩; have hX1 := blk_below KX.out hb1; rw [hg] at hX1; have d0 : w1.cell? ⟨g, 0, none⟩ = some (.int .i64 S) := (cell_of_row _ _ _ _ _ _ hX1).trans rfl; have d1 : w1.cell? ⟨g, 1, none⟩ = some (.int .i64 P) := (cell_of_row _ _ _ _ _ _ hX1).trans rfl; have d2 : w1.cell? ⟨g, 2, none⟩ = some (.int .i64 B) := (cell_of_row _ _ _ _ _ _ hX1).trans rfl; have Kb1 : Aside0 (Below w.heap.size w w1) := ⟨below_then Kal.out Kal.out.size hb1⟩; clear hb1 hX1) | (go_at_call 13; refine (Kck.out _).mono ?_; rintro e w2 ⟨rfl, hb2⟩; clear d0 d1 d2; have Kb2 : Aside0 (Below w.heap.size w w2) := ⟨below_then Kb1.out Kb1.out.size hb2⟩; clear hb2) | (go_at_call 14; refine (Fl.live_any _).mono ?_; rintro e w9 ⟨rfl, hb9⟩; have Kb9 := Aside0.mk hb9; clear hb9))
    go_ret
    exact ⟨rfl, below_then Kb2.out Kb2.out.size Kb9.out⟩
end FlashReads
end Go.Proofs.Ytepmgkmbmejkjaa
