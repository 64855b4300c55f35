/- The walks of the laws on flash: FlashKeeps. -/
import Derived.Test.YtepmgkmbmejkjaaFl12
import Derived.Test.YtepmgkmbmejkjaaLawFl2
import Derived.Test.YtepmgkmbmejkjaaLawFl3
set_option linter.unusedVariables false
set_option linter.unusedSimpArgs false
namespace Go.Proofs.Ytepmgkmbmejkjaa
open Go.RowKit Go.Proofs.YtepmgkmbmejkjaaW.PrintWords Go.Proofs.YtepmgkmbmejkjaaW.PrintLast Go.Proofs.YtepmgkmbmejkjaaW.PrintMore
namespace Fl
theorem act_at {w : World} {A : Option Addr} {n : Nat} {xs : List (Int × Int × Int × List Int)} (h : Kd.C (Kd.pair (Kd.int .i64) (Kd.pair (Kd.int .i64) (Kd.pair (Kd.int .i64) (Kd.slice 5 (Kd.int .u8))))) w A n xs) (k : Nat) (h1 : k < n) : ∃ ad A0 c0, ∃ s : Int × Int × Int × List Int, xs[k]? = some s ∧ A = some ad ∧ w.cell? (ad.add (k * 4)) = some (.int .i64 s.1) ∧ w.cell? ⟨(ad.add (k * 4)).block, (ad.add (k * 4)).off + 1, none⟩ = some (.int .i64 s.2.1) ∧ w.cell? ⟨(ad.add (k * 4)).block, (ad.add (k * 4)).off + 3, none⟩ = some (.slice A0 s.2.2.2.length c0) ∧ (Kd.int .u8).C w A0 s.2.2.2.length s.2.2.2 := by
  obtain ⟨ad, e, hc⟩ := h.2.2 (by omega)
  have hl := h.1
  have hk : k < xs.length := by omega
  obtain ⟨c, _, hK, hc0⟩ := hc k _ (List.getElem?_eq_getElem hk)
  obtain ⟨_, _, rfl, rfl, ⟨_, _, rfl, rfl, ⟨_, _, rfl, rfl, ⟨A0, c0, rfl, l0, g0⟩⟩⟩⟩ := hK
  exact ⟨ad, A0, c0, xs[k], List.getElem?_eq_getElem hk, e, hc0 0 _ rfl, by rw [← add_field _ _ 1 (by omega)]; exact hc0 1 _ rfl, by rw [← add_field _ _ 3 (by omega)]; exact hc0 3 _ rfl, g0⟩
theorem sameG_trans {x y z : Fl} (h : SameG x y) (h2 : SameG y z) : SameG x z := ⟨h2.1.trans h.1, h2.2.1.trans h.2.1, h2.2.2.trans h.2.2⟩
theorem write_lay {w : World} {base f gb gd gw : Nat} {tv : Value} {x : Fl} {m : Nat} {ys : List Int} (hm : m = ys.length) (h : FM w base f gb gd gw tv x) (hs : Shape x) {k : Nat} (hlow : Low x k) (hk : k ≤ 1000000) (page : Int) (A : Option Addr) (c : Nat) (zs : List Int) (hC : ∀ w', Ch base w w' f gb gd gw → Kd.C (Kd.int .u8) w' A zs.length zs) (hwp : -9223372036854775808 ≤ page ∧ page ≤ 9223372036854775807) (hz : zs = ys := by rfl) :
    Calls Try.prog 17 #[.pointer (some ⟨f, 0, none⟩), .int .i64 page, .slice A m c] w fun e w' => e = .returned (.int .i64 (writeP x page ys).2) ∧ FM w' base f gb gd gw tv (writeP x page ys).1 ∧ Ch base w w' f gb gd gw := by
  subst hz hm
  exact write_any h hs hlow hk page A c zs hC hwp
end Fl
namespace FlashKeeps
set_option maxRecDepth 100000 in
set_option maxHeartbeats 8000000 in
theorem walk (w : World) (cs0 : Array Value) (x0 : Int × Int × Int) (r0 : ∃ c00 c01, cs0.toList = c00 ++ c01 ∧ ((Kd.int .i64).K w x0.1 c00 ∧ (fun n : Int => (Lit.int .i64 n).wf = true) x0.1) ∧ (∃ c10 c11, c01 = c10 ++ c11 ∧ ((Kd.int .i64).K w x0.2.1 c10 ∧ (fun n : Int => (Lit.int .i64 n).wf = true) x0.2.1) ∧ ((Kd.int .i64).K w x0.2.2 c11 ∧ (fun n : Int => (Lit.int .i64 n).wf = true) x0.2.2))) (A1 : Option Addr) (c1 : Nat) (l1 : List (Int × Int × Int × List Int)) (r1 : Kd.C (Kd.pair (Kd.int .i64) (Kd.pair (Kd.int .i64) (Kd.pair (Kd.int .i64) (Kd.slice 5 (Kd.int .u8))))) w A1 l1.length l1) (k1 : l1.length ≤ c1) (g1 : ∀ v ∈ l1, (fun x : Int × Int × Int × List Int => (fun n : Int => (Lit.int .i64 n).wf = true) x.1 ∧ (fun x : Int × Int × List Int => (fun n : Int => (Lit.int .i64 n).wf = true) x.1 ∧ (fun x : Int × List Int => (fun n : Int => (Lit.int .i64 n).wf = true) x.1 ∧ (fun xs => (∀ v ∈ xs, (fun n : Int => (Lit.int .u8 n).wf = true) v) ∧ xs.length * 1 ≤ 140737488351232) x.2) x.2) x.2) v) (m1 : l1.length * 48 ≤ 140737488351232) (cs2 : Array Value) (x2 : Int × Int × Int × (List Int)) (r2 : ∃ c00 c01, cs2.toList = c00 ++ c01 ∧ ((Kd.int .i64).K w x2.1 c00 ∧ (fun n : Int => (Lit.int .i64 n).wf = true) x2.1) ∧ (∃ c10 c11, c01 = c10 ++ c11 ∧ ((Kd.int .i64).K w x2.2.1 c10 ∧ (fun n : Int => (Lit.int .i64 n).wf = true) x2.2.1) ∧ (∃ c20 c21, c11 = c20 ++ c21 ∧ ((Kd.int .i64).K w x2.2.2.1 c20 ∧ (fun n : Int => (Lit.int .i64 n).wf = true) x2.2.2.1) ∧ ((Kd.slice 5 (Kd.int .u8)).K w x2.2.2.2 c21 ∧ (fun xs => (∀ v ∈ xs, (fun n : Int => (Lit.int .u8 n).wf = true) v) ∧ xs.length * 1 ≤ 140737488351232) x2.2.2.2)))) (A3 : Option Addr) (c3 : Nat) (l3 : List Int) (r3 : Kd.C (Kd.int .u8) w A3 l3.length l3) (k3 : l3.length ≤ c3) (g3 : ∀ v ∈ l3, (fun n : Int => (Lit.int .u8 n).wf = true) v) (m3 : l3.length * 1 ≤ 140737488351232) :
    Calls Try.prog 5 #[.agg cs0, .slice A1 l1.length c1, .agg cs2, .slice A3 l3.length c3] w fun e w' => e = .returned (.bool true) ∧ Below w.heap.size w w' := by
  obtain ⟨S, P, B, rfl⟩ := Fl.geo_of r0
  obtain ⟨ado, aat, an, Ab, cb, rfl, hCb, hat, han⟩ := Fl.act_of r2
  obtain ⟨bs, hbs⟩ : ∃ bs, bs = x2.2.2.2 := ⟨_, rfl⟩
  rw [← hbs] at hCb ⊢
  obtain ⟨N1, hN1⟩ : ∃ N1, N1 = l1.length := ⟨_, rfl⟩
  have Kr1 : Aside0 (Kd.C (Kd.pair (Kd.int .i64) (Kd.pair (Kd.int .i64) (Kd.pair (Kd.int .i64) (Kd.slice 5 (Kd.int .u8))))) w A1 N1 l1) := ⟨by rw [hN1]; exact r1⟩
  have Kr3 := Aside0.mk r3
  have KCb := Aside0.mk hCb
  have Kg1 := Aside0.mk g1
  have Km3 := Aside0.mk m3
  have Kat := Aside0.mk hat
  have KN1 := Aside0.mk hN1
  rw [← hN1] at m1 k1 ⊢
  clear r0 r1 g1 r2 r3 g3 m3 k3 hCb hbs hat han hN1
  have Km1 := Aside0.mk m1
  clear m1
  have hal : Below w.heap.size w ((w.alloc (.cells #[.int .i64 S, .int .i64 P, .int .i64 B] 23)).alloc (.cells #[.int .i64 ado, .int .i64 aat, .int .i64 an, .slice Ab bs.length cb] 42)) := below_alloc (below_alloc (Below.refl _ _) _) _
  have hX : ((w.alloc (.cells #[.int .i64 S, .int .i64 P, .int .i64 B] 23)).alloc (.cells #[.int .i64 ado, .int .i64 aat, .int .i64 an, .slice Ab bs.length cb] 42)).heap[w.heap.size]? = some (.cells #[.int .i64 S, .int .i64 P, .int .i64 B] 23 (0, 0)) := heap_alloc2_old _ _ _
  have hY : ((w.alloc (.cells #[.int .i64 S, .int .i64 P, .int .i64 B] 23)).alloc (.cells #[.int .i64 ado, .int .i64 aat, .int .i64 an, .slice Ab bs.length cb] 42)).heap[w.heap.size + 1]? = some (.cells #[.int .i64 ado, .int .i64 aat, .int .i64 an, .slice Ab bs.length cb] 42 (0, 0)) := heap_alloc2_new _ _ _
  have Kal := Aside0.mk hal
  obtain ⟨g, hg⟩ : ∃ g, w.heap.size = g := ⟨_, rfl⟩
  rw [hg] at hX hY
  have KX := Aside0.mk hX
  have KY := Aside0.mk hY
  clear hal hX hY
  by_cases hc : Fl.chk S P B = 0
  · by_cases hs : Fl.smallP S P B = true
    · have hsm := fun w => Fl.small_any S P B w
      rw [hs] at hsm
      have hck := fun w => Fl.rcheck_any S P B w
      rw [hc] at hck
      have Ksm := Aside0.mk hsm
      have Kck := Aside0.mk hck
      clear hsm hck
      by_cases hlen : 60 < N1
      · clear hc hs
        go_enter Try.func5, Try.ntmps5
        go_wp2_with (first | (go_at_call 15; refine (Ksm.out _).mono ?_; rintro e w1 ⟨rfl, hb1⟩; have hX1 := blk_below KX.out hb1; have d0 : w1.cell? ⟨g, 0, none⟩ = some (.int .i64 S) := (cell_of_row _ _ _ _ _ _ hX1).trans rfl; have d1 : w1.cell? ⟨g, 1, none⟩ = some (.int .i64 P) := (cell_of_row _ _ _ _ _ _ hX1).trans rfl; have d2 : w1.cell? ⟨g, 2, none⟩ = some (.int .i64 B) := (cell_of_row _ _ _ _ _ _ hX1).trans rfl; have KX1 := Aside0.mk hX1; have Kb1 : Aside0 (Below w.heap.size w w1) := ⟨below_then Kal.out Kal.out.size hb1⟩; have KY1 := Aside0.mk (blk_below KY.out hb1); clear hb1 hX1) | (go_at_call 13; refine (Kck.out _).mono ?_; rintro e w2 ⟨rfl, hb2⟩; have hX2 := blk_below KX1.out hb2; clear d0 d1 d2; have d0 : w2.cell? ⟨g, 0, none⟩ = some (.int .i64 S) := (cell_of_row _ _ _ _ _ _ hX2).trans rfl; have d1 : w2.cell? ⟨g, 1, none⟩ = some (.int .i64 P) := (cell_of_row _ _ _ _ _ _ hX2).trans rfl; have d2 : w2.cell? ⟨g, 2, none⟩ = some (.int .i64 B) := (cell_of_row _ _ _ _ _ _ hX2).trans rfl; have KX2 := Aside0.mk hX2; have Kb2 : Aside0 (Below w.heap.size w w2) := ⟨below_then Kb1.out Kb1.out.size hb2⟩; have KY2 := Aside0.mk (blk_below KY1.out hb2); clear hb2 hX2) | (go_at_call 14; refine (Fl.live_any _).mono ?_; rintro e w9 ⟨rfl, hb9⟩; have Kb9 := Aside0.mk hb9; clear hb9))
        go_ret
        exact ⟨rfl, below_then Kb2.out Kb2.out.size Kb9.out⟩
      · obtain ⟨hS, hP, hB⟩ := Fl.small_of hs hc
        obtain ⟨S, rfl⟩ := Int.eq_ofNat_of_zero_le (show 0 ≤ S by omega)
        obtain ⟨P, rfl⟩ := Int.eq_ofNat_of_zero_le (show 0 ≤ P by omega)
        obtain ⟨B, rfl⟩ := Int.eq_ofNat_of_zero_le (show 0 ≤ B by omega)
        have Knew := Aside0.mk (fun w => Fl.new_ok w S P B hc)
        have Ksh0 := Aside0.mk (Fl.fresh_shape hc)
        have KS := Aside0.mk hS
        have KP := Aside0.mk hP
        have KB := Aside0.mk hB
        have hN60 : N1 ≤ 60 := by omega
        clear hs hc hS hP hB
        go_enter Try.func5, Try.ntmps5
        go_wp2_with (first | (go_at_call 15; refine (Ksm.out _).mono ?_; rintro e w1 ⟨rfl, hb1⟩; have hX1 := blk_below KX.out hb1; have d0 : w1.cell? ⟨g, 0, none⟩ = some (.int .i64 S) := (cell_of_row _ _ _ _ _ _ hX1).trans rfl; have d1 : w1.cell? ⟨g, 1, none⟩ = some (.int .i64 P) := (cell_of_row _ _ _ _ _ _ hX1).trans rfl; have d2 : w1.cell? ⟨g, 2, none⟩ = some (.int .i64 B) := (cell_of_row _ _ _ _ _ _ hX1).trans rfl; have KX1 := Aside0.mk hX1; have Kb1 : Aside0 (Below w.heap.size w w1) := ⟨below_then Kal.out Kal.out.size hb1⟩; have KY1 := Aside0.mk (blk_below KY.out hb1); clear hb1 hX1) | (go_at_call 13; refine (Kck.out _).mono ?_; rintro e w2 ⟨rfl, hb2⟩; have hX2 := blk_below KX1.out hb2; clear d0 d1 d2; have d0 : w2.cell? ⟨g, 0, none⟩ = some (.int .i64 S) := (cell_of_row _ _ _ _ _ _ hX2).trans rfl; have d1 : w2.cell? ⟨g, 1, none⟩ = some (.int .i64 P) := (cell_of_row _ _ _ _ _ _ hX2).trans rfl; have d2 : w2.cell? ⟨g, 2, none⟩ = some (.int .i64 B) := (cell_of_row _ _ _ _ _ _ hX2).trans rfl; have KX2 := Aside0.mk hX2; have Kb2 : Aside0 (Below w.heap.size w w2) := ⟨below_then Kb1.out Kb1.out.size hb2⟩; have KY2 := Aside0.mk (blk_below KY1.out hb2); clear hb2 hX2) | (go_at_call 16; refine (Knew.out _).mono ?_; rintro e w3 ⟨f, gb, gd, gw, rfl, hF3, hb3⟩; clear d0 d1 d2; have Kb3 := Aside0.mk hb3; have K3 := Aside0.mk hF3; clear hb3 hF3) | (go_at_call 11; refine (Fl.num_any _ _).mono ?_; rintro e w' ⟨rfl, rfl⟩))
        go_loopw [11] (fun i wr => ∃ (k : Nat) (x : Fl.Fl), k ≤ N1 ∧ i = .int .i64 k ∧ Aside0 (Fl.FM wr w2.heap.size f gb gd gw (.slice none 0 0) x) ∧ Aside0 (Fl.Shape x ∧ Fl.SameG (Fl.fresh S P B) x ∧ Fl.Low x k ∧ Fl.Calm x) ∧ Aside0 (Below w2.heap.size w2 wr)) (fun i _ => N1 - (intOf i).toNat)
        case atStart => exact ⟨0, _, Nat.zero_le _, rfl, K3, ⟨Ksh0.out, ⟨rfl, rfl, rfl⟩, Fl.fresh_low _ _ _, rfl, rfl⟩, Kb3⟩
        case round =>
          obtain ⟨k, x, hk, rfl, KM, KI, KBw⟩ := hrel
          by_cases hlt : k < N1
          · obtain ⟨ad, A0, c0, ⟨d, at_, nn, ys⟩, hxs, hA, y0, y1, y3, hCs⟩ := Fl.act_at (Kd.C_below Kr1.out Kb2.out) k hlt
            subst hA
            have hgb := Kg1.out _ (List.mem_of_getElem? hxs)
            have hatb := Go.bounds_i64 hgb.2.1
            simp only at y0 y1 y3 hCs
            replace y0 := pw_cell_below KBw.out y0
            replace y1 := pw_cell_below KBw.out y1
            replace y3 := pw_cell_below KBw.out y3
            obtain ⟨m, hm⟩ : ∃ m, m = ys.length := ⟨_, rfl⟩
            rw [← hm] at y3
            have Km := Aside0.mk hm
            have KCs := Aside0.mk hCs
            have Katb := Aside0.mk hatb
            have hk60 : k ≤ 1000000 := by omega
            have Khk := Aside0.mk hk60
            clear hxs hgb hatb hm hCs hk60
            by_cases hd1 : d = 1
            · subst hd1
              go_wp2
              refine start_ (n := 12) (S := fun w' => w'.cell? ⟨(ad.add (k * 4)).block, (ad.add (k * 4)).off + 1, none⟩ = some (.int .i64 at_) ∧ w'.cell? ⟨(ad.add (k * 4)).block, (ad.add (k * 4)).off + 3, none⟩ = some (.slice A0 m c0)) (ds := [11]) #[false, false, false, false, false, false, false, false, false, false, false, false] (by kernel_rfl) rfl rfl ⟨(show wr.cell? _ = _ from y1), (show wr.cell? _ = _ from y3)⟩ (fun hHeld => ?_)
              refine pure_ (i := 0) (N := some 60) (v := ?_) (a' := ?_) #[true, false, false, false, false, false, false, false, false, false, false, false] rfl rfl (by kernel_rfl) (fun _ _ _ h => h) (Or.inl ⟨by rfl, ?_⟩) ?_ ?_
              rotate_left
              · intro w'
                go_simp
                with_reducible rfl
              rotate_left
              · simp only [Act.put, List.setIfInBounds_toArray, List.set_cons_zero, List.set_cons_succ, i64_w, i32_w]
                rfl
              refine pure_ (i := 1) (N := some 61) (v := ?_) (a' := ?_) #[true, true, false, false, false, false, false, false, false, false, false, false] rfl rfl (by kernel_rfl) (fun _ _ _ h => h) (Or.inl ⟨by rfl, ?_⟩) ?_ ?_
              rotate_left
              · intro w'
                go_simp
                with_reducible rfl
              rotate_left
              · simp only [Act.put, List.setIfInBounds_toArray, List.set_cons_zero, List.set_cons_succ, i64_w, i32_w]
                rfl
              refine pure_ (i := 2) (N := some 62) (v := ?_) (a' := ?_) #[true, true, true, false, false, false, false, false, false, false, false, false] rfl rfl (by kernel_rfl) (fun _ _ _ h => h) (Or.inl ⟨by rfl, ?_⟩) ?_ ?_
              rotate_left
              · intro w'
                go_simp
                with_reducible rfl
              rotate_left
              · simp only [Act.put, List.setIfInBounds_toArray, List.set_cons_zero, List.set_cons_succ, i64_w, i32_w]
                rfl
              refine pure_ (i := 3) (N := some 63) (v := ?_) (a' := ?_) #[true, true, true, true, false, false, false, false, false, false, false, false] rfl rfl (by kernel_rfl) (fun _ _ _ h => h) (Or.inl ⟨by rfl, ?_⟩) ?_ ?_
              rotate_left
              · intro w'
                go_simp
                with_reducible rfl
              rotate_left
              · simp only [Act.put, List.setIfInBounds_toArray, List.set_cons_zero, List.set_cons_succ, i64_w, i32_w]
                rfl
              refine pure_ (i := 4) (N := some 64) (v := ?_) (a' := ?_) #[true, true, true, true, true, false, false, false, false, false, false, false] rfl rfl (by kernel_rfl) (fun _ _ _ h => h) (Or.inl ⟨by rfl, ?_⟩) ?_ ?_
              rotate_left
              · intro w'
                go_simp
                with_reducible rfl
              rotate_left
              · simp only [Act.put, List.setIfInBounds_toArray, List.set_cons_zero, List.set_cons_succ, i64_w, i32_w]
                rfl
              refine pure_ (i := 6) (N := some 66) (v := ?_) (a' := ?_) #[true, true, true, true, true, false, true, false, false, false, false, false] rfl rfl (by kernel_rfl) (fun _ _ _ h => h) (Or.inl ⟨by rfl, ?_⟩) ?_ ?_
              rotate_left
              · intro w'
                go_simp
                with_reducible rfl
              rotate_left
              · simp only [Act.put, List.setIfInBounds_toArray, List.set_cons_zero, List.set_cons_succ, i64_w, i32_w]
                rfl
              refine pure_ (i := 7) (N := some 67) (v := ?_) (a' := ?_) #[true, true, true, true, true, false, true, true, false, false, false, false] rfl rfl (by kernel_rfl) (fun _ _ _ h => h) (Or.inl ⟨by rfl, ?_⟩) ?_ ?_
              rotate_left
              · intro w'
                go_simp
                with_reducible rfl
              rotate_left
              · simp only [Act.put, List.setIfInBounds_toArray, List.set_cons_zero, List.set_cons_succ, i64_w, i32_w]
                rfl
              refine pure_ (i := 8) (N := some 68) (v := ?_) (a' := ?_) #[true, true, true, true, true, false, true, true, true, false, false, false] rfl rfl (by kernel_rfl) (fun _ _ _ h => h) (Or.inl ⟨by rfl, ?_⟩) ?_ ?_
              rotate_left
              · intro w'
                go_simp
                with_reducible rfl
              rotate_left
              · simp only [Act.put, List.setIfInBounds_toArray, List.set_cons_zero, List.set_cons_succ, i64_w, i32_w]
                rfl
              refine pure_ (i := 9) (N := some 69) (v := ?_) (a' := ?_) #[true, true, true, true, true, false, true, true, true, true, false, false] rfl rfl (by kernel_rfl) (fun _ _ _ h => h) (Or.inl ⟨by rfl, ?_⟩) ?_ ?_
              rotate_left
              · intro w'
                go_simp
                with_reducible rfl
              rotate_left
              · simp only [Act.put, List.setIfInBounds_toArray, List.set_cons_zero, List.set_cons_succ, i64_w, i32_w]
                rfl
              refine take_ (i := 5) (N := some 65) (v := ?_) (a' := ?_) #[true, true, true, true, true, true, true, true, true, true, false, false] rfl rfl (by kernel_rfl) (fun _ _ _ h => h) (Or.inl ⟨by rfl, ?_⟩) hHeld ?_ ?_
              rotate_left
              · rintro w' ⟨s0, s1⟩
                go_simp
                with_reducible rfl
              rotate_left
              · simp only [Act.put, List.setIfInBounds_toArray, List.set_cons_zero, List.set_cons_succ, i64_w, i32_w]
                rfl
              refine take_ (i := 10) (N := some 70) (v := ?_) (a' := ?_) #[true, true, true, true, true, true, true, true, true, true, true, false] rfl rfl (by kernel_rfl) (fun _ _ _ h => h) (Or.inl ⟨by rfl, ?_⟩) hHeld ?_ ?_
              rotate_left
              · rintro w' ⟨s0, s1⟩
                go_simp
                with_reducible rfl
              rotate_left
              · simp only [Act.put, List.setIfInBounds_toArray, List.set_cons_zero, List.set_cons_succ, i64_w, i32_w]
                rfl
              refine last_ (i := 11) (N := some 71) #[true, true, true, true, true, true, true, true, true, true, true, true] rfl rfl (by kernel_rfl) (by decide) (fun K hK => ?_)
              refine goes_ Try.func17 (by kernel_rfl) rfl #[.pointer (some ⟨f, 0, none⟩), .int .i64 at_, .slice A0 m c0] (by rfl) rfl rfl (by simp only [List.map_toArray, List.map_cons, List.map_nil]; rfl) ?_
              with_reducible refine (Fl.write_lay Km.out (KM.out.below (Below.refl _ _).drew) KI.out.1 KI.out.2.2.1 Khk.out at_ A0 c0 ys (fun w' hch => Kd.C_below KCs.out ((KBw.out.drew).trans hch.below)) Katb.out).mono ?_
              rintro e w5 ⟨rfl, hF5, hch5⟩
              refine ⟨_, rfl, ?_⟩
              have K5 := Aside0.mk hF5
              have Kb5 : Aside0 (Below w2.heap.size w2 w5) := ⟨(KBw.out.drew).trans hch5.below⟩
              refine hK.out _ _ ?_
              clear hK K
              refine norm_ (a' := ?_) ?_ ?_
              rotate_left
              · show Act.put _ (some 71) _ = _
                simp only [Act.put, List.setIfInBounds_toArray, List.set_cons_zero, List.set_cons_succ, i64_w, i32_w]
                rfl
              refine done_ (by kernel_rfl) ?_
              go_wp2
              refine ⟨⟨k + 1, _, hlt, by go_num, K5, ⟨(Fl.write_shape KI.out.1 _ _).1, Fl.sameG_trans KI.out.2.1 (Fl.write_shape KI.out.1 _ _).2, Fl.write_low KI.out.2.2.1 _ _, Fl.write_calm KI.out.2.2.2 _ _⟩, Kb5⟩, by simp [intOf]; omega⟩
            · have hd1' : (d == (1 : Int)) = false := by simpa using hd1
              by_cases hd2 : d = 2
              · subst hd2
                clear hd1 hd1' y3
                go_wp2_with (go_at_call 22; refine (Fl.erase_any KM.out KI.out.1 KI.out.2.2.1 Khk.out _ Katb.out).mono ?_; rintro e w5 ⟨rfl, hF5, hch5⟩; have K5 := Aside0.mk hF5; have Kb5 : Aside0 (Below w2.heap.size w2 w5) := ⟨KBw.out.trans hch5.below⟩; clear hF5 hch5)
                refine ⟨⟨k + 1, _, hlt, by go_num, K5, ⟨(Fl.erase_shape KI.out.1 _).1, Fl.sameG_trans KI.out.2.1 (Fl.erase_shape KI.out.1 _).2, Fl.erase_low KI.out.2.2.1 _, Fl.erase_calm KI.out.2.2.2 _⟩, Kb5⟩, by simp [intOf]; omega⟩
              · have hd2' : (d == (2 : Int)) = false := by simpa using hd2
                go_wp2
                refine ⟨⟨k + 1, x, hlt, by go_num, KM, ⟨KI.out.1, KI.out.2.1, KI.out.2.2.1.mono (Nat.le_succ k), KI.out.2.2.2⟩, KBw⟩, by simp [intOf]; omega⟩
          · skip
            -- STAGE2
            obtain rfl : k = N1 := by omega
            have Kd1 := Aside0.mk (show w2.cell? ⟨g, 1, none⟩ = some (.int .i64 P) from (cell_of_row _ _ _ _ _ _ KX2.out).trans rfl)
            have Kd2 := Aside0.mk (show w2.cell? ⟨g, 2, none⟩ = some (.int .i64 B) from (cell_of_row _ _ _ _ _ _ KX2.out).trans rfl)
            have Ka0 := Aside0.mk (show w2.cell? ⟨g + 1, 0, none⟩ = some (.int .i64 ado) from (cell_of_row _ _ _ _ _ _ KY2.out).trans rfl)
            have Ka1 := Aside0.mk (show w2.cell? ⟨g + 1, 1, none⟩ = some (.int .i64 aat) from (cell_of_row _ _ _ _ _ _ KY2.out).trans rfl)
            have Ka2 := Aside0.mk (show w2.cell? ⟨g + 1, 2, none⟩ = some (.int .i64 an) from (cell_of_row _ _ _ _ _ _ KY2.out).trans rfl)
            have Ka3 := Aside0.mk (show w2.cell? ⟨g + 1, 3, none⟩ = some (.slice Ab bs.length cb) from (cell_of_row _ _ _ _ _ _ KY2.out).trans rfl)
            obtain ⟨N, hN⟩ : ∃ N, N = x.mem.length := ⟨_, rfl⟩
            have hNb : N ≤ 16777216 := by rw [hN, KI.out.1.mem]; exact KI.out.1.all
            have hNpos : 1 ≤ N := by
              rw [hN, KI.out.1.mem]
              have e1 : 1 * 1 ≤ x.S * x.P := Nat.mul_le_mul KI.out.1.s1.1 KI.out.1.p1.1
              exact Nat.mul_le_mul (show 1 ≤ x.S * x.P by omega) (show 1 ≤ x.B by have := KI.out.1.b1; omega)
            have hrd := Fl.read_all x KI.out.2.2.2.1
            rw [← hN] at hrd
            have Krd := Aside0.mk hrd
            have KN := Aside0.mk hN
            have KNb := Aside0.mk hNb
            have KNpos := Aside0.mk hNpos
            have hkk : k ≤ 60 := hN60
            have Khk := Aside0.mk hkk
            have tokS : True := trivial
            have tokR : True := trivial
            clear hN hNb hNpos hrd hlt hk hkk
            by_cases han : 0 < an
            · obtain ⟨y, hy⟩ : ∃ y, y = (Fl.armP x 1 l3).1 := ⟨_, rfl⟩
              have hyA : Fl.armP x 1 l3 = ({ x with armed := true, left := 1, torn := l3 }, 0) := by
                unfold Fl.armP
                rw [if_neg (by decide), if_neg (by rw [KI.out.2.2.2.1]; decide)]
              have KyA : Aside0 ((Fl.armP x 1 l3).2 = 0) := ⟨by rw [hyA]⟩
              have hyx : y = { x with armed := true, left := 1, torn := l3 } := by rw [hy, hyA]
              have Ky := Aside0.mk hy
              have Ksy : Aside0 (Fl.Shape y) := ⟨by rw [hyx]; exact Fl.shape_of KI.out.1 ⟨rfl, rfl, rfl⟩ rfl rfl rfl⟩
              have Kly : Aside0 (Fl.Low y 1000) := ⟨by rw [hyx]; have hl := KI.out.2.2.1.mono (show k ≤ 1000 by have := Khk.out; omega); exact ⟨hl.ops, hl.worn, fun _ => by simp only; omega⟩⟩
              have Kym : Aside0 (y.mem = x.mem) := ⟨by rw [hyx]⟩
              have KyG : Aside0 (y.S = S ∧ y.P = P ∧ y.B = B) := ⟨by rw [hyx]; exact KI.out.2.1⟩
              clear hy hyA hyx
              by_cases hdo : ado = 1
              · subst hdo
                go_wp2_with (first | (go_at_call 19; have _t := tokS; refine (Fl.size_any KM.out).mono ?_; rintro e w' ⟨rfl, rfl⟩; rw [← KN.out]; clear tokS) | (go_at_call 18; have _t := tokR; refine (Fl.read_any KM.out (by rw [← KN.out]; have := KNb.out; omega) 0 N (by decide) (by have := KNb.out; omega)).mono ?_; rw [Krd.out]; rintro e w5 ⟨v5, rfl, hO5, hb5⟩; obtain ⟨A5, c5, hv5, -, -⟩ := Row.OwnB.slice hO5; rw [← KN.out] at hv5; subst hv5; have KO5 := Aside0.mk hO5; have K5 := Aside0.mk (KM.out.below hb5); have Kb5 : Aside0 (Below w2.heap.size w2 w5) := ⟨below_then KBw.out KM.out.size hb5⟩; have d1 := pw_cell_below Kb5.out Kd1.out; have d2 := pw_cell_below Kb5.out Kd2.out; have a0 := pw_cell_below Kb5.out Ka0.out; have a1 := pw_cell_below Kb5.out Ka1.out; have a2 := pw_cell_below Kb5.out Ka2.out; have a3 := pw_cell_below Kb5.out Ka3.out; clear hO5 hb5 tokR) | (go_at_call 23; refine (Fl.arm_any K5.out 1 A3 c3 l3 (fun w' hch => Kd.C_below (Kd.C_below Kr3.out Kb2.out) (Kb5.out.trans hch.below)) (by have := Km3.out; omega)).mono ?_; rintro e w6 ⟨rfl, ⟨tv6, hF6⟩, hch6⟩; rw [KyA.out]; rw [← Ky.out] at hF6; clear d1 d2 a0 a1 a2 a3; have K6 := Aside0.mk hF6; have KO6 := Aside0.mk (Fl.ownB_ch KO5.out hch6 KM.out.lt.1 KM.out.lt.2.1 KM.out.lt.2.2.1 KM.out.lt.2.2.2); have Kb6 : Aside0 (Below w2.heap.size w2 w6) := ⟨Kb5.out.trans hch6.below⟩; have d1 := pw_cell_below Kb6.out Kd1.out; have d2 := pw_cell_below Kb6.out Kd2.out; have a0 := pw_cell_below Kb6.out Ka0.out; have a1 := pw_cell_below Kb6.out Ka1.out; have a2 := pw_cell_below Kb6.out Ka2.out; have a3 := pw_cell_below Kb6.out Ka3.out; clear hF6 hch6))
                have hkeep := Fl.write_keeps Ksy.out aat bs
                have hsz := (Fl.write_shape Ksy.out aat bs).1
                have hgz := (Fl.write_shape Ksy.out aat bs).2
                have hcall := (Fl.write_any K6.out Ksy.out Kly.out (by decide) aat Ab cb bs (fun w' hch => Kd.C_below (Kd.C_below KCb.out Kb2.out) (Kb6.out.trans hch.below)) Kat.out)
                obtain ⟨z, hz⟩ : ∃ z, z = (Fl.writeP y aat bs).1 := ⟨_, rfl⟩
                obtain ⟨h, hh⟩ : ∃ h, h = (Fl.writeP y aat bs).2 := ⟨_, rfl⟩
                rw [← hz, ← hh] at hkeep hcall
                rw [← hz] at hsz hgz
                have hzl : z.mem.length = N := by rw [hsz.mem, hgz.1, hgz.2.1, hgz.2.2, ← Ksy.out.mem, Kym.out, ← KN.out]
                have Kzl2 := Aside0.mk hzl
                have Kzl : Aside0 ((Fl.bootP z).mem.length = N) := ⟨hzl⟩
                have hrd2 := Fl.read_all (Fl.bootP z) rfl
                rw [Kzl.out] at hrd2
                have Krd2 : Aside0 (Fl.readP (Fl.bootP z) 0 N = (z.mem, 0)) := ⟨hrd2⟩
                rw [Kym.out, ← KN.out] at hkeep
                have Kcall := Aside0.mk hcall
                clear hsz hgz hz hh hzl hrd2 hcall
                by_cases hq : h = 0 ∨ h = 40
                · obtain ⟨p, hp, hfit, hk⟩ := hkeep.1 hq
                  obtain ⟨o, ho⟩ : ∃ o, o = p * y.B := ⟨_, rfl⟩
                  obtain ⟨t, ht⟩ : ∃ t, t = o + B := ⟨_, rfl⟩
                  rw [← ho, KyG.out.2.2] at hfit hk
                  rw [← ht] at hfit hk
                  have hw1 : IntKind.i64.wrap ((p : Int) * (B : Int)) = (o : Int) := by rw [← Int.natCast_mul, ho, KyG.out.2.2]; exact IntWalk.i64_in _ (by rw [← KyG.out.2.2, ← ho]; have := KNb.out; omega)
                  have hw2 : IntKind.i64.wrap ((o : Int) + (B : Int)) = (t : Int) := by rw [show (o : Int) + (B : Int) = (t : Int) by omega]; exact IntWalk.i64_in _ (by have := KNb.out; omega)
                  subst hp
                  have Kkeep := Aside0.mk hk
                  clear hk hkeep ho ht hfit
                  rcases hq with rfl | rfl
                  all_goals
                    refine Kcall.out.mono ?_
                    rintro e w7 ⟨rfl, hF7, hch7⟩
                    clear d1 d2 a0 a1 a2 a3
                    have K7 := Aside0.mk hF7
                    have KO7 := Aside0.mk (Fl.ownB_ch KO6.out hch7 KM.out.lt.1 KM.out.lt.2.1 KM.out.lt.2.2.1 KM.out.lt.2.2.2)
                    have Kb7 : Aside0 (Below w2.heap.size w2 w7) := ⟨Kb6.out.trans hch7.below⟩
                    have d1 := pw_cell_below Kb7.out Kd1.out
                    have d2 := pw_cell_below Kb7.out Kd2.out
                    have a0 := pw_cell_below Kb7.out Ka0.out
                    have a1 := pw_cell_below Kb7.out Ka1.out
                    have a2 := pw_cell_below Kb7.out Ka2.out
                    have a3 := pw_cell_below Kb7.out Ka3.out
                    clear hF7 hch7
                    go_wp2_with ((go_at_call 11; refine (Fl.num_any _ _).mono ?_; rintro e w' ⟨rfl, rfl⟩))
                    go_quiet (fail)
                    go_wp2_with (first | (go_at_call 24; (first | (refine (Fl.boot_any K7.out).mono ?_) | (refine (Fl.boot_any (K7.out.drewN _)).mono ?_)); rintro e w8 ⟨rfl, hF8, hch8⟩; have K8 := Aside0.mk hF8; have KO8 : Aside0 (Row.OwnB w8 wr.heap.size (.slice A5 N c5) x.mem) := ⟨Fl.ownB_ch (by first | exact KO7.out | exact KO7.out.below (pw_below_drewN (Below.refl _ _) _)) hch8 KM.out.lt.1 KM.out.lt.2.1 KM.out.lt.2.2.1 KM.out.lt.2.2.2⟩; have Kb8 : Aside0 (Below w2.heap.size w2 w8) := ⟨Below.trans (by first | exact Kb7.out | exact pw_below_drewN Kb7.out _) hch8.below⟩; clear hF8 hch8) | (go_at_call 19; refine (Fl.size_any K8.out).mono ?_; rintro e w' ⟨rfl, rfl⟩; rw [Kzl.out]) | (go_at_call 18; refine (Fl.read_any K8.out (by rw [Kzl.out]; have := KNb.out; omega) 0 N (by decide) (by have := KNb.out; omega)).mono ?_; rw [Krd2.out]; rintro e w10 ⟨v10, rfl, hO10, hb10⟩; obtain ⟨A10, c10, hv10, -, -⟩ := Row.OwnB.slice hO10; rw [Kzl2.out] at hv10; subst hv10; have KO10 := Aside0.mk hO10; have KO8b := Aside0.mk (KO8.out.below hb10); have Kb10 : Aside0 (Below w2.heap.size w2 w10) := ⟨below_then Kb8.out K8.out.size hb10⟩; clear hO10 hb10) | (go_at_call 11; refine (Fl.num_any _ _).mono ?_; rintro e w' ⟨rfl, rfl⟩))
                    obtain ⟨-, -, hCw⟩ := Row.OwnB.reads KO8b.out
                    obtain ⟨-, -, hCn⟩ := Row.OwnB.reads KO10.out
                    rw [← KN.out] at hCw
                    rw [Kzl2.out] at hCn
                    obtain ⟨adw, hAw, hcw⟩ := (Kd.reads_of_C (d := (0 : Int)) hCw).2.2 (by have := KNpos.out; omega)
                    obtain ⟨adn, hAn, hcn⟩ := (Kd.reads_of_C (d := (0 : Int)) hCn).2.2 (by have := KNpos.out; omega)
                    subst hAw
                    subst hAn
                    have Kcw := Aside0.mk hcw
                    have Kcn := Aside0.mk hcn
                    clear hCw hCn hcw hcn
                    go_loopw [20] (fun i wl => ∃ k q : Nat, k ≤ N ∧ i = .int .i64 k ∧ wl = w10.drewN q) (fun i _ => N - (intOf i).toNat)
                    case atStart => exact ⟨0, 0, Nat.zero_le _, rfl, rfl⟩
                    case round =>
                      obtain ⟨j, q, hj, rfl, rfl⟩ := hrel
                      by_cases hlt : j < N
                      · have hNN := KNb.out
                        have e1 := Kcw.out j hlt
                        have e2 := Kcn.out j hlt
                        by_cases h1 : j < o
                        · rw [Kkeep.out j (Or.inl h1)] at e2
                          have hdk : decide (j < o) = true := decide_eq_true h1
                          obtain ⟨v, hv⟩ : ∃ v, x.mem.getD j 0 = v := ⟨_, rfl⟩
                          rw [hv] at e1 e2
                          clear hv
                          go_wp2
                          go_quiet (fail)
                          go_wp2
                          refine ⟨⟨j + 1, _, hlt, by go_num, rfl⟩, by simp [intOf]; omega⟩
                        · have hdk : decide (j < o) = false := decide_eq_false h1
                          by_cases h2 : t ≤ j
                          · rw [Kkeep.out j (Or.inr h2)] at e2
                            have hdt : decide (t ≤ j) = true := decide_eq_true h2
                            obtain ⟨v, hv⟩ : ∃ v, x.mem.getD j 0 = v := ⟨_, rfl⟩
                            rw [hv] at e1 e2
                            clear hv
                            go_wp2
                            go_quiet (fail)
                            go_wp2
                            refine ⟨⟨j + 1, _, hlt, by go_num, rfl⟩, by simp [intOf]; omega⟩
                          · have hdt : decide (t ≤ j) = false := decide_eq_false h2
                            clear e1 e2
                            go_wp2
                            go_quiet (fail)
                            go_wp2
                            refine ⟨⟨j + 1, _, hlt, by go_num, rfl⟩, by simp [intOf]; omega⟩
                      · obtain rfl : j = N := by omega
                        go_wp2_with ((go_at_call 14; refine (Fl.live_any _).mono ?_; rintro e w9 ⟨rfl, hb9⟩; have Kb9 := Aside0.mk hb9; clear hb9))
                        go_ret
                        exact ⟨rfl, below_then (below_then Kb2.out Kb2.out.size (pw_below_drewN Kb10.out _)) (below_then Kb2.out Kb2.out.size (pw_below_drewN Kb10.out _)).size Kb9.out⟩
                · have hzm := hkeep.2 hq
                  have Kkeep : Aside0 (∀ k, (k < 0 ∨ 0 ≤ k) → z.mem.getD k 0 = x.mem.getD k 0) := ⟨fun k _ => congrArg (fun l => l.getD k 0) hzm⟩
                  have hq1 : (h == 0) = false := by simp; omega
                  have hq2 : (h == 40) = false := by simp; omega
                  clear hkeep hzm hq
                  refine Kcall.out.mono ?_
                  rintro e w7 ⟨rfl, hF7, hch7⟩
                  clear d1 d2 a0 a1 a2 a3
                  have K7 := Aside0.mk hF7
                  have KO7 := Aside0.mk (Fl.ownB_ch KO6.out hch7 KM.out.lt.1 KM.out.lt.2.1 KM.out.lt.2.2.1 KM.out.lt.2.2.2)
                  have Kb7 : Aside0 (Below w2.heap.size w2 w7) := ⟨Kb6.out.trans hch7.below⟩
                  have d1 := pw_cell_below Kb7.out Kd1.out
                  have d2 := pw_cell_below Kb7.out Kd2.out
                  have a0 := pw_cell_below Kb7.out Ka0.out
                  have a1 := pw_cell_below Kb7.out Ka1.out
                  have a2 := pw_cell_below Kb7.out Ka2.out
                  have a3 := pw_cell_below Kb7.out Ka3.out
                  clear hF7 hch7
                  go_wp2_with (first | (go_at_call 24; (first | (refine (Fl.boot_any K7.out).mono ?_) | (refine (Fl.boot_any (K7.out.drewN _)).mono ?_)); rintro e w8 ⟨rfl, hF8, hch8⟩; have K8 := Aside0.mk hF8; have KO8 : Aside0 (Row.OwnB w8 wr.heap.size (.slice A5 N c5) x.mem) := ⟨Fl.ownB_ch (by first | exact KO7.out | exact KO7.out.below (pw_below_drewN (Below.refl _ _) _)) hch8 KM.out.lt.1 KM.out.lt.2.1 KM.out.lt.2.2.1 KM.out.lt.2.2.2⟩; have Kb8 : Aside0 (Below w2.heap.size w2 w8) := ⟨Below.trans (by first | exact Kb7.out | exact pw_below_drewN Kb7.out _) hch8.below⟩; clear hF8 hch8) | (go_at_call 19; refine (Fl.size_any K8.out).mono ?_; rintro e w' ⟨rfl, rfl⟩; rw [Kzl.out]) | (go_at_call 18; refine (Fl.read_any K8.out (by rw [Kzl.out]; have := KNb.out; omega) 0 N (by decide) (by have := KNb.out; omega)).mono ?_; rw [Krd2.out]; rintro e w10 ⟨v10, rfl, hO10, hb10⟩; obtain ⟨A10, c10, hv10, -, -⟩ := Row.OwnB.slice hO10; rw [Kzl2.out] at hv10; subst hv10; have KO10 := Aside0.mk hO10; have KO8b := Aside0.mk (KO8.out.below hb10); have Kb10 : Aside0 (Below w2.heap.size w2 w10) := ⟨below_then Kb8.out K8.out.size hb10⟩; clear hO10 hb10) | (go_at_call 11; refine (Fl.num_any _ _).mono ?_; rintro e w' ⟨rfl, rfl⟩))
                  obtain ⟨-, -, hCw⟩ := Row.OwnB.reads KO8b.out
                  obtain ⟨-, -, hCn⟩ := Row.OwnB.reads KO10.out
                  rw [← KN.out] at hCw
                  rw [Kzl2.out] at hCn
                  obtain ⟨adw, hAw, hcw⟩ := (Kd.reads_of_C (d := (0 : Int)) hCw).2.2 (by have := KNpos.out; omega)
                  obtain ⟨adn, hAn, hcn⟩ := (Kd.reads_of_C (d := (0 : Int)) hCn).2.2 (by have := KNpos.out; omega)
                  subst hAw
                  subst hAn
                  have Kcw := Aside0.mk hcw
                  have Kcn := Aside0.mk hcn
                  clear hCw hCn hcw hcn
                  go_loopw [20] (fun i wl => ∃ k q : Nat, k ≤ N ∧ i = .int .i64 k ∧ wl = w10.drewN q) (fun i _ => N - (intOf i).toNat)
                  case atStart => exact ⟨0, 0, Nat.zero_le _, rfl, rfl⟩
                  case round =>
                    obtain ⟨j, q, hj, rfl, rfl⟩ := hrel
                    by_cases hlt : j < N
                    · have hNN := KNb.out
                      have e1 := Kcw.out j hlt
                      have e2 := Kcn.out j hlt
                      rw [Kkeep.out j (Or.inr (Nat.zero_le _))] at e2
                      obtain ⟨v, hv⟩ : ∃ v, x.mem.getD j 0 = v := ⟨_, rfl⟩
                      rw [hv] at e1 e2
                      clear hv
                      go_wp2
                      go_quiet (fail)
                      go_wp2
                      refine ⟨⟨j + 1, _, hlt, by go_num, rfl⟩, by simp [intOf]; omega⟩
                    · obtain rfl : j = N := by omega
                      go_wp2_with ((go_at_call 14; refine (Fl.live_any _).mono ?_; rintro e w9 ⟨rfl, hb9⟩; have Kb9 := Aside0.mk hb9; clear hb9))
                      go_ret
                      exact ⟨rfl, below_then (below_then Kb2.out Kb2.out.size (pw_below_drewN Kb10.out _)) (below_then Kb2.out Kb2.out.size (pw_below_drewN Kb10.out _)).size Kb9.out⟩
              · have hdo' : (ado == (1 : Int)) = false := by simpa using hdo
                go_wp2_with (first | (go_at_call 19; have _t := tokS; refine (Fl.size_any KM.out).mono ?_; rintro e w' ⟨rfl, rfl⟩; rw [← KN.out]; clear tokS) | (go_at_call 18; have _t := tokR; refine (Fl.read_any KM.out (by rw [← KN.out]; have := KNb.out; omega) 0 N (by decide) (by have := KNb.out; omega)).mono ?_; rw [Krd.out]; rintro e w5 ⟨v5, rfl, hO5, hb5⟩; obtain ⟨A5, c5, hv5, -, -⟩ := Row.OwnB.slice hO5; rw [← KN.out] at hv5; subst hv5; have KO5 := Aside0.mk hO5; have K5 := Aside0.mk (KM.out.below hb5); have Kb5 : Aside0 (Below w2.heap.size w2 w5) := ⟨below_then KBw.out KM.out.size hb5⟩; have d1 := pw_cell_below Kb5.out Kd1.out; have d2 := pw_cell_below Kb5.out Kd2.out; have a0 := pw_cell_below Kb5.out Ka0.out; have a1 := pw_cell_below Kb5.out Ka1.out; have a2 := pw_cell_below Kb5.out Ka2.out; have a3 := pw_cell_below Kb5.out Ka3.out; clear hO5 hb5 tokR) | (go_at_call 23; refine (Fl.arm_any K5.out 1 A3 c3 l3 (fun w' hch => Kd.C_below (Kd.C_below Kr3.out Kb2.out) (Kb5.out.trans hch.below)) (by have := Km3.out; omega)).mono ?_; rintro e w6 ⟨rfl, ⟨tv6, hF6⟩, hch6⟩; rw [KyA.out]; rw [← Ky.out] at hF6; clear d1 d2 a0 a1 a2 a3; have K6 := Aside0.mk hF6; have KO6 := Aside0.mk (Fl.ownB_ch KO5.out hch6 KM.out.lt.1 KM.out.lt.2.1 KM.out.lt.2.2.1 KM.out.lt.2.2.2); have Kb6 : Aside0 (Below w2.heap.size w2 w6) := ⟨Kb5.out.trans hch6.below⟩; have d1 := pw_cell_below Kb6.out Kd1.out; have d2 := pw_cell_below Kb6.out Kd2.out; have a0 := pw_cell_below Kb6.out Ka0.out; have a1 := pw_cell_below Kb6.out Ka1.out; have a2 := pw_cell_below Kb6.out Ka2.out; have a3 := pw_cell_below Kb6.out Ka3.out; clear hF6 hch6))
                have hkeep := Fl.erase_keeps Ksy.out aat
                have hsz := (Fl.erase_shape Ksy.out aat).1
                have hgz := (Fl.erase_shape Ksy.out aat).2
                have hcall := (Fl.erase_any K6.out Ksy.out Kly.out (by decide) aat Kat.out)
                obtain ⟨z, hz⟩ : ∃ z, z = (Fl.eraseP y aat).1 := ⟨_, rfl⟩
                obtain ⟨h, hh⟩ : ∃ h, h = (Fl.eraseP y aat).2 := ⟨_, rfl⟩
                rw [← hz, ← hh] at hkeep hcall
                rw [← hz] at hsz hgz
                have hzl : z.mem.length = N := by rw [hsz.mem, hgz.1, hgz.2.1, hgz.2.2, ← Ksy.out.mem, Kym.out, ← KN.out]
                have Kzl2 := Aside0.mk hzl
                have Kzl : Aside0 ((Fl.bootP z).mem.length = N) := ⟨hzl⟩
                have hrd2 := Fl.read_all (Fl.bootP z) rfl
                rw [Kzl.out] at hrd2
                have Krd2 : Aside0 (Fl.readP (Fl.bootP z) 0 N = (z.mem, 0)) := ⟨hrd2⟩
                rw [Kym.out, ← KN.out] at hkeep
                have Kcall := Aside0.mk hcall
                clear hsz hgz hz hh hzl hrd2 hcall
                by_cases hq : h = 0 ∨ h = 40
                · obtain ⟨p, hp, hfit, hk⟩ := hkeep.1 hq
                  obtain ⟨o, ho⟩ : ∃ o, o = p * (y.P * y.B) := ⟨_, rfl⟩
                  obtain ⟨n, hn⟩ : ∃ n, n = y.P * y.B := ⟨_, rfl⟩
                  obtain ⟨t, ht⟩ : ∃ t, t = o + n := ⟨_, rfl⟩
                  rw [← ho, ← hn, ← ht] at hfit hk
                  rw [KyG.out.2.1, KyG.out.2.2] at ho hn
                  have hB1 : 16 ≤ B := by have := KB.out; omega
                  have hP1 : 1 ≤ P ∧ P ≤ 16 := by have := KP.out; omega
                  have hpb : p * P ≤ o := by rw [ho, ← Nat.mul_assoc]; exact Nat.le_mul_of_pos_right _ (by omega)
                  have hw1 : IntKind.i64.wrap ((p : Int) * (P : Int)) = ((p * P : Nat) : Int) := by rw [← Int.natCast_mul]; exact IntWalk.i64_in _ (by have := KNb.out; omega)
                  have hw2 : IntKind.i64.wrap (((p * P : Nat) : Int) * (B : Int)) = (o : Int) := by rw [← Int.natCast_mul, Nat.mul_assoc, ← ho]; exact IntWalk.i64_in _ (by have := KNb.out; omega)
                  have hpp : p ≤ p * P := Nat.le_mul_of_pos_right _ (by omega)
                  have hw3 : IntKind.i64.wrap ((p : Int) + 1) = (p : Int) + 1 := IntWalk.i64_in _ (by have := KNb.out; omega)
                  have hw4 : IntKind.i64.wrap (((p : Int) + 1) * (P : Int)) = ((p * P + P : Nat) : Int) := by rw [show ((p : Int) + 1) * (P : Int) = ((p * P + P : Nat) : Int) by rw [Int.add_mul, Int.one_mul]; simp]; exact IntWalk.i64_in _ (by have := KNb.out; omega)
                  have hw5 : IntKind.i64.wrap (((p * P + P : Nat) : Int) * (B : Int)) = (t : Int) := by rw [← Int.natCast_mul, Nat.add_mul, Nat.mul_assoc, ← ho, ← hn, ← ht]; exact IntWalk.i64_in _ (by have := KNb.out; omega)
                  obtain ⟨sp, hsp⟩ : ∃ sp, sp = p * P := ⟨_, rfl⟩
                  obtain ⟨sq, hsq⟩ : ∃ sq, sq = p * P + P := ⟨_, rfl⟩
                  rw [← hsq] at hw4 hw5
                  rw [← hsp] at hw1 hw2
                  clear hsp hsq hpb hpp hB1 hP1 hn
                  subst hp
                  have Kkeep := Aside0.mk hk
                  clear hk hkeep ho ht hfit
                  rcases hq with rfl | rfl
                  all_goals
                    refine Kcall.out.mono ?_
                    rintro e w7 ⟨rfl, hF7, hch7⟩
                    clear d1 d2 a0 a1 a2 a3
                    have K7 := Aside0.mk hF7
                    have KO7 := Aside0.mk (Fl.ownB_ch KO6.out hch7 KM.out.lt.1 KM.out.lt.2.1 KM.out.lt.2.2.1 KM.out.lt.2.2.2)
                    have Kb7 : Aside0 (Below w2.heap.size w2 w7) := ⟨Kb6.out.trans hch7.below⟩
                    have d1 := pw_cell_below Kb7.out Kd1.out
                    have d2 := pw_cell_below Kb7.out Kd2.out
                    have a0 := pw_cell_below Kb7.out Ka0.out
                    have a1 := pw_cell_below Kb7.out Ka1.out
                    have a2 := pw_cell_below Kb7.out Ka2.out
                    have a3 := pw_cell_below Kb7.out Ka3.out
                    clear hF7 hch7
                    go_wp2_with ((go_at_call 11; refine (Fl.num_any _ _).mono ?_; rintro e w' ⟨rfl, rfl⟩))
                    go_quiet (fail)
                    go_wp2_with (first | (go_at_call 24; (first | (refine (Fl.boot_any K7.out).mono ?_) | (refine (Fl.boot_any (K7.out.drewN _)).mono ?_)); rintro e w8 ⟨rfl, hF8, hch8⟩; have K8 := Aside0.mk hF8; have KO8 : Aside0 (Row.OwnB w8 wr.heap.size (.slice A5 N c5) x.mem) := ⟨Fl.ownB_ch (by first | exact KO7.out | exact KO7.out.below (pw_below_drewN (Below.refl _ _) _)) hch8 KM.out.lt.1 KM.out.lt.2.1 KM.out.lt.2.2.1 KM.out.lt.2.2.2⟩; have Kb8 : Aside0 (Below w2.heap.size w2 w8) := ⟨Below.trans (by first | exact Kb7.out | exact pw_below_drewN Kb7.out _) hch8.below⟩; clear hF8 hch8) | (go_at_call 19; refine (Fl.size_any K8.out).mono ?_; rintro e w' ⟨rfl, rfl⟩; rw [Kzl.out]) | (go_at_call 18; refine (Fl.read_any K8.out (by rw [Kzl.out]; have := KNb.out; omega) 0 N (by decide) (by have := KNb.out; omega)).mono ?_; rw [Krd2.out]; rintro e w10 ⟨v10, rfl, hO10, hb10⟩; obtain ⟨A10, c10, hv10, -, -⟩ := Row.OwnB.slice hO10; rw [Kzl2.out] at hv10; subst hv10; have KO10 := Aside0.mk hO10; have KO8b := Aside0.mk (KO8.out.below hb10); have Kb10 : Aside0 (Below w2.heap.size w2 w10) := ⟨below_then Kb8.out K8.out.size hb10⟩; clear hO10 hb10) | (go_at_call 11; refine (Fl.num_any _ _).mono ?_; rintro e w' ⟨rfl, rfl⟩))
                    obtain ⟨-, -, hCw⟩ := Row.OwnB.reads KO8b.out
                    obtain ⟨-, -, hCn⟩ := Row.OwnB.reads KO10.out
                    rw [← KN.out] at hCw
                    rw [Kzl2.out] at hCn
                    obtain ⟨adw, hAw, hcw⟩ := (Kd.reads_of_C (d := (0 : Int)) hCw).2.2 (by have := KNpos.out; omega)
                    obtain ⟨adn, hAn, hcn⟩ := (Kd.reads_of_C (d := (0 : Int)) hCn).2.2 (by have := KNpos.out; omega)
                    subst hAw
                    subst hAn
                    have Kcw := Aside0.mk hcw
                    have Kcn := Aside0.mk hcn
                    clear hCw hCn hcw hcn
                    go_loopw [20] (fun i wl => ∃ k q : Nat, k ≤ N ∧ i = .int .i64 k ∧ wl = w10.drewN q) (fun i _ => N - (intOf i).toNat)
                    case atStart => exact ⟨0, 0, Nat.zero_le _, rfl, rfl⟩
                    case round =>
                      obtain ⟨j, q, hj, rfl, rfl⟩ := hrel
                      by_cases hlt : j < N
                      · have hNN := KNb.out
                        have e1 := Kcw.out j hlt
                        have e2 := Kcn.out j hlt
                        by_cases h1 : j < o
                        · rw [Kkeep.out j (Or.inl h1)] at e2
                          have hdk : decide (j < o) = true := decide_eq_true h1
                          obtain ⟨v, hv⟩ : ∃ v, x.mem.getD j 0 = v := ⟨_, rfl⟩
                          rw [hv] at e1 e2
                          clear hv
                          go_wp2
                          go_quiet (fail)
                          go_wp2
                          refine ⟨⟨j + 1, _, hlt, by go_num, rfl⟩, by simp [intOf]; omega⟩
                        · have hdk : decide (j < o) = false := decide_eq_false h1
                          by_cases h2 : t ≤ j
                          · rw [Kkeep.out j (Or.inr h2)] at e2
                            have hdt : decide (t ≤ j) = true := decide_eq_true h2
                            obtain ⟨v, hv⟩ : ∃ v, x.mem.getD j 0 = v := ⟨_, rfl⟩
                            rw [hv] at e1 e2
                            clear hv
                            go_wp2
                            go_quiet (fail)
                            go_wp2
                            refine ⟨⟨j + 1, _, hlt, by go_num, rfl⟩, by simp [intOf]; omega⟩
                          · have hdt : decide (t ≤ j) = false := decide_eq_false h2
                            clear e1 e2
                            go_wp2
                            go_quiet (fail)
                            go_wp2
                            refine ⟨⟨j + 1, _, hlt, by go_num, rfl⟩, by simp [intOf]; omega⟩
                      · obtain rfl : j = N := by omega
                        go_wp2_with ((go_at_call 14; refine (Fl.live_any _).mono ?_; rintro e w9 ⟨rfl, hb9⟩; have Kb9 := Aside0.mk hb9; clear hb9))
                        go_ret
                        exact ⟨rfl, below_then (below_then Kb2.out Kb2.out.size (pw_below_drewN Kb10.out _)) (below_then Kb2.out Kb2.out.size (pw_below_drewN Kb10.out _)).size Kb9.out⟩
                · have hzm := hkeep.2 hq
                  have Kkeep : Aside0 (∀ k, (k < 0 ∨ 0 ≤ k) → z.mem.getD k 0 = x.mem.getD k 0) := ⟨fun k _ => congrArg (fun l => l.getD k 0) hzm⟩
                  have hq1 : (h == 0) = false := by simp; omega
                  have hq2 : (h == 40) = false := by simp; omega
                  clear hkeep hzm hq
                  refine Kcall.out.mono ?_
                  rintro e w7 ⟨rfl, hF7, hch7⟩
                  clear d1 d2 a0 a1 a2 a3
                  have K7 := Aside0.mk hF7
                  have KO7 := Aside0.mk (Fl.ownB_ch KO6.out hch7 KM.out.lt.1 KM.out.lt.2.1 KM.out.lt.2.2.1 KM.out.lt.2.2.2)
                  have Kb7 : Aside0 (Below w2.heap.size w2 w7) := ⟨Kb6.out.trans hch7.below⟩
                  have d1 := pw_cell_below Kb7.out Kd1.out
                  have d2 := pw_cell_below Kb7.out Kd2.out
                  have a0 := pw_cell_below Kb7.out Ka0.out
                  have a1 := pw_cell_below Kb7.out Ka1.out
                  have a2 := pw_cell_below Kb7.out Ka2.out
                  have a3 := pw_cell_below Kb7.out Ka3.out
                  clear hF7 hch7
                  go_wp2_with (first | (go_at_call 24; (first | (refine (Fl.boot_any K7.out).mono ?_) | (refine (Fl.boot_any (K7.out.drewN _)).mono ?_)); rintro e w8 ⟨rfl, hF8, hch8⟩; have K8 := Aside0.mk hF8; have KO8 : Aside0 (Row.OwnB w8 wr.heap.size (.slice A5 N c5) x.mem) := ⟨Fl.ownB_ch (by first | exact KO7.out | exact KO7.out.below (pw_below_drewN (Below.refl _ _) _)) hch8 KM.out.lt.1 KM.out.lt.2.1 KM.out.lt.2.2.1 KM.out.lt.2.2.2⟩; have Kb8 : Aside0 (Below w2.heap.size w2 w8) := ⟨Below.trans (by first | exact Kb7.out | exact pw_below_drewN Kb7.out _) hch8.below⟩; clear hF8 hch8) | (go_at_call 19; refine (Fl.size_any K8.out).mono ?_; rintro e w' ⟨rfl, rfl⟩; rw [Kzl.out]) | (go_at_call 18; refine (Fl.read_any K8.out (by rw [Kzl.out]; have := KNb.out; omega) 0 N (by decide) (by have := KNb.out; omega)).mono ?_; rw [Krd2.out]; rintro e w10 ⟨v10, rfl, hO10, hb10⟩; obtain ⟨A10, c10, hv10, -, -⟩ := Row.OwnB.slice hO10; rw [Kzl2.out] at hv10; subst hv10; have KO10 := Aside0.mk hO10; have KO8b := Aside0.mk (KO8.out.below hb10); have Kb10 : Aside0 (Below w2.heap.size w2 w10) := ⟨below_then Kb8.out K8.out.size hb10⟩; clear hO10 hb10) | (go_at_call 11; refine (Fl.num_any _ _).mono ?_; rintro e w' ⟨rfl, rfl⟩))
                  obtain ⟨-, -, hCw⟩ := Row.OwnB.reads KO8b.out
                  obtain ⟨-, -, hCn⟩ := Row.OwnB.reads KO10.out
                  rw [← KN.out] at hCw
                  rw [Kzl2.out] at hCn
                  obtain ⟨adw, hAw, hcw⟩ := (Kd.reads_of_C (d := (0 : Int)) hCw).2.2 (by have := KNpos.out; omega)
                  obtain ⟨adn, hAn, hcn⟩ := (Kd.reads_of_C (d := (0 : Int)) hCn).2.2 (by have := KNpos.out; omega)
                  subst hAw
                  subst hAn
                  have Kcw := Aside0.mk hcw
                  have Kcn := Aside0.mk hcn
                  clear hCw hCn hcw hcn
                  go_loopw [20] (fun i wl => ∃ k q : Nat, k ≤ N ∧ i = .int .i64 k ∧ wl = w10.drewN q) (fun i _ => N - (intOf i).toNat)
                  case atStart => exact ⟨0, 0, Nat.zero_le _, rfl, rfl⟩
                  case round =>
                    obtain ⟨j, q, hj, rfl, rfl⟩ := hrel
                    by_cases hlt : j < N
                    · have hNN := KNb.out
                      have e1 := Kcw.out j hlt
                      have e2 := Kcn.out j hlt
                      rw [Kkeep.out j (Or.inr (Nat.zero_le _))] at e2
                      obtain ⟨v, hv⟩ : ∃ v, x.mem.getD j 0 = v := ⟨_, rfl⟩
                      rw [hv] at e1 e2
                      clear hv
                      go_wp2
                      go_quiet (fail)
                      go_wp2
                      refine ⟨⟨j + 1, _, hlt, by go_num, rfl⟩, by simp [intOf]; omega⟩
                    · obtain rfl : j = N := by omega
                      go_wp2_with ((go_at_call 14; refine (Fl.live_any _).mono ?_; rintro e w9 ⟨rfl, hb9⟩; have Kb9 := Aside0.mk hb9; clear hb9))
                      go_ret
                      exact ⟨rfl, below_then (below_then Kb2.out Kb2.out.size (pw_below_drewN Kb10.out _)) (below_then Kb2.out Kb2.out.size (pw_below_drewN Kb10.out _)).size Kb9.out⟩
            · obtain ⟨y, hy⟩ : ∃ y, y = x := ⟨_, rfl⟩
              have hd0 : decide (0 < an) = false := decide_eq_false han
              have Ky := Aside0.mk hy
              have Ksy : Aside0 (Fl.Shape y) := ⟨by rw [hy]; exact KI.out.1⟩
              have Kly : Aside0 (Fl.Low y 1000) := ⟨by rw [hy]; exact KI.out.2.2.1.mono (show k ≤ 1000 by have := Khk.out; omega)⟩
              have Kym : Aside0 (y.mem = x.mem) := ⟨by rw [hy]⟩
              have KyG : Aside0 (y.S = S ∧ y.P = P ∧ y.B = B) := ⟨by rw [hy]; exact KI.out.2.1⟩
              clear hy
              by_cases hdo : ado = 1
              · subst hdo
                go_wp2_with (first | (go_at_call 19; have _t := tokS; refine (Fl.size_any KM.out).mono ?_; rintro e w' ⟨rfl, rfl⟩; rw [← KN.out]; clear tokS) | (go_at_call 18; have _t := tokR; refine (Fl.read_any KM.out (by rw [← KN.out]; have := KNb.out; omega) 0 N (by decide) (by have := KNb.out; omega)).mono ?_; rw [Krd.out]; rintro e w5 ⟨v5, rfl, hO5, hb5⟩; obtain ⟨A5, c5, hv5, -, -⟩ := Row.OwnB.slice hO5; rw [← KN.out] at hv5; subst hv5; have KO5 := Aside0.mk hO5; have K5 := Aside0.mk (KM.out.below hb5); have Kb5 : Aside0 (Below w2.heap.size w2 w5) := ⟨below_then KBw.out KM.out.size hb5⟩; have d1 := pw_cell_below Kb5.out Kd1.out; have d2 := pw_cell_below Kb5.out Kd2.out; have a0 := pw_cell_below Kb5.out Ka0.out; have a1 := pw_cell_below Kb5.out Ka1.out; have a2 := pw_cell_below Kb5.out Ka2.out; have a3 := pw_cell_below Kb5.out Ka3.out; clear hO5 hb5 tokR))
                have K6 : Aside0 (Fl.FM w5 w2.heap.size f gb gd gw (.slice none 0 0) y) := ⟨by rw [Ky.out]; exact K5.out⟩
                have KO6 := KO5
                have Kb6 := Kb5
                have hkeep := Fl.write_keeps Ksy.out aat bs
                have hsz := (Fl.write_shape Ksy.out aat bs).1
                have hgz := (Fl.write_shape Ksy.out aat bs).2
                have hcall := (Fl.write_any K6.out Ksy.out Kly.out (by decide) aat Ab cb bs (fun w' hch => Kd.C_below (Kd.C_below KCb.out Kb2.out) (Kb6.out.trans hch.below)) Kat.out)
                obtain ⟨z, hz⟩ : ∃ z, z = (Fl.writeP y aat bs).1 := ⟨_, rfl⟩
                obtain ⟨h, hh⟩ : ∃ h, h = (Fl.writeP y aat bs).2 := ⟨_, rfl⟩
                rw [← hz, ← hh] at hkeep hcall
                rw [← hz] at hsz hgz
                have hzl : z.mem.length = N := by rw [hsz.mem, hgz.1, hgz.2.1, hgz.2.2, ← Ksy.out.mem, Kym.out, ← KN.out]
                have Kzl2 := Aside0.mk hzl
                have Kzl : Aside0 ((Fl.bootP z).mem.length = N) := ⟨hzl⟩
                have hrd2 := Fl.read_all (Fl.bootP z) rfl
                rw [Kzl.out] at hrd2
                have Krd2 : Aside0 (Fl.readP (Fl.bootP z) 0 N = (z.mem, 0)) := ⟨hrd2⟩
                rw [Kym.out, ← KN.out] at hkeep
                have Kcall := Aside0.mk hcall
                clear hsz hgz hz hh hzl hrd2 hcall
                by_cases hq : h = 0 ∨ h = 40
                · obtain ⟨p, hp, hfit, hk⟩ := hkeep.1 hq
                  obtain ⟨o, ho⟩ : ∃ o, o = p * y.B := ⟨_, rfl⟩
                  obtain ⟨t, ht⟩ : ∃ t, t = o + B := ⟨_, rfl⟩
                  rw [← ho, KyG.out.2.2] at hfit hk
                  rw [← ht] at hfit hk
                  have hw1 : IntKind.i64.wrap ((p : Int) * (B : Int)) = (o : Int) := by rw [← Int.natCast_mul, ho, KyG.out.2.2]; exact IntWalk.i64_in _ (by rw [← KyG.out.2.2, ← ho]; have := KNb.out; omega)
                  have hw2 : IntKind.i64.wrap ((o : Int) + (B : Int)) = (t : Int) := by rw [show (o : Int) + (B : Int) = (t : Int) by omega]; exact IntWalk.i64_in _ (by have := KNb.out; omega)
                  subst hp
                  have Kkeep := Aside0.mk hk
                  clear hk hkeep ho ht hfit
                  rcases hq with rfl | rfl
                  all_goals
                    refine Kcall.out.mono ?_
                    rintro e w7 ⟨rfl, hF7, hch7⟩
                    clear d1 d2 a0 a1 a2 a3
                    have K7 := Aside0.mk hF7
                    have KO7 := Aside0.mk (Fl.ownB_ch KO6.out hch7 KM.out.lt.1 KM.out.lt.2.1 KM.out.lt.2.2.1 KM.out.lt.2.2.2)
                    have Kb7 : Aside0 (Below w2.heap.size w2 w7) := ⟨Kb6.out.trans hch7.below⟩
                    have d1 := pw_cell_below Kb7.out Kd1.out
                    have d2 := pw_cell_below Kb7.out Kd2.out
                    have a0 := pw_cell_below Kb7.out Ka0.out
                    have a1 := pw_cell_below Kb7.out Ka1.out
                    have a2 := pw_cell_below Kb7.out Ka2.out
                    have a3 := pw_cell_below Kb7.out Ka3.out
                    clear hF7 hch7
                    go_wp2_with ((go_at_call 11; refine (Fl.num_any _ _).mono ?_; rintro e w' ⟨rfl, rfl⟩))
                    go_quiet (fail)
                    go_wp2_with (first | (go_at_call 24; (first | (refine (Fl.boot_any K7.out).mono ?_) | (refine (Fl.boot_any (K7.out.drewN _)).mono ?_)); rintro e w8 ⟨rfl, hF8, hch8⟩; have K8 := Aside0.mk hF8; have KO8 : Aside0 (Row.OwnB w8 wr.heap.size (.slice A5 N c5) x.mem) := ⟨Fl.ownB_ch (by first | exact KO7.out | exact KO7.out.below (pw_below_drewN (Below.refl _ _) _)) hch8 KM.out.lt.1 KM.out.lt.2.1 KM.out.lt.2.2.1 KM.out.lt.2.2.2⟩; have Kb8 : Aside0 (Below w2.heap.size w2 w8) := ⟨Below.trans (by first | exact Kb7.out | exact pw_below_drewN Kb7.out _) hch8.below⟩; clear hF8 hch8) | (go_at_call 19; refine (Fl.size_any K8.out).mono ?_; rintro e w' ⟨rfl, rfl⟩; rw [Kzl.out]) | (go_at_call 18; refine (Fl.read_any K8.out (by rw [Kzl.out]; have := KNb.out; omega) 0 N (by decide) (by have := KNb.out; omega)).mono ?_; rw [Krd2.out]; rintro e w10 ⟨v10, rfl, hO10, hb10⟩; obtain ⟨A10, c10, hv10, -, -⟩ := Row.OwnB.slice hO10; rw [Kzl2.out] at hv10; subst hv10; have KO10 := Aside0.mk hO10; have KO8b := Aside0.mk (KO8.out.below hb10); have Kb10 : Aside0 (Below w2.heap.size w2 w10) := ⟨below_then Kb8.out K8.out.size hb10⟩; clear hO10 hb10) | (go_at_call 11; refine (Fl.num_any _ _).mono ?_; rintro e w' ⟨rfl, rfl⟩))
                    obtain ⟨-, -, hCw⟩ := Row.OwnB.reads KO8b.out
                    obtain ⟨-, -, hCn⟩ := Row.OwnB.reads KO10.out
                    rw [← KN.out] at hCw
                    rw [Kzl2.out] at hCn
                    obtain ⟨adw, hAw, hcw⟩ := (Kd.reads_of_C (d := (0 : Int)) hCw).2.2 (by have := KNpos.out; omega)
                    obtain ⟨adn, hAn, hcn⟩ := (Kd.reads_of_C (d := (0 : Int)) hCn).2.2 (by have := KNpos.out; omega)
                    subst hAw
                    subst hAn
                    have Kcw := Aside0.mk hcw
                    have Kcn := Aside0.mk hcn
                    clear hCw hCn hcw hcn
                    go_loopw [20] (fun i wl => ∃ k q : Nat, k ≤ N ∧ i = .int .i64 k ∧ wl = w10.drewN q) (fun i _ => N - (intOf i).toNat)
                    case atStart => exact ⟨0, 0, Nat.zero_le _, rfl, rfl⟩
                    case round =>
                      obtain ⟨j, q, hj, rfl, rfl⟩ := hrel
                      by_cases hlt : j < N
                      · have hNN := KNb.out
                        have e1 := Kcw.out j hlt
                        have e2 := Kcn.out j hlt
                        by_cases h1 : j < o
                        · rw [Kkeep.out j (Or.inl h1)] at e2
                          have hdk : decide (j < o) = true := decide_eq_true h1
                          obtain ⟨v, hv⟩ : ∃ v, x.mem.getD j 0 = v := ⟨_, rfl⟩
                          rw [hv] at e1 e2
                          clear hv
                          go_wp2
                          go_quiet (fail)
                          go_wp2
                          refine ⟨⟨j + 1, _, hlt, by go_num, rfl⟩, by simp [intOf]; omega⟩
                        · have hdk : decide (j < o) = false := decide_eq_false h1
                          by_cases h2 : t ≤ j
                          · rw [Kkeep.out j (Or.inr h2)] at e2
                            have hdt : decide (t ≤ j) = true := decide_eq_true h2
                            obtain ⟨v, hv⟩ : ∃ v, x.mem.getD j 0 = v := ⟨_, rfl⟩
                            rw [hv] at e1 e2
                            clear hv
                            go_wp2
                            go_quiet (fail)
                            go_wp2
                            refine ⟨⟨j + 1, _, hlt, by go_num, rfl⟩, by simp [intOf]; omega⟩
                          · have hdt : decide (t ≤ j) = false := decide_eq_false h2
                            clear e1 e2
                            go_wp2
                            go_quiet (fail)
                            go_wp2
                            refine ⟨⟨j + 1, _, hlt, by go_num, rfl⟩, by simp [intOf]; omega⟩
                      · obtain rfl : j = N := by omega
                        go_wp2_with ((go_at_call 14; refine (Fl.live_any _).mono ?_; rintro e w9 ⟨rfl, hb9⟩; have Kb9 := Aside0.mk hb9; clear hb9))
                        go_ret
                        exact ⟨rfl, below_then (below_then Kb2.out Kb2.out.size (pw_below_drewN Kb10.out _)) (below_then Kb2.out Kb2.out.size (pw_below_drewN Kb10.out _)).size Kb9.out⟩
                · have hzm := hkeep.2 hq
                  have Kkeep : Aside0 (∀ k, (k < 0 ∨ 0 ≤ k) → z.mem.getD k 0 = x.mem.getD k 0) := ⟨fun k _ => congrArg (fun l => l.getD k 0) hzm⟩
                  have hq1 : (h == 0) = false := by simp; omega
                  have hq2 : (h == 40) = false := by simp; omega
                  clear hkeep hzm hq
                  refine Kcall.out.mono ?_
                  rintro e w7 ⟨rfl, hF7, hch7⟩
                  clear d1 d2 a0 a1 a2 a3
                  have K7 := Aside0.mk hF7
                  have KO7 := Aside0.mk (Fl.ownB_ch KO6.out hch7 KM.out.lt.1 KM.out.lt.2.1 KM.out.lt.2.2.1 KM.out.lt.2.2.2)
                  have Kb7 : Aside0 (Below w2.heap.size w2 w7) := ⟨Kb6.out.trans hch7.below⟩
                  have d1 := pw_cell_below Kb7.out Kd1.out
                  have d2 := pw_cell_below Kb7.out Kd2.out
                  have a0 := pw_cell_below Kb7.out Ka0.out
                  have a1 := pw_cell_below Kb7.out Ka1.out
                  have a2 := pw_cell_below Kb7.out Ka2.out
                  have a3 := pw_cell_below Kb7.out Ka3.out
                  clear hF7 hch7
                  go_wp2_with (first | (go_at_call 24; (first | (refine (Fl.boot_any K7.out).mono ?_) | (refine (Fl.boot_any (K7.out.drewN _)).mono ?_)); rintro e w8 ⟨rfl, hF8, hch8⟩; have K8 := Aside0.mk hF8; have KO8 : Aside0 (Row.OwnB w8 wr.heap.size (.slice A5 N c5) x.mem) := ⟨Fl.ownB_ch (by first | exact KO7.out | exact KO7.out.below (pw_below_drewN (Below.refl _ _) _)) hch8 KM.out.lt.1 KM.out.lt.2.1 KM.out.lt.2.2.1 KM.out.lt.2.2.2⟩; have Kb8 : Aside0 (Below w2.heap.size w2 w8) := ⟨Below.trans (by first | exact Kb7.out | exact pw_below_drewN Kb7.out _) hch8.below⟩; clear hF8 hch8) | (go_at_call 19; refine (Fl.size_any K8.out).mono ?_; rintro e w' ⟨rfl, rfl⟩; rw [Kzl.out]) | (go_at_call 18; refine (Fl.read_any K8.out (by rw [Kzl.out]; have := KNb.out; omega) 0 N (by decide) (by have := KNb.out; omega)).mono ?_; rw [Krd2.out]; rintro e w10 ⟨v10, rfl, hO10, hb10⟩; obtain ⟨A10, c10, hv10, -, -⟩ := Row.OwnB.slice hO10; rw [Kzl2.out] at hv10; subst hv10; have KO10 := Aside0.mk hO10; have KO8b := Aside0.mk (KO8.out.below hb10); have Kb10 : Aside0 (Below w2.heap.size w2 w10) := ⟨below_then Kb8.out K8.out.size hb10⟩; clear hO10 hb10) | (go_at_call 11; refine (Fl.num_any _ _).mono ?_; rintro e w' ⟨rfl, rfl⟩))
                  obtain ⟨-, -, hCw⟩ := Row.OwnB.reads KO8b.out
                  obtain ⟨-, -, hCn⟩ := Row.OwnB.reads KO10.out
                  rw [← KN.out] at hCw
                  rw [Kzl2.out] at hCn
                  obtain ⟨adw, hAw, hcw⟩ := (Kd.reads_of_C (d := (0 : Int)) hCw).2.2 (by have := KNpos.out; omega)
                  obtain ⟨adn, hAn, hcn⟩ := (Kd.reads_of_C (d := (0 : Int)) hCn).2.2 (by have := KNpos.out; omega)
                  subst hAw
                  subst hAn
                  have Kcw := Aside0.mk hcw
                  have Kcn := Aside0.mk hcn
                  clear hCw hCn hcw hcn
                  go_loopw [20] (fun i wl => ∃ k q : Nat, k ≤ N ∧ i = .int .i64 k ∧ wl = w10.drewN q) (fun i _ => N - (intOf i).toNat)
                  case atStart => exact ⟨0, 0, Nat.zero_le _, rfl, rfl⟩
                  case round =>
                    obtain ⟨j, q, hj, rfl, rfl⟩ := hrel
                    by_cases hlt : j < N
                    · have hNN := KNb.out
                      have e1 := Kcw.out j hlt
                      have e2 := Kcn.out j hlt
                      rw [Kkeep.out j (Or.inr (Nat.zero_le _))] at e2
                      obtain ⟨v, hv⟩ : ∃ v, x.mem.getD j 0 = v := ⟨_, rfl⟩
                      rw [hv] at e1 e2
                      clear hv
                      go_wp2
                      go_quiet (fail)
                      go_wp2
                      refine ⟨⟨j + 1, _, hlt, by go_num, rfl⟩, by simp [intOf]; omega⟩
                    · obtain rfl : j = N := by omega
                      go_wp2_with ((go_at_call 14; refine (Fl.live_any _).mono ?_; rintro e w9 ⟨rfl, hb9⟩; have Kb9 := Aside0.mk hb9; clear hb9))
                      go_ret
                      exact ⟨rfl, below_then (below_then Kb2.out Kb2.out.size (pw_below_drewN Kb10.out _)) (below_then Kb2.out Kb2.out.size (pw_below_drewN Kb10.out _)).size Kb9.out⟩
              · have hdo' : (ado == (1 : Int)) = false := by simpa using hdo
                go_wp2_with (first | (go_at_call 19; have _t := tokS; refine (Fl.size_any KM.out).mono ?_; rintro e w' ⟨rfl, rfl⟩; rw [← KN.out]; clear tokS) | (go_at_call 18; have _t := tokR; refine (Fl.read_any KM.out (by rw [← KN.out]; have := KNb.out; omega) 0 N (by decide) (by have := KNb.out; omega)).mono ?_; rw [Krd.out]; rintro e w5 ⟨v5, rfl, hO5, hb5⟩; obtain ⟨A5, c5, hv5, -, -⟩ := Row.OwnB.slice hO5; rw [← KN.out] at hv5; subst hv5; have KO5 := Aside0.mk hO5; have K5 := Aside0.mk (KM.out.below hb5); have Kb5 : Aside0 (Below w2.heap.size w2 w5) := ⟨below_then KBw.out KM.out.size hb5⟩; have d1 := pw_cell_below Kb5.out Kd1.out; have d2 := pw_cell_below Kb5.out Kd2.out; have a0 := pw_cell_below Kb5.out Ka0.out; have a1 := pw_cell_below Kb5.out Ka1.out; have a2 := pw_cell_below Kb5.out Ka2.out; have a3 := pw_cell_below Kb5.out Ka3.out; clear hO5 hb5 tokR))
                have K6 : Aside0 (Fl.FM w5 w2.heap.size f gb gd gw (.slice none 0 0) y) := ⟨by rw [Ky.out]; exact K5.out⟩
                have KO6 := KO5
                have Kb6 := Kb5
                have hkeep := Fl.erase_keeps Ksy.out aat
                have hsz := (Fl.erase_shape Ksy.out aat).1
                have hgz := (Fl.erase_shape Ksy.out aat).2
                have hcall := (Fl.erase_any K6.out Ksy.out Kly.out (by decide) aat Kat.out)
                obtain ⟨z, hz⟩ : ∃ z, z = (Fl.eraseP y aat).1 := ⟨_, rfl⟩
                obtain ⟨h, hh⟩ : ∃ h, h = (Fl.eraseP y aat).2 := ⟨_, rfl⟩
                rw [← hz, ← hh] at hkeep hcall
                rw [← hz] at hsz hgz
                have hzl : z.mem.length = N := by rw [hsz.mem, hgz.1, hgz.2.1, hgz.2.2, ← Ksy.out.mem, Kym.out, ← KN.out]
                have Kzl2 := Aside0.mk hzl
                have Kzl : Aside0 ((Fl.bootP z).mem.length = N) := ⟨hzl⟩
                have hrd2 := Fl.read_all (Fl.bootP z) rfl
                rw [Kzl.out] at hrd2
                have Krd2 : Aside0 (Fl.readP (Fl.bootP z) 0 N = (z.mem, 0)) := ⟨hrd2⟩
                rw [Kym.out, ← KN.out] at hkeep
                have Kcall := Aside0.mk hcall
                clear hsz hgz hz hh hzl hrd2 hcall
                by_cases hq : h = 0 ∨ h = 40
                · obtain ⟨p, hp, hfit, hk⟩ := hkeep.1 hq
                  obtain ⟨o, ho⟩ : ∃ o, o = p * (y.P * y.B) := ⟨_, rfl⟩
                  obtain ⟨n, hn⟩ : ∃ n, n = y.P * y.B := ⟨_, rfl⟩
                  obtain ⟨t, ht⟩ : ∃ t, t = o + n := ⟨_, rfl⟩
                  rw [← ho, ← hn, ← ht] at hfit hk
                  rw [KyG.out.2.1, KyG.out.2.2] at ho hn
                  have hB1 : 16 ≤ B := by have := KB.out; omega
                  have hP1 : 1 ≤ P ∧ P ≤ 16 := by have := KP.out; omega
                  have hpb : p * P ≤ o := by rw [ho, ← Nat.mul_assoc]; exact Nat.le_mul_of_pos_right _ (by omega)
                  have hw1 : IntKind.i64.wrap ((p : Int) * (P : Int)) = ((p * P : Nat) : Int) := by rw [← Int.natCast_mul]; exact IntWalk.i64_in _ (by have := KNb.out; omega)
                  have hw2 : IntKind.i64.wrap (((p * P : Nat) : Int) * (B : Int)) = (o : Int) := by rw [← Int.natCast_mul, Nat.mul_assoc, ← ho]; exact IntWalk.i64_in _ (by have := KNb.out; omega)
                  have hpp : p ≤ p * P := Nat.le_mul_of_pos_right _ (by omega)
                  have hw3 : IntKind.i64.wrap ((p : Int) + 1) = (p : Int) + 1 := IntWalk.i64_in _ (by have := KNb.out; omega)
                  have hw4 : IntKind.i64.wrap (((p : Int) + 1) * (P : Int)) = ((p * P + P : Nat) : Int) := by rw [show ((p : Int) + 1) * (P : Int) = ((p * P + P : Nat) : Int) by rw [Int.add_mul, Int.one_mul]; simp]; exact IntWalk.i64_in _ (by have := KNb.out; omega)
                  have hw5 : IntKind.i64.wrap (((p * P + P : Nat) : Int) * (B : Int)) = (t : Int) := by rw [← Int.natCast_mul, Nat.add_mul, Nat.mul_assoc, ← ho, ← hn, ← ht]; exact IntWalk.i64_in _ (by have := KNb.out; omega)
                  obtain ⟨sp, hsp⟩ : ∃ sp, sp = p * P := ⟨_, rfl⟩
                  obtain ⟨sq, hsq⟩ : ∃ sq, sq = p * P + P := ⟨_, rfl⟩
                  rw [← hsq] at hw4 hw5
                  rw [← hsp] at hw1 hw2
                  clear hsp hsq hpb hpp hB1 hP1 hn
                  subst hp
                  have Kkeep := Aside0.mk hk
                  clear hk hkeep ho ht hfit
                  rcases hq with rfl | rfl
                  all_goals
                    refine Kcall.out.mono ?_
                    rintro e w7 ⟨rfl, hF7, hch7⟩
                    clear d1 d2 a0 a1 a2 a3
                    have K7 := Aside0.mk hF7
                    have KO7 := Aside0.mk (Fl.ownB_ch KO6.out hch7 KM.out.lt.1 KM.out.lt.2.1 KM.out.lt.2.2.1 KM.out.lt.2.2.2)
                    have Kb7 : Aside0 (Below w2.heap.size w2 w7) := ⟨Kb6.out.trans hch7.below⟩
                    have d1 := pw_cell_below Kb7.out Kd1.out
                    have d2 := pw_cell_below Kb7.out Kd2.out
                    have a0 := pw_cell_below Kb7.out Ka0.out
                    have a1 := pw_cell_below Kb7.out Ka1.out
                    have a2 := pw_cell_below Kb7.out Ka2.out
                    have a3 := pw_cell_below Kb7.out Ka3.out
                    clear hF7 hch7
                    go_wp2_with ((go_at_call 11; refine (Fl.num_any _ _).mono ?_; rintro e w' ⟨rfl, rfl⟩))
                    go_quiet (fail)
                    go_wp2_with (first | (go_at_call 24; (first | (refine (Fl.boot_any K7.out).mono ?_) | (refine (Fl.boot_any (K7.out.drewN _)).mono ?_)); rintro e w8 ⟨rfl, hF8, hch8⟩; have K8 := Aside0.mk hF8; have KO8 : Aside0 (Row.OwnB w8 wr.heap.size (.slice A5 N c5) x.mem) := ⟨Fl.ownB_ch (by first | exact KO7.out | exact KO7.out.below (pw_below_drewN (Below.refl _ _) _)) hch8 KM.out.lt.1 KM.out.lt.2.1 KM.out.lt.2.2.1 KM.out.lt.2.2.2⟩; have Kb8 : Aside0 (Below w2.heap.size w2 w8) := ⟨Below.trans (by first | exact Kb7.out | exact pw_below_drewN Kb7.out _) hch8.below⟩; clear hF8 hch8) | (go_at_call 19; refine (Fl.size_any K8.out).mono ?_; rintro e w' ⟨rfl, rfl⟩; rw [Kzl.out]) | (go_at_call 18; refine (Fl.read_any K8.out (by rw [Kzl.out]; have := KNb.out; omega) 0 N (by decide) (by have := KNb.out; omega)).mono ?_; rw [Krd2.out]; rintro e w10 ⟨v10, rfl, hO10, hb10⟩; obtain ⟨A10, c10, hv10, -, -⟩ := Row.OwnB.slice hO10; rw [Kzl2.out] at hv10; subst hv10; have KO10 := Aside0.mk hO10; have KO8b := Aside0.mk (KO8.out.below hb10); have Kb10 : Aside0 (Below w2.heap.size w2 w10) := ⟨below_then Kb8.out K8.out.size hb10⟩; clear hO10 hb10) | (go_at_call 11; refine (Fl.num_any _ _).mono ?_; rintro e w' ⟨rfl, rfl⟩))
                    obtain ⟨-, -, hCw⟩ := Row.OwnB.reads KO8b.out
                    obtain ⟨-, -, hCn⟩ := Row.OwnB.reads KO10.out
                    rw [← KN.out] at hCw
                    rw [Kzl2.out] at hCn
                    obtain ⟨adw, hAw, hcw⟩ := (Kd.reads_of_C (d := (0 : Int)) hCw).2.2 (by have := KNpos.out; omega)
                    obtain ⟨adn, hAn, hcn⟩ := (Kd.reads_of_C (d := (0 : Int)) hCn).2.2 (by have := KNpos.out; omega)
                    subst hAw
                    subst hAn
                    have Kcw := Aside0.mk hcw
                    have Kcn := Aside0.mk hcn
                    clear hCw hCn hcw hcn
                    go_loopw [20] (fun i wl => ∃ k q : Nat, k ≤ N ∧ i = .int .i64 k ∧ wl = w10.drewN q) (fun i _ => N - (intOf i).toNat)
                    case atStart => exact ⟨0, 0, Nat.zero_le _, rfl, rfl⟩
                    case round =>
                      obtain ⟨j, q, hj, rfl, rfl⟩ := hrel
                      by_cases hlt : j < N
                      · have hNN := KNb.out
                        have e1 := Kcw.out j hlt
                        have e2 := Kcn.out j hlt
                        by_cases h1 : j < o
                        · rw [Kkeep.out j (Or.inl h1)] at e2
                          have hdk : decide (j < o) = true := decide_eq_true h1
                          obtain ⟨v, hv⟩ : ∃ v, x.mem.getD j 0 = v := ⟨_, rfl⟩
                          rw [hv] at e1 e2
                          clear hv
                          go_wp2
                          go_quiet (fail)
                          go_wp2
                          refine ⟨⟨j + 1, _, hlt, by go_num, rfl⟩, by simp [intOf]; omega⟩
                        · have hdk : decide (j < o) = false := decide_eq_false h1
                          by_cases h2 : t ≤ j
                          · rw [Kkeep.out j (Or.inr h2)] at e2
                            have hdt : decide (t ≤ j) = true := decide_eq_true h2
                            obtain ⟨v, hv⟩ : ∃ v, x.mem.getD j 0 = v := ⟨_, rfl⟩
                            rw [hv] at e1 e2
                            clear hv
                            go_wp2
                            go_quiet (fail)
                            go_wp2
                            refine ⟨⟨j + 1, _, hlt, by go_num, rfl⟩, by simp [intOf]; omega⟩
                          · have hdt : decide (t ≤ j) = false := decide_eq_false h2
                            clear e1 e2
                            go_wp2
                            go_quiet (fail)
                            go_wp2
                            refine ⟨⟨j + 1, _, hlt, by go_num, rfl⟩, by simp [intOf]; omega⟩
                      · obtain rfl : j = N := by omega
                        go_wp2_with ((go_at_call 14; refine (Fl.live_any _).mono ?_; rintro e w9 ⟨rfl, hb9⟩; have Kb9 := Aside0.mk hb9; clear hb9))
                        go_ret
                        exact ⟨rfl, below_then (below_then Kb2.out Kb2.out.size (pw_below_drewN Kb10.out _)) (below_then Kb2.out Kb2.out.size (pw_below_drewN Kb10.out _)).size Kb9.out⟩
                · have hzm := hkeep.2 hq
                  have Kkeep : Aside0 (∀ k, (k < 0 ∨ 0 ≤ k) → z.mem.getD k 0 = x.mem.getD k 0) := ⟨fun k _ => congrArg (fun l => l.getD k 0) hzm⟩
                  have hq1 : (h == 0) = false := by simp; omega
                  have hq2 : (h == 40) = false := by simp; omega
                  clear hkeep hzm hq
                  refine Kcall.out.mono ?_
                  rintro e w7 ⟨rfl, hF7, hch7⟩
                  clear d1 d2 a0 a1 a2 a3
                  have K7 := Aside0.mk hF7
                  have KO7 := Aside0.mk (Fl.ownB_ch KO6.out hch7 KM.out.lt.1 KM.out.lt.2.1 KM.out.lt.2.2.1 KM.out.lt.2.2.2)
                  have Kb7 : Aside0 (Below w2.heap.size w2 w7) := ⟨Kb6.out.trans hch7.below⟩
                  have d1 := pw_cell_below Kb7.out Kd1.out
                  have d2 := pw_cell_below Kb7.out Kd2.out
                  have a0 := pw_cell_below Kb7.out Ka0.out
                  have a1 := pw_cell_below Kb7.out Ka1.out
                  have a2 := pw_cell_below Kb7.out Ka2.out
                  have a3 := pw_cell_below Kb7.out Ka3.out
                  clear hF7 hch7
                  go_wp2_with (first | (go_at_call 24; (first | (refine (Fl.boot_any K7.out).mono ?_) | (refine (Fl.boot_any (K7.out.drewN _)).mono ?_)); rintro e w8 ⟨rfl, hF8, hch8⟩; have K8 := Aside0.mk hF8; have KO8 : Aside0 (Row.OwnB w8 wr.heap.size (.slice A5 N c5) x.mem) := ⟨Fl.ownB_ch (by first | exact KO7.out | exact KO7.out.below (pw_below_drewN (Below.refl _ _) _)) hch8 KM.out.lt.1 KM.out.lt.2.1 KM.out.lt.2.2.1 KM.out.lt.2.2.2⟩; have Kb8 : Aside0 (Below w2.heap.size w2 w8) := ⟨Below.trans (by first | exact Kb7.out | exact pw_below_drewN Kb7.out _) hch8.below⟩; clear hF8 hch8) | (go_at_call 19; refine (Fl.size_any K8.out).mono ?_; rintro e w' ⟨rfl, rfl⟩; rw [Kzl.out]) | (go_at_call 18; refine (Fl.read_any K8.out (by rw [Kzl.out]; have := KNb.out; omega) 0 N (by decide) (by have := KNb.out; omega)).mono ?_; rw [Krd2.out]; rintro e w10 ⟨v10, rfl, hO10, hb10⟩; obtain ⟨A10, c10, hv10, -, -⟩ := Row.OwnB.slice hO10; rw [Kzl2.out] at hv10; subst hv10; have KO10 := Aside0.mk hO10; have KO8b := Aside0.mk (KO8.out.below hb10); have Kb10 : Aside0 (Below w2.heap.size w2 w10) := ⟨below_then Kb8.out K8.out.size hb10⟩; clear hO10 hb10) | (go_at_call 11; refine (Fl.num_any _ _).mono ?_; rintro e w' ⟨rfl, rfl⟩))
                  obtain ⟨-, -, hCw⟩ := Row.OwnB.reads KO8b.out
                  obtain ⟨-, -, hCn⟩ := Row.OwnB.reads KO10.out
                  rw [← KN.out] at hCw
                  rw [Kzl2.out] at hCn
                  obtain ⟨adw, hAw, hcw⟩ := (Kd.reads_of_C (d := (0 : Int)) hCw).2.2 (by have := KNpos.out; omega)
                  obtain ⟨adn, hAn, hcn⟩ := (Kd.reads_of_C (d := (0 : Int)) hCn).2.2 (by have := KNpos.out; omega)
                  subst hAw
                  subst hAn
                  have Kcw := Aside0.mk hcw
                  have Kcn := Aside0.mk hcn
                  clear hCw hCn hcw hcn
                  go_loopw [20] (fun i wl => ∃ k q : Nat, k ≤ N ∧ i = .int .i64 k ∧ wl = w10.drewN q) (fun i _ => N - (intOf i).toNat)
                  case atStart => exact ⟨0, 0, Nat.zero_le _, rfl, rfl⟩
                  case round =>
                    obtain ⟨j, q, hj, rfl, rfl⟩ := hrel
                    by_cases hlt : j < N
                    · have hNN := KNb.out
                      have e1 := Kcw.out j hlt
                      have e2 := Kcn.out j hlt
                      rw [Kkeep.out j (Or.inr (Nat.zero_le _))] at e2
                      obtain ⟨v, hv⟩ : ∃ v, x.mem.getD j 0 = v := ⟨_, rfl⟩
                      rw [hv] at e1 e2
                      clear hv
                      go_wp2
                      go_quiet (fail)
                      go_wp2
                      refine ⟨⟨j + 1, _, hlt, by go_num, rfl⟩, by simp [intOf]; omega⟩
                    · obtain rfl : j = N := by omega
                      go_wp2_with ((go_at_call 14; refine (Fl.live_any _).mono ?_; rintro e w9 ⟨rfl, hb9⟩; have Kb9 := Aside0.mk hb9; clear hb9))
                      go_ret
                      exact ⟨rfl, below_then (below_then Kb2.out Kb2.out.size (pw_below_drewN Kb10.out _)) (below_then Kb2.out Kb2.out.size (pw_below_drewN Kb10.out _)).size Kb9.out⟩
    · have hsm := fun w => Fl.small_any S P B w
      rw [Bool.eq_false_iff.2 hs] at hsm
      have Ksm := Aside0.mk hsm
      clear hsm hs hc
      go_enter Try.func5, Try.ntmps5
      go_wp2_with (first | (go_at_call 15; refine (Ksm.out _).mono ?_; rintro e w1 ⟨rfl, hb1⟩; have hX1 := blk_below KX.out hb1; have d0 : w1.cell? ⟨g, 0, none⟩ = some (.int .i64 S) := (cell_of_row _ _ _ _ _ _ hX1).trans rfl; have d1 : w1.cell? ⟨g, 1, none⟩ = some (.int .i64 P) := (cell_of_row _ _ _ _ _ _ hX1).trans rfl; have d2 : w1.cell? ⟨g, 2, none⟩ = some (.int .i64 B) := (cell_of_row _ _ _ _ _ _ hX1).trans rfl; have KX1 := Aside0.mk hX1; have Kb1 : Aside0 (Below w.heap.size w w1) := ⟨below_then Kal.out Kal.out.size hb1⟩; have KY1 := Aside0.mk (blk_below KY.out hb1); clear hb1 hX1) | (go_at_call 14; refine (Fl.live_any _).mono ?_; rintro e w9 ⟨rfl, hb9⟩; have Kb9 := Aside0.mk hb9; clear hb9))
      go_ret
      exact ⟨rfl, below_then Kb1.out Kb1.out.size Kb9.out⟩
  · have hs : Fl.smallP S P B = true := by unfold Fl.smallP; rw [if_neg hc]
    have hsm := fun w => Fl.small_any S P B w
    rw [hs] at hsm
    have hck := fun w => Fl.rcheck_any S P B w
    obtain ⟨q, hq⟩ : ∃ q, q = Fl.chk S P B := ⟨_, rfl⟩
    rw [← hq] at hck hc
    have hne : (q != 0) = true := by simpa using hc
    have Ksm := Aside0.mk hsm
    have Kck := Aside0.mk hck
    clear hsm hck hs hc hq
    go_enter Try.func5, Try.ntmps5
    go_wp2_with (first | (go_at_call 15; refine (Ksm.out _).mono ?_; rintro e w1 ⟨rfl, hb1⟩; have hX1 := blk_below KX.out hb1; have d0 : w1.cell? ⟨g, 0, none⟩ = some (.int .i64 S) := (cell_of_row _ _ _ _ _ _ hX1).trans rfl; have d1 : w1.cell? ⟨g, 1, none⟩ = some (.int .i64 P) := (cell_of_row _ _ _ _ _ _ hX1).trans rfl; have d2 : w1.cell? ⟨g, 2, none⟩ = some (.int .i64 B) := (cell_of_row _ _ _ _ _ _ hX1).trans rfl; have KX1 := Aside0.mk hX1; have Kb1 : Aside0 (Below w.heap.size w w1) := ⟨below_then Kal.out Kal.out.size hb1⟩; have KY1 := Aside0.mk (blk_below KY.out hb1); clear hb1 hX1) | (go_at_call 13; refine (Kck.out _).mono ?_; rintro e w2 ⟨rfl, hb2⟩; have hX2 := blk_below KX1.out hb2; clear d0 d1 d2; have d0 : w2.cell? ⟨g, 0, none⟩ = some (.int .i64 S) := (cell_of_row _ _ _ _ _ _ hX2).trans rfl; have d1 : w2.cell? ⟨g, 1, none⟩ = some (.int .i64 P) := (cell_of_row _ _ _ _ _ _ hX2).trans rfl; have d2 : w2.cell? ⟨g, 2, none⟩ = some (.int .i64 B) := (cell_of_row _ _ _ _ _ _ hX2).trans rfl; have KX2 := Aside0.mk hX2; have Kb2 : Aside0 (Below w.heap.size w w2) := ⟨below_then Kb1.out Kb1.out.size hb2⟩; have KY2 := Aside0.mk (blk_below KY1.out hb2); clear hb2 hX2) | (go_at_call 14; refine (Fl.live_any _).mono ?_; rintro e w9 ⟨rfl, hb9⟩; have Kb9 := Aside0.mk hb9; clear hb9))
    go_ret
    exact ⟨rfl, below_then Kb2.out Kb2.out.size Kb9.out⟩
end FlashKeeps
end Go.Proofs.Ytepmgkmbmejkjaa
