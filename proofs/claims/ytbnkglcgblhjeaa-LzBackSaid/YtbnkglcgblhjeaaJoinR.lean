/- Blocks are packed: the document's Join. -/
import Derived.Test.YtbnkglcgblhjeaaJoin
import Derived.Test.YtbnkglcgblhjeaaPLzJoinsx4
set_option linter.unusedVariables false
set_option linter.unusedSimpArgs false
namespace Go.Proofs.Ytbnkglcgblhjeaa.Lz
open Go.RowKit Go.Proofs.YtbnkglcgblhjeaaW.PrintWords Go.Proofs.YtbnkglcgblhjeaaW.PrintLast Go.Proofs.YtbnkglcgblhjeaaW.PrintMore
theorem four_any (n j : Int) (w : World) (hj : (if 15 < n then 15 else n) = j) : Calls Try.prog 43 #[.int .i64 n] w fun e w' => e = .returned (.int .i64 j) ∧ w = w' := by
  by_cases h : 15 < n
  · rw [if_pos h] at hj
    subst hj
    go_enter Try.func43, Try.ntmps43
    go_wp2
    go_ret
    exact ⟨rfl, rfl⟩
  · rw [if_neg h] at hj
    subst hj
    go_enter Try.func43, Try.ntmps43
    go_wp2
    go_ret
    exact ⟨rfl, rfl⟩
theorem told_l0 (d : Nat) (hd : d < 255) : ∀ (q k : Nat) (x : List Int), q < k → x.length + q + 1 < 140737488355328 → q < 1000000000 → PLzJoins.portmanteauref05_told.l0 k ((255 * q + d : Nat) : Int) x = some (x ++ (List.replicate q 255 ++ [(d : Int)])) := by
  intro q
  induction q with
  | zero =>
    intro k x hk hx _
    obtain ⟨k, rfl⟩ : ∃ m, k = m + 1 := ⟨k - 1, by omega⟩
    unfold PLzJoins.portmanteauref05_told.l0
    rw [if_neg (by omega), if_pos (by omega)]
    simp only [Nat.mul_zero, Nat.zero_add, List.replicate_zero, List.nil_append]
    rw [show ((d : Int) % 256) = d by omega]
  | succ q ih =>
    intro k x hk hx hq
    obtain ⟨k, rfl⟩ : ∃ m, k = m + 1 := ⟨k - 1, by omega⟩
    unfold PLzJoins.portmanteauref05_told.l0
    rw [if_pos (by omega), if_pos (by omega), show wrap64 (((255 * (q + 1) + d : Nat) : Int) - 255) = ((255 * q + d : Nat) : Int) by unfold wrap64; omega, ih k (x ++ [255]) (by omega) (by simp; omega) (by omega)]
    rw [List.append_assoc, List.replicate_succ]
    simp
theorem told_f (n : Nat) (hn : n ≤ 4000000) : PLzJoins.portmanteauref05_told.f (n / 255 + 1) (n : Int) = some (tl n) := by
  unfold PLzJoins.portmanteauref05_told.f tl
  by_cases h : n < 15
  · rw [if_pos (by omega), if_pos (by omega)]
  · rw [if_neg (by omega), if_neg (by omega), show wrap64 ((n : Int) - 15) = ((n - 15 : Nat) : Int) by unfold wrap64; omega, show ((n : Int) - 15).toNat = n - 15 by omega]
    obtain ⟨q, d, hd, he⟩ : ∃ q d, d < 255 ∧ n - 15 = 255 * q + d := ⟨(n - 15) / 255, (n - 15) % 255, Nat.mod_lt _ (by decide), by omega⟩
    rw [he, told_l0 d hd q _ [] (by omega) (by simp; omega) (by omega), told_q q d hd, List.nil_append]
theorem told_any (n : Nat) (hn : n ≤ 4000000) (w : World) :
    Calls Try.prog 44 #[.int .i64 n] w fun e w' => ∃ A c, e = .returned (.slice A (tl n).length c) ∧ Kd.C (Kd.int .u8) w' A (tl n).length (tl n) ∧ Below w.heap.size w w' := by
  refine (PLzJoins.portmanteauref05_told.calls (n / 255 + 1) n (tl n) w (told_f n hn)).mono fun e w' ⟨v, he, hR, hb⟩ => ?_
  obtain ⟨A, c, rfl, -, hC⟩ := Kd.R_reads hR
  exact ⟨A, c, he, hC, hb⟩
theorem wrong_iff (s : Sq) (last : Bool) (size : Int) :
    (wrongP s last size = 1 ∧ ((last = true ∧ (s.2.1 ≠ 0 ∨ (s.2.1 = 0 ∧ s.2.2 ≠ 0))) ∨ (last = false ∧ (s.2.1 < 1 ∨ (1 ≤ s.2.1 ∧ 65535 < s.2.1) ∨ (1 ≤ s.2.1 ∧ s.2.1 ≤ 65535 ∧ s.2.2 < 4))))) ∨
    (wrongP s last size = 9 ∧ ((last = true ∧ s.2.1 = 0 ∧ s.2.2 = 0) ∨ (last = false ∧ 1 ≤ s.2.1 ∧ s.2.1 ≤ 65535 ∧ 4 ≤ s.2.2)) ∧ size + s.1.length < s.2.1) ∨
    (wrongP s last size = 2 ∧ ((last = true ∧ s.2.1 = 0 ∧ s.2.2 = 0) ∨ (last = false ∧ 1 ≤ s.2.1 ∧ s.2.1 ≤ 65535 ∧ 4 ≤ s.2.2)) ∧ s.2.1 ≤ size + s.1.length ∧ (1048576 - size < s.1.length ∨ (s.1.length ≤ 1048576 - size ∧ 1048576 - size - s.1.length < s.2.2))) ∨
    (wrongP s last size = 0 ∧ ((last = true ∧ s.2.1 = 0 ∧ s.2.2 = 0) ∨ (last = false ∧ 1 ≤ s.2.1 ∧ s.2.1 ≤ 65535 ∧ 4 ≤ s.2.2)) ∧ s.2.1 ≤ size + s.1.length ∧ (s.1.length ≤ 1048576 - size ∧ s.2.2 ≤ 1048576 - size - s.1.length)) := by
  unfold wrongP
  split
  · rename_i h
    refine Or.inl ⟨rfl, ?_⟩
    rcases h with ⟨h, h2⟩ | ⟨h, h2⟩
    · exact Or.inl ⟨h, by omega⟩
    · exact Or.inr ⟨h, by omega⟩
  · rename_i h
    have h' : (last = true ∧ s.2.1 = 0 ∧ s.2.2 = 0) ∨ (last = false ∧ 1 ≤ s.2.1 ∧ s.2.1 ≤ 65535 ∧ 4 ≤ s.2.2) := by
      cases last
      · refine Or.inr ⟨rfl, ?_⟩; simp at h; omega
      · refine Or.inl ⟨rfl, ?_⟩; simp at h; omega
    split
    · rename_i h9
      exact Or.inr (Or.inl ⟨rfl, h', h9⟩)
    · split
      · exact Or.inr (Or.inr (Or.inl ⟨rfl, h', by omega, by omega⟩))
      · exact Or.inr (Or.inr (Or.inr ⟨rfl, h', by omega, by omega⟩))
set_option maxHeartbeats 4000000 in
set_option maxRecDepth 100000 in
theorem rjoin_any (w : World) (l : List Sq) (A : Option Addr) (c : Nat) (hC : Kd.C kS w A l.length l) (hc : l.length ≤ c) (hf : Fine l) (hl : l.length ≤ 2000000) :
    Calls Try.prog 23 #[.slice A l.length c] w fun e w' => ∃ v, e = .returned (.tuple #[v, .int .i64 (joinA l).2]) ∧ Row.OwnB w' w.heap.size v (joinA l).1 ∧ Below w.heap.size w w' := by
  by_cases h0 : l = []
  · subst h0
    clear hC hf
    unfold joinA
    rw [if_pos rfl]
    go_enter Try.func23, Try.ntmps23
    go_wp2
    go_ret2
    exact ⟨_, rfl, Row.OwnB.nil _ _, Below.refl _ _⟩
  unfold joinA
  rw [if_neg h0]
  obtain ⟨n, hn⟩ : ∃ n, n = l.length := ⟨_, rfl⟩
  have hn0 : 0 < n := by rw [hn]; exact List.length_pos_iff.2 h0
  rw [← hn] at hC hc hl ⊢
  have KC := Aside0.mk hC
  have Kf := Aside0.mk hf
  have Kn := Aside0.mk hn
  have hne0 : ((n : Int) == 0) = false := by simp; omega
  clear hC hf hn h0
  go_enter Try.func23, Try.ntmps23
  go_wp2
  go_loopw [4, 5, 6] (fun u z i wr => ∃ (out : List Int) (size : Int) (k n4 : Nat) (A4 : Option Addr) (c4 : Nat), k ≤ n ∧ i = .int .i64 k ∧ z = .int .i64 size ∧ u = .slice A4 n4 c4 ∧ Aside0 (JI w l wr (.slice A4 n4 c4) out size k)) (fun _ _ i _ => n - (intOf i).toNat)
  case atStart => exact ⟨[], 0, 0, 0, none, 0, Nat.zero_le _, rfl, rfl, rfl, ⟨⟨Row.OwnB.nil _ _, Below.refl _ _, by decide, by decide, by simp, by simp⟩⟩⟩
  case round =>
    obtain ⟨out, size, k, n4, A4, c4, hk, rfl, rfl, rfl, KJ⟩ := hrel
    have hs0 := KJ.out.size0
    have hs1 := KJ.out.size1
    by_cases hlt : k < n
    · obtain ⟨ad, B, d, s, hs, rfl, x0, x1, x2, y0, y1⟩ := at_kS KC.out k hlt
      obtain ⟨lit, off, len⟩ := s
      simp only at x0 x1 x2 y0 y1
      replace x0 := pw_cell_below KJ.out.below x0
      replace x1 := pw_cell_below KJ.out.below x1
      replace x2 := pw_cell_below KJ.out.below x2
      have KLw := Aside0.mk y1
      have hdrop : l.drop k = (lit, off, len) :: l.drop (k + 1) := by
        have hkl : k < l.length := by rw [← Kn.out]; exact hlt
        rw [List.drop_eq_getElem_cons hkl]
        congr 1
        rw [List.getElem?_eq_getElem hkl] at hs
        exact Option.some.inj hs
      obtain ⟨f1, f2, f3, f4⟩ := Kf.out (lit, off, len) (List.mem_of_getElem? hs)
      simp only at f1 f2 f3 f4
      obtain ⟨last, hlast⟩ : ∃ last, last = decide (l.drop (k + 1) = []) := ⟨_, rfl⟩
      have hlast2 : ((k : Int) == (n : Int) - 1) = last := by
        rw [hlast, Bool.eq_iff_iff, decide_eq_true_iff, List.drop_eq_nil_iff, ← Kn.out]
        simp
        omega
      have hal : Below w.heap.size w (wr.alloc (.cells #[.slice B lit.length d, .int .i64 off, .int .i64 len] 44)) := below_then KJ.out.below KJ.out.below.size (below_alloc (Below.refl _ _) _)
      have heq2 := KJ.out.eq
      rw [hdrop] at heq2
      simp only [joinP] at heq2
      rw [← hlast] at heq2
      obtain ⟨er, her⟩ : ∃ er, er = wrongP (lit, off, len) last size := ⟨_, rfl⟩
      rw [← her] at heq2
      have Keq := Aside0.mk heq2
      have Kl := Aside0.mk hlast
      have Kal := Aside0.mk hal
      have hor := wrong_iff (lit, off, len) last size
      rw [← her] at hor
      simp only at hor
      have Ker := Aside0.mk her
      have f3a := f3.1
      have f3b := f3.2
      have f4a := f4.1
      have f4b := f4.2
      clear heq2 hlast y0 y1 hal f2 hs hdrop her f3 f4
      have hfail : er ≠ 0 → Aside0 (joinP [] 0 l = ([], er)) := fun h => ⟨by rw [Keq.out, if_neg h]⟩
      rcases hor with ⟨rfl, hcase⟩ | ⟨rfl, hcase, h9⟩ | ⟨rfl, hcase, h9, h2⟩ | ⟨rfl, hcase, h9, h2⟩
      · have Kfin := hfail (by decide)
        clear hfail
        rcases hcase with ⟨rfl, ho | ⟨rfl, ho⟩⟩ | ⟨rfl, ho | ⟨ho1, ho⟩ | ⟨ho1, ho2, ho⟩⟩
        · have hb : (off != 0) = true := by simpa using ho
          go_wp2
          go_ret2
          rw [Kfin.out]
          exact ⟨_, rfl, Row.OwnB.nil _ _, Kal.out⟩
        · have hb : (len != 0) = true := by simpa using ho
          go_wp2
          go_ret2
          rw [Kfin.out]
          exact ⟨_, rfl, Row.OwnB.nil _ _, Kal.out⟩
        · go_wp2
          go_ret2
          rw [Kfin.out]
          exact ⟨_, rfl, Row.OwnB.nil _ _, Kal.out⟩
        · go_wp2
          go_ret2
          rw [Kfin.out]
          exact ⟨_, rfl, Row.OwnB.nil _ _, Kal.out⟩
        · go_wp2
          go_ret2
          rw [Kfin.out]
          exact ⟨_, rfl, Row.OwnB.nil _ _, Kal.out⟩
      · have Kfin := hfail (by decide)
        clear hfail
        rcases hcase with ⟨rfl, rfl, rfl⟩ | ⟨rfl, ho1, ho2, ho3⟩
        · omega
        · go_wp2
          go_ret2
          rw [Kfin.out]
          exact ⟨_, rfl, Row.OwnB.nil _ _, Kal.out⟩
      · have Kfin := hfail (by decide)
        clear hfail
        rcases hcase with ⟨rfl, rfl, rfl⟩ | ⟨rfl, ho1, ho2, ho3⟩
        · rcases h2 with h2 | ⟨h2, h3⟩
          · go_wp2
            go_ret2
            rw [Kfin.out]
            exact ⟨_, rfl, Row.OwnB.nil _ _, Kal.out⟩
          · omega
        · rcases h2 with h2 | ⟨h2, h3⟩
          · go_wp2
            go_ret2
            rw [Kfin.out]
            exact ⟨_, rfl, Row.OwnB.nil _ _, Kal.out⟩
          · go_wp2
            go_ret2
            rw [Kfin.out]
            exact ⟨_, rfl, Row.OwnB.nil _ _, Kal.out⟩
      · clear hfail
        have Kjn : Aside0 (joinP [] 0 l = joinP (out ++ seg (lit, off, len) last) (size + lit.length + len) (l.drop (k + 1))) := ⟨by have := Keq.out; rw [if_pos rfl] at this; exact this⟩
        clear Keq
        obtain ⟨sb, hsb⟩ : ∃ sb, sb = wr.heap.size := ⟨_, rfl⟩
        have Ksb := Aside0.mk hsb
        obtain ⟨w1, hw1⟩ : ∃ w1, w1 = wr.alloc (.cells #[.slice B lit.length d, .int .i64 off, .int .i64 len] 44) := ⟨_, rfl⟩
        have KS1 : Aside0 (w1.heap[sb]? = some (.cells #[.slice B lit.length d, .int .i64 off, .int .i64 len] 44 (0, 0))) := ⟨by rw [hw1, hsb]; exact heap_alloc_new wr _⟩
        have KB1 : Aside0 (Below w.heap.size w w1) := ⟨by rw [hw1]; exact Kal.out⟩
        have KO1 : Aside0 (Row.OwnB w1 w.heap.size (.slice A4 n4 c4) out) := ⟨by rw [hw1]; exact KJ.out.own.below (below_alloc (Below.refl _ _) _)⟩
        have Ksz1 : Aside0 (w1.heap.size = sb + 1) := ⟨by rw [hw1, hsb]; simp⟩
        have Kw1 := Aside0.mk hw1
        clear hw1 hsb
        obtain ⟨j8, hj8⟩ : ∃ j8, (if 15 < (lit.length : Int) then 15 else (lit.length : Int)) = j8 := ⟨_, rfl⟩
        have hj8b : 0 ≤ j8 ∧ j8 ≤ 15 ∧ j8 = min (lit.length : Int) 15 := by rw [← hj8]; split <;> omega
        obtain ⟨hj8a, hj8c, hj8d⟩ := hj8b
        have Kj8 := Aside0.mk hj8d
        have K4 := Aside0.mk (fun w => four_any (lit.length : Int) j8 w hj8)
        have Kn4 : Aside0 (n4 = out.length) := ⟨(Row.OwnB.reads KJ.out.own).1⟩
        have hol : out.length ≤ 20000000000000 := by have := KJ.out.len; omega
        clear hj8d hj8
        rcases hcase with ⟨rfl, rfl, rfl⟩ | ⟨rfl, ho1, ho2, ho3⟩
        · obtain ⟨tk, htk⟩ : ∃ tk, 16 * j8 = tk := ⟨_, rfl⟩
          have htk0 : 0 ≤ tk := by omega
          have htk1 : tk ≤ 255 := by omega
          have Ktk : Aside0 (tk = tok (lit, 0, 0) true) := ⟨by rw [← htk]; unfold tok; rw [← Kj8.out]; simp⟩
          have Ktk' := Aside0.mk htk
          have Kll : Aside0 (Kd.C (Kd.int .u8) w B lit.length lit) := KLw
          go_wp2_with (first | (go_at_call 43; refine (K4.out _).mono ?_; rintro e w' ⟨rfl, rfl⟩) | ((with_reducible refine gate_builtin (b := .append) (xs := #[.tmp 104, .tmp 107]) rfl ?_); apply Aside0.out))
          refine ⟨?_⟩
          rw [← Ksb.out, ← Kw1.out]
          refine Kd.R_append (Kd.int .u8) (w0 := w) (W := w1) w.heap.size rfl (.tmp 104) (.tmp 107) 22 5 (.int .u8 0) 1 rfl Try.underlying22 Row.info8 rfl (by decide) (by decide) (.slice A4 n4 c4) out tk [.int .u8 tk] (fun _ => True) (fun _ => False) rfl (by rw [Ksz1.out]; rfl) rfl (fun _ h => h.elim) (fun _ _ => trivial) KO1.out KB1.out KB1.out.size (by omega) ?_
          intro v2 w2 hR2 hB2 hg2 hat2
          have hS2 : w2.heap[sb]? = _ := (hg2.block sb (blk_lt KS1.out) (fun e => box_ne KO1.out KS1.out e.symm)).trans KS1.out
          have hq0 : w2.cell? ⟨sb, 0, none⟩ = some (.slice B lit.length d) := (cell_of_row _ _ _ _ _ _ hS2).trans rfl
          obtain ⟨A2, c2, rfl⟩ := Kd.R_slice hR2
          obtain ⟨n2, hn2⟩ : ∃ n2, n2 = (out ++ [tk]).length := ⟨_, rfl⟩
          rw [← hn2] at hR2 ⊢
          have hn2b : n2 ≤ 20000000000001 := by rw [hn2]; simp; omega
          have Kn2 := Aside0.mk hn2
          have KO2 : Aside0 (Row.OwnB w2 w.heap.size (.slice A2 n2 c2) (out ++ [tk])) := ⟨hR2⟩
          have KB2 := Aside0.mk hB2
          have KS2 := Aside0.mk hS2
          have Ktl : Aside0 ((tl (lit.length : Int)).length ≤ lit.length / 255 + 1) := ⟨by have := tl_length (lit.length : Int); simpa using this⟩
          have htlb : (tl (lit.length : Int)).length ≤ 20000 := by have := Ktl.out; omega
          clear hR2 hB2 hg2 hat2 hS2 hn2 htk hne0 hj8a hj8c hs1
          go_wp2
          refine start_ (n := 10) (S := fun w' => w'.cell? ⟨sb, 0, none⟩ = some (.slice B lit.length d)) (ds := [8]) #[false, false, false, false, false, false, false, false, false, false] (by kernel_rfl) rfl rfl ((show w2.cell? _ = _ from hq0)) (fun hHeld => ?_)
          refine pure_ (i := 0) (N := some 109) (v := ?_) (a' := ?_) #[true, false, false, false, false, false, false, false, false, false] rfl rfl (by kernel_rfl) (fun _ _ _ h => h) (Or.inl ⟨by rfl, ?_⟩) ?_ ?_
          rotate_left
          · intro w'
            go_simp
            with_reducible rfl
          rotate_left
          · simp only [Act.put, List.setIfInBounds_toArray, List.set_cons_zero, List.set_cons_succ, i64_w, i32_w]
            rfl
          refine pure_ (i := 1) (N := some 110) (v := ?_) (a' := ?_) #[true, true, false, false, false, false, false, false, false, false] rfl rfl (by kernel_rfl) (fun _ _ _ h => h) (Or.inl ⟨by rfl, ?_⟩) ?_ ?_
          rotate_left
          · intro w'
            go_simp
            with_reducible rfl
          rotate_left
          · simp only [Act.put, List.setIfInBounds_toArray, List.set_cons_zero, List.set_cons_succ, i64_w, i32_w]
            rfl
          refine pure_ (i := 6) (N := some 115) (v := ?_) (a' := ?_) #[true, true, false, false, false, false, true, false, false, false] rfl rfl (by kernel_rfl) (fun _ _ _ h => h) (Or.inl ⟨by rfl, ?_⟩) ?_ ?_
          rotate_left
          · intro w'
            go_simp
            with_reducible rfl
          rotate_left
          · simp only [Act.put, List.setIfInBounds_toArray, List.set_cons_zero, List.set_cons_succ, i64_w, i32_w]
            rfl
          refine take_ (i := 2) (N := some 111) (v := ?_) (a' := ?_) #[true, true, true, false, false, false, true, false, false, false] rfl rfl (by kernel_rfl) (fun _ _ _ h => h) (Or.inl ⟨by rfl, ?_⟩) hHeld ?_ ?_
          rotate_left
          · intro w' s0
            go_simp
            with_reducible rfl
          rotate_left
          · simp only [Act.put, List.setIfInBounds_toArray, List.set_cons_zero, List.set_cons_succ, i64_w, i32_w]
            rfl
          refine pure_ (i := 3) (N := some 112) (v := ?_) (a' := ?_) #[true, true, true, true, false, false, true, false, false, false] rfl rfl (by kernel_rfl) (fun _ _ _ h => h) (Or.inl ⟨by rfl, ?_⟩) ?_ ?_
          rotate_left
          · intro w'
            go_simp
            with_reducible rfl
          rotate_left
          · simp only [Act.put, List.setIfInBounds_toArray, List.set_cons_zero, List.set_cons_succ, i64_w, i32_w]
            rfl
          refine take_ (i := 7) (N := some 116) (v := ?_) (a' := ?_) #[true, true, true, true, false, false, true, true, false, false] rfl rfl (by kernel_rfl) (fun _ _ _ h => h) (Or.inl ⟨by rfl, ?_⟩) hHeld ?_ ?_
          rotate_left
          · intro w' s0
            go_simp
            with_reducible rfl
          rotate_left
          · simp only [Act.put, List.setIfInBounds_toArray, List.set_cons_zero, List.set_cons_succ, i64_w, i32_w]
            rfl
          refine one_ (i := 4) (N := some 113) #[true, true, true, true, true, false, true, true, false, false] rfl rfl (by kernel_rfl) (by decide) (fun K hK => ?_)
          refine goes_ Try.func44 (by kernel_rfl) rfl #[.int .i64 lit.length] (by rfl) rfl rfl (by simp only [List.map_toArray, List.map_cons, List.map_nil]; rfl) ?_
          with_reducible refine (told_any lit.length f1 w2.drew).mono ?_
          rintro e w3 ⟨At, ct, rfl, hCt, hb3⟩
          refine ⟨_, rfl, ?_⟩
          have hS3 := blk_below (show w2.drew.heap[sb]? = _ from KS2.out) hb3
          have hp0 : w3.cell? ⟨sb, 0, none⟩ = some (.slice B lit.length d) := (cell_of_row _ _ _ _ _ _ hS3).trans rfl
          have KCt := Aside0.mk hCt
          have KB3 : Aside0 (Below w.heap.size w w3) := ⟨below_then KB2.out.drew KB2.out.size hb3⟩
          have KO3 : Aside0 (Row.OwnB w3 w.heap.size (.slice A2 n2 c2) (out ++ [tk])) := ⟨Row.OwnB.below (Row.OwnB.below KO2.out (Below.refl _ _).drew) hb3⟩
          have KS3 := Aside0.mk hS3
          clear hCt hb3 hS3
          refine hK.out _ _ (hp0) (fun hHeld => ?_)
          clear hK K
          refine norm_ (a' := ?_) ?_ ?_
          rotate_left
          · show Act.put _ (some 113) _ = _
            simp only [Act.put, List.setIfInBounds_toArray, List.set_cons_zero, List.set_cons_succ, i64_w, i32_w]
            rfl
          refine one_ (i := 5) (N := some 114) #[true, true, true, true, true, true, true, true, false, false] rfl rfl (by kernel_rfl) (by decide) (fun K hK => ?_)
          refine app_rows_step (w0 := w) w.heap.size (by rfl) (.tmp 109) (.tmp 113) rfl (.slice A2 n2 c2) (out ++ [tk]) (tl (lit.length : Int)) At _ ct rfl rfl KO3.out KCt.out KB3.out KB3.out.size (by rw [← Kn2.out]; omega) ?_; intro v4 w4 hO4 hB4 hg4 hat4; have hS4 : w4.heap[sb]? = _ := (hg4.block sb (blk_lt KS3.out) (fun e => box_ne KO3.out KS3.out e.symm)).trans KS3.out; have hp4 : w4.cell? ⟨sb, 0, none⟩ = some (.slice B lit.length d) := (cell_of_row _ _ _ _ _ _ hS4).trans rfl; obtain ⟨A5, c5, rfl⟩ := Kd.R_slice hO4; obtain ⟨n5, hn5⟩ : ∃ n5, n5 = (out ++ [tk] ++ tl (lit.length : Int)).length := ⟨_, rfl⟩; rw [← hn5] at hO4 ⊢; have hn5b : n5 ≤ 20000000030001 := (by rw [hn5, List.length_append, ← Kn2.out]; omega); have Kn5 := Aside0.mk hn5; have KO4 : Aside0 (Row.OwnB w4 w.heap.size (.slice A5 n5 c5) (out ++ [tk] ++ tl (lit.length : Int))) := ⟨hO4⟩; have KB4 := Aside0.mk hB4; have KS4 := Aside0.mk hS4; clear hO4 hB4 hg4 hat4 hS4 hn5
          refine hK.out _ _ (hp4) (fun hHeld => ?_)
          clear hK K
          refine norm_ (a' := ?_) ?_ ?_
          rotate_left
          · show Act.put _ (some 114) _ = _
            simp only [Act.put, List.setIfInBounds_toArray, List.set_cons_zero, List.set_cons_succ, i64_w, i32_w]
            rfl
          refine last_ (i := 8) (N := some 117) #[true, true, true, true, true, true, true, true, true, false] rfl rfl (by kernel_rfl) (by decide) (fun K hK => ?_)
          refine app_rows_step (w0 := w) w.heap.size (by rfl) (.tmp 114) (.tmp 116) rfl (.slice A5 n5 c5) (out ++ [tk] ++ tl (lit.length : Int)) lit B _ d rfl rfl KO4.out (Kd.C_below KLw.out KB4.out) KB4.out KB4.out.size (by rw [← Kn5.out]; omega) ?_; intro v6 w6 hO6 hB6 hg6 hat6; have hS6 : w6.heap[sb]? = _ := (hg6.block sb (blk_lt KS4.out) (fun e => box_ne KO4.out KS4.out e.symm)).trans KS4.out; obtain ⟨A7, c7, rfl⟩ := Kd.R_slice hO6; obtain ⟨zs, hzs⟩ : ∃ zs, zs = out ++ [tk] ++ tl (lit.length : Int) ++ lit := ⟨_, rfl⟩; obtain ⟨n7, hn7⟩ : ∃ n7, n7 = zs.length := ⟨_, rfl⟩; rw [← hzs, ← hn7] at hO6 ⊢; have hn7b : n7 ≤ 20000004030001 := (by rw [hn7, hzs, List.length_append, ← Kn5.out]; omega); have Kn7 := Aside0.mk hn7; have Kzs := Aside0.mk hzs; have KO6 : Aside0 (Row.OwnB w6 w.heap.size (.slice A7 n7 c7) zs) := ⟨hO6⟩; have KB6 := Aside0.mk hB6; have KS6 := Aside0.mk hS6; clear hO6 hB6 hg6 hat6 hS6 hn7 hzs
          refine hK.out _ _ ?_
          clear hK K
          refine norm_ (a' := ?_) ?_ ?_
          rotate_left
          · show Act.put _ (some 117) _ = _
            simp only [Act.put, List.setIfInBounds_toArray, List.set_cons_zero, List.set_cons_succ, i64_w, i32_w]
            rfl
          refine pure_ (i := 9) (N := some 4) (v := ?_) (a' := ?_) #[true, true, true, true, true, true, true, true, true, true] rfl rfl (by kernel_rfl) (fun _ _ _ h => h) (Or.inl ⟨by rfl, ?_⟩) ?_ ?_
          rotate_left
          · intro w'
            go_simp
            with_reducible rfl
          rotate_left
          · simp only [Act.put, List.setIfInBounds_toArray, List.set_cons_zero, List.set_cons_succ, i64_w, i32_w]
            rfl
          refine done_ (by kernel_rfl) ?_
          go_wp2
          have h2b := h2.2
          refine ⟨⟨zs, size + lit.length, k + 1, n7, A7, c7, hlt, by go_num, rfl, rfl, ⟨JI_next KJ.out Kjn.out (by simp) (by simp only; omega) (by simp) f1 (by rw [Kzs.out, Ktk.out]; unfold seg segT; simp) KO6.out KB6.out⟩⟩, by simp [intOf]; omega⟩
        · obtain ⟨j15, hj15⟩ : ∃ j15, (if 15 < len - 4 then 15 else len - 4) = j15 := ⟨_, rfl⟩
          have hj15b : 0 ≤ j15 ∧ j15 ≤ 15 ∧ j15 = min (len - 4) 15 := by rw [← hj15]; split <;> omega
          obtain ⟨hj15a, hj15c, hj15d⟩ := hj15b
          have K15 := Aside0.mk (fun w => four_any (len - 4) j15 w hj15)
          obtain ⟨tk, htk⟩ : ∃ tk, 16 * j8 + j15 = tk := ⟨_, rfl⟩
          have htk0 : 0 ≤ tk := by omega
          have htk1 : tk ≤ 255 := by omega
          have Ktk : Aside0 (tk = tok (lit, off, len) false) := ⟨by rw [← htk]; unfold tok; rw [← Kj8.out]; simp only []; rw [← hj15d]; simp⟩
          obtain ⟨h2a, h2b⟩ := h2
          have tokA : True := trivial
          clear hj15d hj15
          have Ktk' := Aside0.mk htk
          have Kll : Aside0 (Kd.C (Kd.int .u8) w B lit.length lit) := KLw
          go_wp2_with (first | (go_at_call 43; have _t := tokA; refine (K4.out _).mono ?_; rintro e w' ⟨rfl, rfl⟩; clear tokA) | (go_at_call 43; refine (K15.out _).mono ?_; rintro e w' ⟨rfl, rfl⟩) | ((with_reducible refine gate_builtin (b := .append) (xs := #[.tmp 104, .tmp 107]) rfl ?_); apply Aside0.out))
          refine ⟨?_⟩
          rw [← Ksb.out, ← Kw1.out]
          refine Kd.R_append (Kd.int .u8) (w0 := w) (W := w1) w.heap.size rfl (.tmp 104) (.tmp 107) 22 5 (.int .u8 0) 1 rfl Try.underlying22 Row.info8 rfl (by decide) (by decide) (.slice A4 n4 c4) out tk [.int .u8 tk] (fun _ => True) (fun _ => False) rfl (by rw [Ksz1.out]; rfl) rfl (fun _ h => h.elim) (fun _ _ => trivial) KO1.out KB1.out KB1.out.size (by omega) ?_
          intro v2 w2 hR2 hB2 hg2 hat2
          have hS2 : w2.heap[sb]? = _ := (hg2.block sb (blk_lt KS1.out) (fun e => box_ne KO1.out KS1.out e.symm)).trans KS1.out
          have hq0 : w2.cell? ⟨sb, 0, none⟩ = some (.slice B lit.length d) := (cell_of_row _ _ _ _ _ _ hS2).trans rfl
          obtain ⟨A2, c2, rfl⟩ := Kd.R_slice hR2
          obtain ⟨n2, hn2⟩ : ∃ n2, n2 = (out ++ [tk]).length := ⟨_, rfl⟩
          rw [← hn2] at hR2 ⊢
          have hn2b : n2 ≤ 20000000000001 := by rw [hn2]; simp; omega
          have Kn2 := Aside0.mk hn2
          have KO2 : Aside0 (Row.OwnB w2 w.heap.size (.slice A2 n2 c2) (out ++ [tk])) := ⟨hR2⟩
          have KB2 := Aside0.mk hB2
          have KS2 := Aside0.mk hS2
          have Ktl : Aside0 ((tl (lit.length : Int)).length ≤ lit.length / 255 + 1) := ⟨by have := tl_length (lit.length : Int); simpa using this⟩
          have htlb : (tl (lit.length : Int)).length ≤ 20000 := by have := Ktl.out; omega
          clear hR2 hB2 hg2 hat2 hS2 hn2 htk hne0 hj8a hj8c hs1
          go_wp2
          refine start_ (n := 10) (S := fun w' => w'.cell? ⟨sb, 0, none⟩ = some (.slice B lit.length d)) (ds := [8]) #[false, false, false, false, false, false, false, false, false, false] (by kernel_rfl) rfl rfl ((show w2.cell? _ = _ from hq0)) (fun hHeld => ?_)
          refine pure_ (i := 0) (N := some 109) (v := ?_) (a' := ?_) #[true, false, false, false, false, false, false, false, false, false] rfl rfl (by kernel_rfl) (fun _ _ _ h => h) (Or.inl ⟨by rfl, ?_⟩) ?_ ?_
          rotate_left
          · intro w'
            go_simp
            with_reducible rfl
          rotate_left
          · simp only [Act.put, List.setIfInBounds_toArray, List.set_cons_zero, List.set_cons_succ, i64_w, i32_w]
            rfl
          refine pure_ (i := 1) (N := some 110) (v := ?_) (a' := ?_) #[true, true, false, false, false, false, false, false, false, false] rfl rfl (by kernel_rfl) (fun _ _ _ h => h) (Or.inl ⟨by rfl, ?_⟩) ?_ ?_
          rotate_left
          · intro w'
            go_simp
            with_reducible rfl
          rotate_left
          · simp only [Act.put, List.setIfInBounds_toArray, List.set_cons_zero, List.set_cons_succ, i64_w, i32_w]
            rfl
          refine pure_ (i := 6) (N := some 115) (v := ?_) (a' := ?_) #[true, true, false, false, false, false, true, false, false, false] rfl rfl (by kernel_rfl) (fun _ _ _ h => h) (Or.inl ⟨by rfl, ?_⟩) ?_ ?_
          rotate_left
          · intro w'
            go_simp
            with_reducible rfl
          rotate_left
          · simp only [Act.put, List.setIfInBounds_toArray, List.set_cons_zero, List.set_cons_succ, i64_w, i32_w]
            rfl
          refine take_ (i := 2) (N := some 111) (v := ?_) (a' := ?_) #[true, true, true, false, false, false, true, false, false, false] rfl rfl (by kernel_rfl) (fun _ _ _ h => h) (Or.inl ⟨by rfl, ?_⟩) hHeld ?_ ?_
          rotate_left
          · intro w' s0
            go_simp
            with_reducible rfl
          rotate_left
          · simp only [Act.put, List.setIfInBounds_toArray, List.set_cons_zero, List.set_cons_succ, i64_w, i32_w]
            rfl
          refine pure_ (i := 3) (N := some 112) (v := ?_) (a' := ?_) #[true, true, true, true, false, false, true, false, false, false] rfl rfl (by kernel_rfl) (fun _ _ _ h => h) (Or.inl ⟨by rfl, ?_⟩) ?_ ?_
          rotate_left
          · intro w'
            go_simp
            with_reducible rfl
          rotate_left
          · simp only [Act.put, List.setIfInBounds_toArray, List.set_cons_zero, List.set_cons_succ, i64_w, i32_w]
            rfl
          refine take_ (i := 7) (N := some 116) (v := ?_) (a' := ?_) #[true, true, true, true, false, false, true, true, false, false] rfl rfl (by kernel_rfl) (fun _ _ _ h => h) (Or.inl ⟨by rfl, ?_⟩) hHeld ?_ ?_
          rotate_left
          · intro w' s0
            go_simp
            with_reducible rfl
          rotate_left
          · simp only [Act.put, List.setIfInBounds_toArray, List.set_cons_zero, List.set_cons_succ, i64_w, i32_w]
            rfl
          refine one_ (i := 4) (N := some 113) #[true, true, true, true, true, false, true, true, false, false] rfl rfl (by kernel_rfl) (by decide) (fun K hK => ?_)
          refine goes_ Try.func44 (by kernel_rfl) rfl #[.int .i64 lit.length] (by rfl) rfl rfl (by simp only [List.map_toArray, List.map_cons, List.map_nil]; rfl) ?_
          with_reducible refine (told_any lit.length f1 w2.drew).mono ?_
          rintro e w3 ⟨At, ct, rfl, hCt, hb3⟩
          refine ⟨_, rfl, ?_⟩
          have hS3 := blk_below (show w2.drew.heap[sb]? = _ from KS2.out) hb3
          have hp0 : w3.cell? ⟨sb, 0, none⟩ = some (.slice B lit.length d) := (cell_of_row _ _ _ _ _ _ hS3).trans rfl
          have KCt := Aside0.mk hCt
          have KB3 : Aside0 (Below w.heap.size w w3) := ⟨below_then KB2.out.drew KB2.out.size hb3⟩
          have KO3 : Aside0 (Row.OwnB w3 w.heap.size (.slice A2 n2 c2) (out ++ [tk])) := ⟨Row.OwnB.below (Row.OwnB.below KO2.out (Below.refl _ _).drew) hb3⟩
          have KS3 := Aside0.mk hS3
          clear hCt hb3 hS3
          refine hK.out _ _ (hp0) (fun hHeld => ?_)
          clear hK K
          refine norm_ (a' := ?_) ?_ ?_
          rotate_left
          · show Act.put _ (some 113) _ = _
            simp only [Act.put, List.setIfInBounds_toArray, List.set_cons_zero, List.set_cons_succ, i64_w, i32_w]
            rfl
          refine one_ (i := 5) (N := some 114) #[true, true, true, true, true, true, true, true, false, false] rfl rfl (by kernel_rfl) (by decide) (fun K hK => ?_)
          refine app_rows_step (w0 := w) w.heap.size (by rfl) (.tmp 109) (.tmp 113) rfl (.slice A2 n2 c2) (out ++ [tk]) (tl (lit.length : Int)) At _ ct rfl rfl KO3.out KCt.out KB3.out KB3.out.size (by rw [← Kn2.out]; omega) ?_; intro v4 w4 hO4 hB4 hg4 hat4; have hS4 : w4.heap[sb]? = _ := (hg4.block sb (blk_lt KS3.out) (fun e => box_ne KO3.out KS3.out e.symm)).trans KS3.out; have hp4 : w4.cell? ⟨sb, 0, none⟩ = some (.slice B lit.length d) := (cell_of_row _ _ _ _ _ _ hS4).trans rfl; obtain ⟨A5, c5, rfl⟩ := Kd.R_slice hO4; obtain ⟨n5, hn5⟩ : ∃ n5, n5 = (out ++ [tk] ++ tl (lit.length : Int)).length := ⟨_, rfl⟩; rw [← hn5] at hO4 ⊢; have hn5b : n5 ≤ 20000000030001 := (by rw [hn5, List.length_append, ← Kn2.out]; omega); have Kn5 := Aside0.mk hn5; have KO4 : Aside0 (Row.OwnB w4 w.heap.size (.slice A5 n5 c5) (out ++ [tk] ++ tl (lit.length : Int))) := ⟨hO4⟩; have KB4 := Aside0.mk hB4; have KS4 := Aside0.mk hS4; clear hO4 hB4 hg4 hat4 hS4 hn5
          refine hK.out _ _ (hp4) (fun hHeld => ?_)
          clear hK K
          refine norm_ (a' := ?_) ?_ ?_
          rotate_left
          · show Act.put _ (some 114) _ = _
            simp only [Act.put, List.setIfInBounds_toArray, List.set_cons_zero, List.set_cons_succ, i64_w, i32_w]
            rfl
          refine last_ (i := 8) (N := some 117) #[true, true, true, true, true, true, true, true, true, false] rfl rfl (by kernel_rfl) (by decide) (fun K hK => ?_)
          refine app_rows_step (w0 := w) w.heap.size (by rfl) (.tmp 114) (.tmp 116) rfl (.slice A5 n5 c5) (out ++ [tk] ++ tl (lit.length : Int)) lit B _ d rfl rfl KO4.out (Kd.C_below KLw.out KB4.out) KB4.out KB4.out.size (by rw [← Kn5.out]; omega) ?_; intro v6 w6 hO6 hB6 hg6 hat6; have hS6 : w6.heap[sb]? = _ := (hg6.block sb (blk_lt KS4.out) (fun e => box_ne KO4.out KS4.out e.symm)).trans KS4.out; obtain ⟨A7, c7, rfl⟩ := Kd.R_slice hO6; obtain ⟨zs, hzs⟩ : ∃ zs, zs = out ++ [tk] ++ tl (lit.length : Int) ++ lit := ⟨_, rfl⟩; obtain ⟨n7, hn7⟩ : ∃ n7, n7 = zs.length := ⟨_, rfl⟩; rw [← hzs, ← hn7] at hO6 ⊢; have hn7b : n7 ≤ 20000004030001 := (by rw [hn7, hzs, List.length_append, ← Kn5.out]; omega); have Kn7 := Aside0.mk hn7; have Kzs := Aside0.mk hzs; have KO6 : Aside0 (Row.OwnB w6 w.heap.size (.slice A7 n7 c7) zs) := ⟨hO6⟩; have KB6 := Aside0.mk hB6; have KS6 := Aside0.mk hS6; clear hO6 hB6 hg6 hat6 hS6 hn7 hzs
          refine hK.out _ _ ?_
          clear hK K
          refine norm_ (a' := ?_) ?_ ?_
          rotate_left
          · show Act.put _ (some 117) _ = _
            simp only [Act.put, List.setIfInBounds_toArray, List.set_cons_zero, List.set_cons_succ, i64_w, i32_w]
            rfl
          refine pure_ (i := 9) (N := some 4) (v := ?_) (a' := ?_) #[true, true, true, true, true, true, true, true, true, true] rfl rfl (by kernel_rfl) (fun _ _ _ h => h) (Or.inl ⟨by rfl, ?_⟩) ?_ ?_
          rotate_left
          · intro w'
            go_simp
            with_reducible rfl
          rotate_left
          · simp only [Act.put, List.setIfInBounds_toArray, List.set_cons_zero, List.set_cons_succ, i64_w, i32_w]
            rfl
          refine done_ (by kernel_rfl) ?_
          have hr1 : w6.cell? ⟨sb, 1, none⟩ = some (.int .i64 off) := (cell_of_row _ _ _ _ _ _ KS6.out).trans rfl
          have hr2 : w6.cell? ⟨sb, 2, none⟩ = some (.int .i64 len) := (cell_of_row _ _ _ _ _ _ KS6.out).trans rfl
          go_wp2
          obtain ⟨m4, hm4⟩ : ∃ m4 : Nat, (m4 : Int) = len - 4 := ⟨(len - 4).toNat, by omega⟩
          have hlw : IntKind.i64.wrap (len - 4) = (m4 : Int) := by rw [hm4]; exact IntWalk.i64_in _ (by omega)
          have hm4b : m4 ≤ 4000000 := by omega
          have Km4 := Aside0.mk hm4
          have hsbl6 : sb < w6.heap.size := blk_lt KS6.out
          have hm1 : off.tmod 256 = off % 256 := Int.tmod_eq_emod_of_nonneg (by omega)
          have hm2 : IntKind.u8.wrap (off % 256) = off % 256 := IntWalk.u8_in _ (by omega)
          have hm3 : IntKind.i64.wrap (off.tdiv 256) = off / 256 := IntWalk.i64_quo off 256 (by omega)
          have hm5 : IntKind.u8.wrap (off / 256) = off / 256 := IntWalk.u8_in _ (by omega)
          have htlb4 : (tl (m4 : Int)).length ≤ 20000 := by have := tl_length (m4 : Int); simp at this; omega
          clear hm4
          refine start_ (n := 17) (S := fun w' => w'.cell? ⟨sb, 1, none⟩ = some (.int .i64 off) ∧ w'.cell? ⟨sb, 2, none⟩ = some (.int .i64 len)) (ds := [15]) #[false, false, false, false, false, false, false, false, false, false, false, false, false, false, false, false, false] (by kernel_rfl) rfl rfl ⟨(show w6.cell? _ = _ from hr1), (show w6.cell? _ = _ from hr2)⟩ (fun hHeld => ?_)
          refine pure_ (i := 0) (N := some 120) (v := ?_) (a' := ?_) #[true, false, false, false, false, false, false, false, false, false, false, false, false, false, false, false, false] rfl rfl (by kernel_rfl) (fun _ _ _ h => h) (Or.inl ⟨by rfl, ?_⟩) ?_ ?_
          rotate_left
          · intro w'
            go_simp
            with_reducible rfl
          rotate_left
          · simp only [Act.put, List.setIfInBounds_toArray, List.set_cons_zero, List.set_cons_succ, i64_w, i32_w]
            rfl
          refine pure_ (i := 1) (N := some 121) (v := ?_) (a' := ?_) #[true, true, false, false, false, false, false, false, false, false, false, false, false, false, false, false, false] rfl rfl (by kernel_rfl) (fun _ _ _ h => h) (Or.inl ⟨by rfl, ?_⟩) ?_ ?_
          rotate_left
          · intro w'
            go_simp
            with_reducible rfl
          rotate_left
          · simp only [Act.put, List.setIfInBounds_toArray, List.set_cons_zero, List.set_cons_succ, i64_w, i32_w]
            rfl
          refine pure_ (i := 5) (N := some 125) (v := ?_) (a' := ?_) #[true, true, false, false, false, true, false, false, false, false, false, false, false, false, false, false, false] rfl rfl (by kernel_rfl) (fun _ _ _ h => h) (Or.inl ⟨by rfl, ?_⟩) ?_ ?_
          rotate_left
          · intro w'
            go_simp
            with_reducible rfl
          rotate_left
          · simp only [Act.put, List.setIfInBounds_toArray, List.set_cons_zero, List.set_cons_succ, i64_w, i32_w]
            rfl
          refine pure_ (i := 11) (N := some 131) (v := ?_) (a' := ?_) #[true, true, false, false, false, true, false, false, false, false, false, true, false, false, false, false, false] rfl rfl (by kernel_rfl) (fun _ _ _ h => h) (Or.inl ⟨by rfl, ?_⟩) ?_ ?_
          rotate_left
          · intro w'
            go_simp
            with_reducible rfl
          rotate_left
          · simp only [Act.put, List.setIfInBounds_toArray, List.set_cons_zero, List.set_cons_succ, i64_w, i32_w]
            rfl
          refine take_ (i := 2) (N := some 122) (v := ?_) (a' := ?_) #[true, true, true, false, false, true, false, false, false, false, false, true, false, false, false, false, false] rfl rfl (by kernel_rfl) (fun _ _ _ h => h) (Or.inl ⟨by rfl, ?_⟩) hHeld ?_ ?_
          rotate_left
          · rintro w' ⟨s0, s1⟩
            go_simp
            with_reducible rfl
          rotate_left
          · simp only [Act.put, List.setIfInBounds_toArray, List.set_cons_zero, List.set_cons_succ, i64_w, i32_w]
            rfl
          refine pure_ (i := 3) (N := some 123) (v := ?_) (a' := ?_) #[true, true, true, true, false, true, false, false, false, false, false, true, false, false, false, false, false] rfl rfl (by kernel_rfl) (fun _ _ _ h => h) (Or.inl ⟨by rfl, ?_⟩) ?_ ?_
          rotate_left
          · intro w'
            go_simp
            with_reducible rfl
          rotate_left
          · simp only [Act.put, List.setIfInBounds_toArray, List.set_cons_zero, List.set_cons_succ, i64_w, i32_w]
            rfl
          refine pure_ (i := 4) (N := some 124) (v := ?_) (a' := ?_) #[true, true, true, true, true, true, false, false, false, false, false, true, false, false, false, false, false] rfl rfl (by kernel_rfl) (fun _ _ _ h => h) (Or.inl ⟨by rfl, ?_⟩) ?_ ?_
          rotate_left
          · intro w'
            go_simp
            with_reducible rfl
          rotate_left
          · simp only [Act.put, List.setIfInBounds_toArray, List.set_cons_zero, List.set_cons_succ, i64_w, i32_w]
            rfl
          refine take_ (i := 6) (N := some 126) (v := ?_) (a' := ?_) #[true, true, true, true, true, true, true, false, false, false, false, true, false, false, false, false, false] rfl rfl (by kernel_rfl) (fun _ _ _ h => h) (Or.inl ⟨by rfl, ?_⟩) hHeld ?_ ?_
          rotate_left
          · rintro w' ⟨s0, s1⟩
            go_simp
            with_reducible rfl
          rotate_left
          · simp only [Act.put, List.setIfInBounds_toArray, List.set_cons_zero, List.set_cons_succ, i64_w, i32_w]
            rfl
          refine pure_ (i := 7) (N := some 127) (v := ?_) (a' := ?_) #[true, true, true, true, true, true, true, true, false, false, false, true, false, false, false, false, false] rfl rfl (by kernel_rfl) (fun _ _ _ h => h) (Or.inl ⟨by rfl, ?_⟩) ?_ ?_
          rotate_left
          · intro w'
            go_simp
            with_reducible rfl
          rotate_left
          · simp only [Act.put, List.setIfInBounds_toArray, List.set_cons_zero, List.set_cons_succ, i64_w, i32_w]
            rfl
          refine pure_ (i := 8) (N := some 128) (v := ?_) (a' := ?_) #[true, true, true, true, true, true, true, true, true, false, false, true, false, false, false, false, false] rfl rfl (by kernel_rfl) (fun _ _ _ h => h) (Or.inl ⟨by rfl, ?_⟩) ?_ ?_
          rotate_left
          · intro w'
            go_simp
            with_reducible rfl
          rotate_left
          · simp only [Act.put, List.setIfInBounds_toArray, List.set_cons_zero, List.set_cons_succ, i64_w, i32_w]
            rfl
          refine take_ (i := 12) (N := some 132) (v := ?_) (a' := ?_) #[true, true, true, true, true, true, true, true, true, false, false, true, true, false, false, false, false] rfl rfl (by kernel_rfl) (fun _ _ _ h => h) (Or.inl ⟨by rfl, ?_⟩) hHeld ?_ ?_
          rotate_left
          · rintro w' ⟨s0, s1⟩
            go_simp
            with_reducible rfl
          rotate_left
          · simp only [Act.put, List.setIfInBounds_toArray, List.set_cons_zero, List.set_cons_succ, i64_w, i32_w]
            rfl
          refine pure_ (i := 13) (N := some 133) (v := ?_) (a' := ?_) #[true, true, true, true, true, true, true, true, true, false, false, true, true, true, false, false, false] rfl rfl (by kernel_rfl) (fun _ _ _ h => h) (Or.inl ⟨by rfl, ?_⟩) ?_ ?_
          rotate_left
          · intro w'
            go_simp
            with_reducible rfl
          rotate_left
          · simp only [Act.put, List.setIfInBounds_toArray, List.set_cons_zero, List.set_cons_succ, i64_w, i32_w]
            rfl
          refine one_ (i := 9) (N := some 129) #[true, true, true, true, true, true, true, true, true, true, false, true, true, true, false, false, false] rfl rfl (by kernel_rfl) (by decide) (fun K hK => ?_)
          refine value_ (w1 := ?_) (v := ?_) (by rfl) rfl ?_ ?_
          rotate_left 2
          · go_simp
            constructor
            · rfl
            · rfl
          refine hK.out _ _ ⟨((cell_of_row _ _ _ _ _ _ (blk_alloc KS6.out _)).trans rfl), ((cell_of_row _ _ _ _ _ _ (blk_alloc KS6.out _)).trans rfl)⟩ (fun hHeld => ?_)
          clear hK K
          refine norm_ (a' := ?_) ?_ ?_
          rotate_left
          · show Act.put _ (some 129) _ = _
            simp only [Act.put, List.setIfInBounds_toArray, List.set_cons_zero, List.set_cons_succ, i64_w, i32_w]
            rfl
          refine one_ (i := 10) (N := some 130) #[true, true, true, true, true, true, true, true, true, true, true, true, true, true, false, false, false] rfl rfl (by kernel_rfl) (by decide) (fun K hK => ?_)
          refine app_rows_step (w0 := w) w.heap.size (by rfl) (.tmp 120) (.tmp 129) rfl (.slice A7 n7 c7) zs [off % 256, off / 256] _ 2 2 rfl rfl (Row.OwnB.below KO6.out (below_drew (below_alloc (Below.refl _ _) _))) (Kd.C_drew (lit2_C (off % 256) (off / 256))) (below_drew (below_then KB6.out KB6.out.size (below_alloc (Below.refl _ _) _))) (by simp; exact Nat.le_trans KB6.out.size (Nat.le_succ _)) (by rw [← Kn7.out]; omega) ?_; intro v8 w8 hO8 hB8 hg8 hat8; have hS8 : w8.heap[sb]? = _ := (hg8.block sb (by simp; omega) (fun e => box_ne KO6.out KS6.out e.symm)).trans (blk_alloc KS6.out _); have hf1 : w8.cell? ⟨sb, 1, none⟩ = some (.int .i64 off) := (cell_of_row _ _ _ _ _ _ hS8).trans rfl; have hf2 : w8.cell? ⟨sb, 2, none⟩ = some (.int .i64 len) := (cell_of_row _ _ _ _ _ _ hS8).trans rfl; obtain ⟨A9, c9, rfl⟩ := Kd.R_slice hO8; obtain ⟨n9, hn9⟩ : ∃ n9, n9 = (zs ++ [off % 256, off / 256]).length := ⟨_, rfl⟩; rw [← hn9] at hO8 ⊢; have hn9b : n9 ≤ 20000005100000 := (by rw [hn9, List.length_append, ← Kn7.out]; simp; omega); have Kn9 := Aside0.mk hn9; have KO8 : Aside0 (Row.OwnB w8 w.heap.size (.slice A9 n9 c9) (zs ++ [off % 256, off / 256])) := ⟨hO8⟩; have KB8 := Aside0.mk hB8; clear hO8 hB8 hg8 hat8 hS8 hn9
          refine hK.out _ _ ⟨hf1, hf2⟩ (fun hHeld => ?_)
          clear hK K
          refine norm_ (a' := ?_) ?_ ?_
          rotate_left
          · show Act.put _ (some 130) _ = _
            simp only [Act.put, List.setIfInBounds_toArray, List.set_cons_zero, List.set_cons_succ, i64_w, i32_w]
            rfl
          refine one_ (i := 14) (N := some 134) #[true, true, true, true, true, true, true, true, true, true, true, true, true, true, true, false, false] rfl rfl (by kernel_rfl) (by decide) (fun K hK => ?_)
          refine goes_ Try.func44 (by kernel_rfl) rfl #[.int .i64 m4] (by rfl) rfl rfl (by simp only [List.map_toArray, List.map_cons, List.map_nil]; rfl) ?_
          with_reducible refine (told_any m4 hm4b w8).mono ?_
          rintro e w10 ⟨Au, cu, rfl, hCu, hb10⟩
          refine ⟨_, rfl, ?_⟩
          have KCu := Aside0.mk hCu
          have KB10 : Aside0 (Below w.heap.size w w10) := ⟨below_then KB8.out KB8.out.size hb10⟩
          have KO10 : Aside0 (Row.OwnB w10 w.heap.size (.slice A9 n9 c9) (zs ++ [off % 256, off / 256])) := ⟨Row.OwnB.below KO8.out hb10⟩
          have hk1 := pw_cell_below hb10 hf1
          have hk2 := pw_cell_below hb10 hf2
          clear hCu hb10
          refine hK.out _ _ ⟨hk1, hk2⟩ (fun hHeld => ?_)
          clear hK K
          refine norm_ (a' := ?_) ?_ ?_
          rotate_left
          · show Act.put _ (some 134) _ = _
            simp only [Act.put, List.setIfInBounds_toArray, List.set_cons_zero, List.set_cons_succ, i64_w, i32_w]
            rfl
          refine last_ (i := 15) (N := some 135) #[true, true, true, true, true, true, true, true, true, true, true, true, true, true, true, true, false] rfl rfl (by kernel_rfl) (by decide) (fun K hK => ?_)
          refine app_rows_step (w0 := w) w.heap.size (by rfl) (.tmp 130) (.tmp 134) rfl (.slice A9 n9 c9) (zs ++ [off % 256, off / 256]) (tl (m4 : Int)) Au _ cu rfl rfl KO10.out KCu.out KB10.out KB10.out.size (by rw [← Kn9.out]; omega) ?_; intro v11 w11 hO11 hB11 hg11 hat11; have KO11 := Aside0.mk hO11; have KB11 := Aside0.mk hB11; clear hO11 hB11 hg11 hat11
          refine hK.out _ _ ?_
          clear hK K
          refine norm_ (a' := ?_) ?_ ?_
          rotate_left
          · show Act.put _ (some 135) _ = _
            simp only [Act.put, List.setIfInBounds_toArray, List.set_cons_zero, List.set_cons_succ, i64_w, i32_w]
            rfl
          refine pure_ (i := 16) (N := some 4) (v := ?_) (a' := ?_) #[true, true, true, true, true, true, true, true, true, true, true, true, true, true, true, true, true] rfl rfl (by kernel_rfl) (fun _ _ _ h => h) (Or.inl ⟨by rfl, ?_⟩) ?_ ?_
          rotate_left
          · intro w'
            go_simp
            with_reducible rfl
          rotate_left
          · simp only [Act.put, List.setIfInBounds_toArray, List.set_cons_zero, List.set_cons_succ, i64_w, i32_w]
            rfl
          refine done_ (by kernel_rfl) ?_
          obtain ⟨A12, c12, hv12, -, -⟩ := Row.OwnB.slice KO11.out
          obtain ⟨o12, ho12⟩ : ∃ o12, o12 = zs ++ [off % 256, off / 256] ++ tl m4 := ⟨_, rfl⟩
          obtain ⟨n12, hn12⟩ : ∃ n12, n12 = o12.length := ⟨_, rfl⟩
          rw [← ho12, ← hn12] at hv12
          subst hv12
          have Ko12 := Aside0.mk ho12
          clear ho12 hn12 hm1 hm2 hm3 hm5 hlw hHeld hr1 hr2
          go_wp2
          refine ⟨⟨o12, size + lit.length + len, k + 1, n12, A12, c12, hlt, by go_num, rfl, rfl, ⟨JI_next KJ.out Kjn.out rfl (by simp only; omega) (by simp only; omega) f1 (by rw [Ko12.out, Kzs.out, Ktk.out, Km4.out]; unfold seg segT; simp) (by rw [Ko12.out]; exact KO11.out) KB11.out⟩⟩, by simp [intOf]; omega⟩
    · obtain rfl : k = n := by omega
      have hfin : joinP [] 0 l = (out, 0) := by
        rw [KJ.out.eq, Kn.out, List.drop_length]
        rfl
      have Kfin := Aside0.mk hfin
      clear hfin
      go_wp2
      go_ret2
      rw [Kfin.out]
      exact ⟨_, rfl, KJ.out.own, KJ.out.below⟩
end Go.Proofs.Ytbnkglcgblhjeaa.Lz
