/- Blocks are packed and unpacked: there and back, in plain words. -/
import Derived.Test.YtgplpcjlemjabaaJoinP
import Derived.Test.YtgplpcjlemjabaaJoin
set_option linter.unusedVariables false
set_option linter.unusedSimpArgs false
namespace Go.Proofs.Ytgplpcjlemjabaa.Lz
open Go.RowKit Go.Proofs.YtgplpcjlemjabaaW.PrintWords Go.Proofs.YtgplpcjlemjabaaW.PrintLast Go.Proofs.YtgplpcjlemjabaaW.PrintMore
/-- All sequences' bytes. -/
def segs : List Sq → List Int
  | [] => []
  | s :: r => seg s (decide (r = [])) ++ segs r
/-- Nothing is wrong. -/
def RightL : Int → List Sq → Prop
  | _, [] => True
  | size, s :: r => wrongP s (decide (r = [])) size = 0 ∧ RightL (size + s.1.length + s.2.2) r
theorem joinP_right : ∀ (l : List Sq) (out : List Int) (size : Int), RightL size l → joinP out size l = (out ++ segs l, 0)
  | [], out, size, _ => by simp [joinP, segs]
  | s :: r, out, size, h => by
    rw [joinP, if_pos h.1, joinP_right r _ _ h.2, segs, List.append_assoc]
theorem joinP_ok : ∀ (l : List Sq) (out : List Int) (size : Int), (joinP out size l).2 = 0 → RightL size l
  | [], out, size, _ => trivial
  | s :: r, out, size, h => by
    rw [joinP] at h
    by_cases h0 : wrongP s (decide (r = [])) size = 0
    · rw [if_pos h0] at h
      exact ⟨h0, joinP_ok r _ _ h⟩
    · rw [if_neg h0] at h
      exact absurd h h0
theorem joinA_ok {l : List Sq} (h : (joinA l).2 = 0) : l ≠ [] ∧ RightL 0 l ∧ joinA l = (segs l, 0) := by
  unfold joinA at h
  by_cases h0 : l = []
  · rw [if_pos h0] at h; cases h
  · rw [if_neg h0] at h
    have hr := joinP_ok l [] 0 h
    refine ⟨h0, hr, ?_⟩
    unfold joinA
    rw [if_neg h0, joinP_right l [] 0 hr, List.nil_append]
theorem joinA_right {l : List Sq} (h0 : l ≠ []) (h : RightL 0 l) : joinA l = (segs l, 0) := by
  unfold joinA
  rw [if_neg h0, joinP_right l [] 0 h, List.nil_append]
theorem lenH_tl (n : Int) (hn : 0 ≤ n) (X : List Int) : lenH (min n 15) (tl n ++ X) = some (n, X) := by
  unfold lenH tl
  by_cases h : n < 15
  · rw [if_pos (by omega), if_pos h, show min n 15 = n by omega, List.nil_append]
  · rw [if_neg (by omega), if_neg h, show min n 15 = 15 by omega]
    unfold told
    rw [lenL_told 15 X _ _ (Nat.mod_lt _ (by decide))]
    have := Nat.div_add_mod (n - 15).toNat 255
    simp only [Option.some.injEq, Prod.mk.injEq, and_true]
    omega
theorem step_seg_last {N : Nat} {size : Int} {lit : List Int} (h0 : 0 ≤ size) (h1 : size + lit.length ≤ 1048576) : step N 1048576 size (seg (lit, 0, 0) true) = .last lit := by
  have hs : seg (lit, 0, 0) true = (16 * min (lit.length : Int) 15) :: (tl lit.length ++ lit) := by simp [seg, segT, tok]
  rw [hs]
  have hL : lenH ((16 * min (lit.length : Int) 15) / 16) (tl lit.length ++ lit) = some ((lit.length : Int), lit) := by
    rw [show (16 * min (lit.length : Int) 15) / 16 = min (lit.length : Int) 15 by omega]
    exact lenH_tl _ (by omega) _
  rw [step_d hL (by omega) (by omega), List.take_length, List.drop_length]
  rfl
theorem step_seg {N : Nat} {size off len : Int} {lit rest : List Int} (h0 : 0 ≤ size) (h1 : size + lit.length + len ≤ 1048576) (ho : 1 ≤ off) (ho2 : off ≤ 65535) (ho3 : off ≤ size + lit.length) (hl : 4 ≤ len) : step N 1048576 size (seg (lit, off, len) false ++ rest) = .seq lit off len rest := by
  have hs : seg (lit, off, len) false ++ rest = (16 * min (lit.length : Int) 15 + min (len - 4) 15) :: (tl lit.length ++ (lit ++ (off % 256 :: off / 256 :: (tl (len - 4) ++ rest)))) := by simp [seg, segT, tok]
  rw [hs]
  have hm : 0 ≤ min (len - 4) 15 ∧ min (len - 4) 15 ≤ 15 := by omega
  have hL : lenH ((16 * min (lit.length : Int) 15 + min (len - 4) 15) / 16) (tl lit.length ++ (lit ++ (off % 256 :: off / 256 :: (tl (len - 4) ++ rest)))) = some ((lit.length : Int), lit ++ (off % 256 :: off / 256 :: (tl (len - 4) ++ rest))) := by
    rw [show (16 * min (lit.length : Int) 15 + min (len - 4) 15) / 16 = min (lit.length : Int) 15 by omega]
    exact lenH_tl _ (by omega) _
  rw [step_d hL (by omega) (by simp; omega), List.take_left, List.drop_left]
  simp only [tailS]
  rw [if_neg (by omega), show (16 * min (lit.length : Int) 15 + min (len - 4) 15) % 16 = min (len - 4) 15 by omega, lenH_tl (len - 4) (by omega)]
  simp only
  rw [if_neg (by omega), show off % 256 + off / 256 * 256 = off by omega, show len - 4 + 4 = len by omega]
theorem run_segs (N : Nat) : ∀ (l : List Sq) (size : Int) (f : Nat), l ≠ [] → RightL size l → 0 ≤ size → l.length ≤ f → run N 1048576 f size (segs l) = (l, 0, 0)
  | [], _, _, h, _, _, _ => absurd rfl h
  | s :: r, size, f, _, hr, h0, hf => by
    obtain ⟨f, rfl⟩ : ∃ g, f = g + 1 := ⟨f - 1, by simp at hf; omega⟩
    obtain ⟨hw, hr2⟩ := hr
    obtain ⟨g1, g2, g3, g4, g5⟩ := wrong_no hw h0
    obtain ⟨lit, off, len⟩ := s
    simp only at g1 g2 g3 g4 g5 hr2
    by_cases hre : r = []
    · subst hre
      obtain ⟨rfl, rfl⟩ : off = 0 ∧ len = 0 := by simpa using g1
      simp only [segs, run, decide_true, List.append_nil]
      rw [step_seg_last h0 (by omega)]
    · obtain ⟨g6, g7, g8⟩ : 1 ≤ off ∧ off ≤ 65535 ∧ 4 ≤ len := by simpa [hre] using g1
      have hd : decide (r = []) = false := by simpa using hre
      simp only [segs, run, hd]
      rw [step_seg h0 g3 g6 g7 g2 g8]
      simp only
      rw [run_segs N r (size + lit.length + len) f hre hr2 (by omega) (by simp at hf; omega)]
theorem tl_isB (n : Int) : isB (tl n) := by
  unfold tl told
  split
  · intro x hx; simp at hx
  · intro x hx
    simp only [List.mem_append, List.mem_replicate, List.mem_singleton] at hx
    rcases hx with ⟨_, rfl⟩ | rfl
    · omega
    · have := Nat.mod_lt (n - 15).toNat (by decide : 255 > 0); omega
theorem seg_isB {s : Sq} {last : Bool} {size : Int} (hb : isB s.1) (hw : wrongP s last size = 0) (h0 : 0 ≤ size) : isB (seg s last) := by
  obtain ⟨g1, g2, g3, g4, g5⟩ := wrong_no hw h0
  have ht : isB [tok s last] := by
    intro x hx
    simp only [List.mem_singleton] at hx
    subst hx
    unfold tok
    rcases g1 with ⟨rfl, _, _⟩ | ⟨rfl, _, _, _⟩
    · simp; omega
    · simp; omega
  have hT : isB (segT s last) := by
    unfold segT
    rcases g1 with ⟨rfl, _, _⟩ | ⟨rfl, h1, h2, h3⟩
    · simp [isB]
    · simp only [Bool.false_eq_true, if_false]
      refine isB_append ?_ (tl_isB _)
      intro x hx
      simp only [List.mem_cons, List.mem_nil_iff, or_false] at hx
      rcases hx with rfl | rfl <;> omega
  unfold seg
  exact isB_append (isB_append (isB_append ht (tl_isB _)) hb) hT
theorem segs_isB : ∀ (l : List Sq) (size : Int), (∀ s ∈ l, isB s.1) → RightL size l → 0 ≤ size → isB (segs l)
  | [], _, _, _, _ => by simp [segs, isB]
  | s :: r, size, hb, hr, h0 => by
    have hw := wrong_no hr.1 h0
    exact isB_append (seg_isB (hb s (by simp)) hr.1 h0) (segs_isB r _ (fun t ht => hb t (by simp [ht])) hr.2 (by omega))
/-- How long a block is. -/
theorem tl_len255 (n : Int) (h : 0 ≤ n) : 255 * ((tl n).length : Int) ≤ n + 255 := by
  have := tl_length n
  omega
theorem seg_len {s : Sq} {last : Bool} {size : Int} (hw : wrongP s last size = 0) (h0 : 0 ≤ size) : 255 * ((seg s last).length : Int) ≤ 1275 + 256 * s.1.length + s.2.2 := by
  obtain ⟨g1, g2, g3, g4, g5⟩ := wrong_no hw h0
  have h3 := tl_len255 (s.1.length : Int) (by omega)
  rcases g1 with ⟨rfl, q1, q2⟩ | ⟨rfl, q1, q2, q3⟩
  · simp [seg, segT]; omega
  · have h4 := tl_len255 (s.2.2 - 4) (by omega)
    simp [seg, segT]; omega
theorem segs_len : ∀ (l : List Sq) (size : Int), RightL size l → 0 ≤ size → size ≤ 1048576 → (∀ s ∈ l, s.1.length ≤ 3000) → 255 * ((segs l).length : Int) ≤ 769275 * l.length + (1048576 - size)
  | [], size, _, h0, h1, _ => by simp [segs]; omega
  | s :: r, size, hr, h0, h1, hb => by
    have hw := wrong_no hr.1 h0
    have hs := seg_len hr.1 h0
    have hi := segs_len r _ hr.2 (by omega) (by omega) (fun t ht => hb t (by simp [ht]))
    have hb1 := hb s (by simp)
    simp only [segs, List.length_append, List.length_cons]
    omega
/-- Literals as long as told are not shorter than they need. -/
theorem lenL_len : ∀ (r : List Int) (n m : Int) (r2 : List Int), isB r → lenL n r = some (m, r2) → ((m - n).toNat / 255 + 1 + r2.length = r.length ∧ n ≤ m)
  | [], n, m, r2, _, h => by simp [lenL] at h
  | x :: r, n, m, r2, hb, h => by
    have hx := hb x (by simp)
    unfold lenL at h
    by_cases h0 : x < 255
    · rw [if_pos h0] at h
      simp only [Option.some.injEq, Prod.mk.injEq] at h
      obtain ⟨rfl, rfl⟩ := h
      simp only [List.length_cons]
      omega
    · rw [if_neg h0] at h
      obtain ⟨h1, h2⟩ := lenL_len r (n + x) m r2 (fun y hy => hb y (by simp [hy])) h
      simp only [List.length_cons]
      omega
theorem lenH_len {n m : Int} {r r2 : List Int} (hb : isB r) (hn : 0 ≤ n ∧ n ≤ 15) (h : lenH n r = some (m, r2)) : (tl m).length + r2.length ≤ r.length := by
  unfold lenH at h
  by_cases h0 : n < 15
  · rw [if_pos h0] at h
    simp only [Option.some.injEq, Prod.mk.injEq] at h
    obtain ⟨rfl, rfl⟩ := h
    unfold tl
    rw [if_pos h0]
    simp
  · rw [if_neg h0] at h
    obtain ⟨h1, h2⟩ := lenL_len r n m r2 hb h
    unfold tl
    rw [if_neg (by omega), told_length]
    have : n = 15 := by omega
    subst this
    omega
theorem step_len {N : Nat} {size : Int} {r : List Int} (hb : isB r) (h0 : 0 ≤ size) :
    (∀ lit, step N 1048576 size r = .last lit → (seg (lit, 0, 0) true).length ≤ r.length) ∧ (∀ lit off len rest, step N 1048576 size r = .seq lit off len rest → (seg (lit, off, len) false).length + rest.length ≤ r.length ∧ off ≤ 65535) := by
  match r, hb with
  | [], _ => exact ⟨fun _ h => (by cases h), fun _ _ _ _ h => (by cases h)⟩
  | t :: r, hb =>
    have ht := hb t (by simp)
    have hb1 : isB r := fun x hx => hb x (by simp [hx])
    simp only [step]
    split
    · exact ⟨fun _ h => (by cases h), fun _ _ _ _ h => (by cases h)⟩
    · rename_i n r1 hL
      have h5 := lenH_len hb1 (by omega) hL
      obtain ⟨s1, s2, s3, k, rfl⟩ := lenH_spec hb1 (by omega) hL
      split
      · exact ⟨fun _ h => (by cases h), fun _ _ _ _ h => (by cases h)⟩
      split
      · exact ⟨fun _ h => (by cases h), fun _ _ _ _ h => (by cases h)⟩
      have hll : (((r.drop k).take n.toNat).length : Int) = n := by rw [List.length_take]; omega
      unfold tailS
      split
      · rename_i hd
        refine ⟨fun lit h => ?_, fun _ _ _ _ h => (by cases h)⟩
        injection h with h
        subst h
        have hdl := congrArg List.length hd
        simp only [List.length_drop, List.length_nil] at hdl
        simp only [seg, segT, if_true, List.length_append, List.length_singleton, List.length_nil, hll, List.length_cons]
        simp only [List.length_drop, List.length_take] at h5 hll ⊢
        omega
      · exact ⟨fun _ h => (by cases h), fun _ _ _ _ h => (by cases h)⟩
      · rename_i x y r3 hr3
        have hbj : isB (x :: y :: r3) := by rw [← hr3]; exact isB_drop (isB_drop hb1 k) _
        have hx := hbj x (by simp)
        have hy := hbj y (by simp)
        have hb3 : isB r3 := fun z hz => hbj z (by simp [hz])
        split
        · exact ⟨fun _ h => (by cases h), fun _ _ _ _ h => (by cases h)⟩
        split
        · exact ⟨fun _ h => (by cases h), fun _ _ _ _ h => (by cases h)⟩
        · rename_i m r4 hM
          have h6 := lenH_len hb3 (by omega) hM
          split
          · exact ⟨fun _ h => (by cases h), fun _ _ _ _ h => (by cases h)⟩
          · refine ⟨fun _ h => (by cases h), fun lit off len rest h => ?_⟩
            injection h with e1 e2 e3 e4
            subst e1 e2 e3 e4
            have hdl := congrArg List.length hr3
            simp only [List.length_drop, List.length_cons] at hdl
            simp only [seg, segT, Bool.false_eq_true, if_false, List.length_append, List.length_singleton, List.length_nil, hll, List.length_cons]
            rw [show m + 4 - 4 = m by omega]
            simp only [List.length_drop, List.length_take] at h5 hll ⊢
            omega
/-- What a block tells can be joined again, and is no longer. -/
theorem run_right (N : Nat) : ∀ (f : Nat) (size : Int) (r : List Int), isB r → 0 ≤ size → size ≤ 1048576 → (run N 1048576 f size r).2.1 = 0 → (run N 1048576 f size r).1 ≠ [] ∧ RightL size (run N 1048576 f size r).1 ∧ (segs (run N 1048576 f size r).1).length ≤ r.length ∧ (∀ s ∈ (run N 1048576 f size r).1, isB s.1 ∧ s.1.length ≤ r.length ∧ (0 ≤ s.2.1 ∧ s.2.1 ≤ 65535) ∧ (0 ≤ s.2.2 ∧ s.2.2 ≤ 1048576))
  | 0, size, r, _, _, _, h => by simp [run] at h
  | f + 1, size, r, hb, h0, h1, h => by
    obtain ⟨s1, s2, s3⟩ := step_spec (N := N) hb h0 h1
    obtain ⟨l1, l2⟩ := step_len (N := N) hb h0
    unfold run at h ⊢
    cases hst : step N 1048576 size r with
    | fail e p => rw [hst] at h; have := s1 e p hst; simp only at h; omega
    | last lit =>
      obtain ⟨q1, q2, q3, q4, q5⟩ := s2 lit hst
      have hl := l1 lit hst
      refine ⟨by simp, ⟨?_, trivial⟩, by simpa [segs] using hl, fun s hs => ?_⟩
      · unfold wrongP
        rw [if_neg (by simp), if_neg (by simp; omega), if_neg (by simp; omega)]
      · simp only [List.mem_singleton] at hs
        subst hs
        refine ⟨q5, ?_, by simp, by simp⟩
        simp [seg] at hl
        simp only
        omega
    | seq lit off len rest =>
      obtain ⟨⟨q1, q2, q3, q4, q5⟩, q6, q7, k, rfl⟩ := s3 _ _ _ _ hst
      obtain ⟨hl, ho⟩ := l2 _ _ _ _ hst
      rw [hst] at h
      simp only at h
      obtain ⟨i1, i2, i3, i4⟩ := run_right N f (size + lit.length + len) (r.drop k) (isB_drop hb k) (by omega) (by omega) h
      have hd : decide ((run N 1048576 f (size + lit.length + len) (r.drop k)).1 = []) = false := by simpa using i1
      refine ⟨by simp, ⟨?_, i2⟩, ?_, fun s hs => ?_⟩
      · rw [hd]
        unfold wrongP
        rw [if_neg (by simp; omega), if_neg (by simp; omega), if_neg (by simp; omega)]
      · simp only [segs, hd, List.length_append]
        omega
      · simp only [List.mem_cons] at hs
        rcases hs with rfl | hs
        · refine ⟨q5, ?_, by simp only; omega, by simp only; omega⟩
          simp [seg] at hl
          simp only
          omega
        · obtain ⟨j1, j2, j3, j4⟩ := i4 s hs
          refine ⟨j1, ?_, j3, j4⟩
          rw [List.length_drop] at j2
          omega
end Go.Proofs.Ytgplpcjlemjabaa.Lz
