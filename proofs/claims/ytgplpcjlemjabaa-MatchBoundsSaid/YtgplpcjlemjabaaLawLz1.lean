/- Blocks are unpacked: lower bounds. -/
import Derived.Test.YtgplpcjlemjabaaLz6
import Derived.OpenShut
set_option linter.unusedVariables false
set_option linter.unusedSimpArgs false
namespace Go.Proofs.Ytgplpcjlemjabaa
open Go.RowKit Go.Proofs.YtgplpcjlemjabaaW.PrintWords Go.Proofs.YtgplpcjlemjabaaW.PrintLast Go.Proofs.YtgplpcjlemjabaaW.PrintMore
namespace Lz
theorem step_low {N : Nat} {M most size : Int} {r : List Int} (hb : isB r) (hr : r.length ≤ N) (hs : 0 ≤ size) (hsm : size ≤ most) (hM : most ≤ M) :
    step N most size r = step N M size r ∨ ∃ p, step N most size r = .fail 2 p ∧ p < N ∧ (∀ lit, step N M size r = .last lit → most < size + lit.length) ∧ (∀ lit off len rest, step N M size r = .seq lit off len rest → most < size + lit.length + len) := by
  match r, hb, hr with
  | [], _, _ => exact Or.inl rfl
  | t :: r, hb, hr =>
    have ht := hb t (by simp)
    have hb1 : isB r := fun x hx => hb x (by simp [hx])
    simp only [step]
    split
    · exact Or.inl rfl
    · rename_i n r1 hL
      obtain ⟨s1, s2, s3, k, rfl⟩ := lenH_spec hb1 (by omega) hL
      by_cases h1 : most - size < n
      · refine Or.inr ⟨(N : Int) - (r.length + 1), by rw [if_pos h1], by omega, ?_, ?_⟩
        · intro lit
          split
          · intro h; cases h
          split
          · intro h; cases h
          have hll : (((r.drop k).take n.toNat).length : Int) = n := by rw [List.length_take]; omega
          unfold tailS
          split
          · intro h; injection h with h; subst h; omega
          · intro h; cases h
          · split
            · intro h; cases h
            split
            · intro h; cases h
            split <;> (intro h; cases h)
        · intro lit off len rest
          split
          · intro h; cases h
          split
          · intro h; cases h
          have hll : (((r.drop k).take n.toNat).length : Int) = n := by rw [List.length_take]; omega
          unfold tailS
          split
          · intro h; cases h
          · intro h; cases h
          · rename_i x y r3 hr3
            have hbj : isB (x :: y :: r3) := by rw [← hr3]; exact isB_drop (isB_drop hb1 k) _
            have hb3 : isB r3 := fun z hz => hbj z (by simp [hz])
            split
            · intro h; cases h
            split
            · intro h; cases h
            · rename_i m r4 hM2
              have := (lenH_spec hb3 (by omega) hM2).2.1
              split
              · intro h; cases h
              · intro h; injection h with e1 e2 e3 e4; subst e1 e3; omega
      · rw [if_neg h1, if_neg (by omega : ¬ M - size < n)]
        by_cases h2 : ((r.drop k).length : Int) < n
        · rw [if_pos h2, if_pos h2]; exact Or.inl rfl
        rw [if_neg h2, if_neg h2]
        have hll : (((r.drop k).take n.toNat).length : Int) = n := by rw [List.length_take]; omega
        unfold tailS
        split
        · exact Or.inl rfl
        · exact Or.inl rfl
        · split
          · exact Or.inl rfl
          split
          · exact Or.inl rfl
          · rename_i m r4 hM2
            by_cases h3 : most - (size + n) < m + 4
            · refine Or.inr ⟨(N : Int) - (r.length + 1), by rw [if_pos h3], by omega, ?_, ?_⟩
              · intro lit
                split <;> (intro h; cases h)
              · intro lit off len rest
                split
                · intro h; cases h
                · intro h; injection h with e1 e2 e3 e4; subst e1 e3; omega
            · rw [if_neg h3, if_neg (by omega : ¬ M - (size + n) < m + 4)]; exact Or.inl rfl
theorem run_tot {N : Nat} {most : Int} : ∀ (f : Nat) (size : Int) (r : List Int), isB r → 0 ≤ size → size ≤ most → 0 ≤ tot (run N most f size r).1 ∧ (∀ s ∈ (run N most f size r).1, 0 ≤ s.2.2) ∧ ((run N most f size r).2.1 = 0 → size + tot (run N most f size r).1 ≤ most) ∧ ((run N most f size r).2.1 = 0 ∨ (run N most f size r).2.1 = 2 ∨ (run N most f size r).2.1 = 6 ∨ (run N most f size r).2.1 = 9)
  | 0, size, r, _, _, _ => by simp [run, tot]
  | f + 1, size, r, hb, hs, hsm => by
    obtain ⟨s1, s2, s3⟩ := step_spec (N := N) hb hs hsm
    unfold run
    cases h : step N most size r with
    | fail e p => have := s1 e p h; simp [tot]; omega
    | last lit => have := (s2 lit h).lit0; simp [tot]; omega
    | seq lit off len rest =>
      obtain ⟨hf, h1, h2, k, rfl⟩ := s3 _ _ _ _ h
      obtain ⟨g1, g2, g3, g4, g5⟩ := hf
      obtain ⟨i1, i2, i3, i4⟩ := run_tot (N := N) (most := most) f (size + lit.length + len) (r.drop k) (isB_drop hb k) (by omega) (by omega)
      refine ⟨by simp only [tot]; omega, fun s hs => ?_, fun h => ?_, i4⟩
      · simp only [List.mem_cons] at hs
        rcases hs with rfl | hs
        · exact g2
        · exact i2 s hs
      · have := i3 h
        simp only [tot]
        omega
theorem run_low {N : Nat} {M most : Int} (hM : most ≤ M) : ∀ (f : Nat) (size : Int) (r : List Int), isB r → r.length ≤ N → 0 ≤ size → size ≤ most → r.length < f →
    (run N most f size r = run N M f size r ∧ ((run N M f size r).2.1 = 0 → size + tot (run N M f size r).1 ≤ most)) ∨
    ((run N most f size r).2.1 = 2 ∧ (run N most f size r).2.2 < N ∧ ((run N M f size r).2.1 = 0 → most < size + tot (run N M f size r).1))
  | 0, size, r, _, _, _, _, h => by omega
  | f + 1, size, r, hb, hr, hs, hsm, hf => by
    obtain ⟨s1, s2, s3⟩ := step_spec (N := N) hb hs hsm
    obtain ⟨t1, t2, t3⟩ := step_spec (N := N) (most := M) hb hs (by omega)
    rcases step_low (N := N) hb hr hs hsm hM with he | ⟨p, he, hp, q1, q2⟩
    · simp only [run]
      rw [he]
      rw [he] at s1 s2 s3
      cases h : step N M size r with
      | fail e p => exact Or.inl ⟨rfl, fun h0 => by have := s1 e p h; simp only at h0; omega⟩
      | last lit => exact Or.inl ⟨rfl, fun _ => by have := (s2 lit h).lit0; simp only [tot]; omega⟩
      | seq lit off len rest =>
        obtain ⟨hfit, h1, h2, k, rfl⟩ := s3 _ _ _ _ h
        obtain ⟨g1, g2, g3, g4, g5⟩ := hfit
        rcases run_low (N := N) (M := M) (most := most) hM f (size + lit.length + len) (r.drop k) (isB_drop hb k) (by rw [List.length_drop]; omega) (by omega) (by omega) (by omega) with ⟨i1, i2⟩ | ⟨i1, i2, i3⟩
        · refine Or.inl ⟨by simp only; rw [i1], fun h0 => ?_⟩
          have := i2 h0
          simp only [tot]
          omega
        · refine Or.inr ⟨i1, i2, fun h0 => ?_⟩
          have := i3 h0
          simp only [tot]
          omega
    · refine Or.inr ?_
      simp only [run]
      rw [he]
      refine ⟨rfl, hp, ?_⟩
      cases h : step N M size r with
      | fail e p => intro h0; have := t1 e p h; simp only at h0; omega
      | last lit => intro _; have := q1 lit h; simp only [tot]; omega
      | seq lit off len rest =>
        intro h0
        obtain ⟨hfit, h1, h2, k, rfl⟩ := t3 _ _ _ _ h
        have := q2 _ _ _ _ h
        have := (run_tot (N := N) (most := M) f (size + lit.length + len) (r.drop k) (isB_drop hb k) (by have := hfit.len0; omega) (by have := hfit.len1; omega)).1
        simp only [tot]
        omega
/-- The law of lower bounds, plain. -/
theorem dec_low {b : List Int} {most : Int} (hb : isB b) (h0 : 0 ≤ most) (h1 : most ≤ 1048576) :
    ((dec b 1048576).2.1 ≠ 0 → ((dec b most).2.1 = (dec b 1048576).2.1 ∨ (dec b most).2.1 = 2) ∧ (dec b most).1 = []) ∧
    ((dec b 1048576).2.1 = 0 → (most < (dec b 1048576).1.length → (dec b most).2.1 = 2 ∧ (dec b most).1 = [] ∧ (dec b most).2.2 < b.length) ∧ (((dec b 1048576).1.length : Int) ≤ most → (dec b most).2.1 = 0 ∧ (dec b most).1 = (dec b 1048576).1)) := by
  have hl := run_low (N := b.length) (M := 1048576) (most := most) h1 (b.length + 1) 0 b hb (Nat.le_refl _) (by omega) h0 (by omega)
  have hol := outs_length (run b.length 1048576 (b.length + 1) 0 b).1 [] (run_tot (N := b.length) (most := 1048576) (b.length + 1) 0 b hb (by omega) (by omega)).2.1
  obtain ⟨L, E, P, hR⟩ : ∃ L E P, run b.length 1048576 (b.length + 1) 0 b = (L, E, P) := ⟨_, _, _, rfl⟩
  obtain ⟨l, e, p, hr⟩ : ∃ l e p, run b.length most (b.length + 1) 0 b = (l, e, p) := ⟨_, _, _, rfl⟩
  unfold dec
  rw [if_neg (by omega : ¬ ((1048576 : Int) < 0 ∨ (1048576 : Int) < 1048576)), if_neg (by omega : ¬ (most < 0 ∨ 1048576 < most)), hR, hr]
  rw [hR, hr] at hl
  rw [hR] at hol
  simp only [List.length_nil, Int.ofNat_zero] at hl hol
  simp only
  by_cases hE : E = 0
  · rw [if_pos hE]
    refine ⟨fun h => absurd rfl h, fun _ => ⟨fun hlt => ?_, fun hle => ?_⟩⟩
    · rcases hl with ⟨i1, i2⟩ | ⟨i1, i2, i3⟩
      · have := i2 hE; simp only at hlt; omega
      · have : ¬ e = 0 := by omega
        rw [if_neg this]
        exact ⟨i1, rfl, i2⟩
    · rcases hl with ⟨i1, i2⟩ | ⟨i1, i2, i3⟩
      · injection i1 with e1 e2
        injection e2 with e2 e3
        subst e1 e2 e3
        rw [if_pos hE]
        exact ⟨rfl, rfl⟩
      · have := i3 hE; simp only at hle; omega
  · rw [if_neg hE]
    refine ⟨fun _ => ?_, fun h => absurd h hE⟩
    rcases hl with ⟨i1, i2⟩ | ⟨i1, i2, i3⟩
    · injection i1 with e1 e2
      injection e2 with e2 e3
      subst e1 e2 e3
      rw [if_neg hE]
      exact ⟨Or.inl rfl, rfl⟩
    · have : ¬ e = 0 := by omega
      rw [if_neg this]
      exact ⟨Or.inr i1, rfl⟩
theorem u8B {l : List Int} (h : ∀ v ∈ l, (fun n : Int => (Lit.int .u8 n).wf = true) v) : isB l := fun x hx => by
  have := h x hx
  have e1 : IntKind.u8.min = 0 := by decide
  have e2 : IntKind.u8.max = 255 := by decide
  simp only [Lit.wf, e1, e2, Bool.and_eq_true, decide_eq_true_eq] at this
  omega
end Lz
namespace LzBounds
end LzBounds
end Go.Proofs.Ytgplpcjlemjabaa
