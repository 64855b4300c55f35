/- Blocks are packed: a text that is a short one again and again makes a short block: plain. -/
import Derived.Test.YtgplpcjlemjabaaMaA
set_option linter.unusedVariables false
set_option linter.unusedSimpArgs false
namespace Go.Proofs.Ytgplpcjlemjabaa.Ma
open Go.RowKit Go.Proofs.Ytgplpcjlemjabaa.Lz Go.Proofs.YtgplpcjlemjabaaW.PrintWords Go.Proofs.YtgplpcjlemjabaaW.PrintLast Go.Proofs.YtgplpcjlemjabaaW.PrintMore
/-- The chains know all places ahead of i. -/
structure Full (b : List Int) (c : Chs) (i : Nat) : Prop where
  inv : Inv c i
  hh : ∀ h, c.heads h ≠ 0 → hs b (c.heads h - 1) = h
  ph : ∀ q, c.prev q ≠ 0 → hs b (c.prev q - 1) = hs b q
  hq : ∀ q, q < i → q + 4 ≤ b.length → q + 1 ≤ c.heads (hs b q)
  pq : ∀ q, q < i → q + 4 ≤ b.length → ∀ r, r < q → hs b r = hs b q → r + 1 ≤ c.prev q
theorem Full.zero (b : List Int) : Full b chs0 0 := ⟨Inv.zero, fun _ h => absurd rfl h, fun _ h => absurd rfl h, fun _ h => absurd h (Nat.not_lt_zero _), fun _ h => absurd h (Nat.not_lt_zero _)⟩
theorem Full.put {b : List Int} {c : Chs} {i : Nat} (h : Full b c i) : Full b (put b c i) (i + 1) := by
  have hI := h.inv.put b
  by_cases h4 : b.length < i + 4
  · have he : Ma.put b c i = c := by unfold Ma.put; rw [if_pos h4]
    rw [he] at hI ⊢
    exact ⟨hI, h.hh, h.ph, fun q hq hl => h.hq q (by omega) hl, fun q hq hl => h.pq q (by omega) hl⟩
  · have he : Ma.put b c i = ⟨fun k => if k = hs b i then i + 1 else c.heads k, fun q => if q = i then c.heads (hs b i) else c.prev q⟩ := by unfold Ma.put; rw [if_neg h4]
    rw [he] at hI ⊢
    refine ⟨hI, fun k => ?_, fun q => ?_, fun q hq hl => ?_, fun q hq hl r hr hrq => ?_⟩
    · simp only
      split
      · rename_i e
        intro _
        rw [e, Nat.add_sub_cancel]
      · exact h.hh k
    · simp only
      split
      · rename_i e
        rw [e]
        exact h.hh _
      · exact h.ph q
    · simp only
      split
      · omega
      · rename_i e
        have hne : q ≠ i := fun e2 => e (by rw [e2])
        exact h.hq q (by omega) hl
    · simp only
      split
      · rename_i e
        subst e
        rw [← hrq]
        exact h.hq r hr (by omega)
      · rename_i e
        exact h.pq q (by omega) hl r hr hrq
theorem Full.puts {b : List Int} : ∀ (k : Nat) {c : Chs} {i : Nat}, Full b c i → Full b (puts b c i k) (i + k)
  | 0, _, _, h => h
  | k + 1, c, i, h => by
    have := Full.puts k h.put
    rw [show i + 1 + k = i + (k + 1) by omega] at this
    exact this
theorem fnd_stay {b : List Int} {c : Chs} {i : Nat} : ∀ (t p off : Nat), (fnd b c i t p off (b.length - 5 - i)).2 = b.length - 5 - i
  | 0, _, _ => rfl
  | t + 1, p, off => by
    unfold fnd
    split
    · rfl
    · have := com_le b (b.length - 5 - i) (p - 1) i
      rw [if_neg (by omega)]
      exact fnd_stay t _ _
/-- So many tries come to a place from which all is the same. -/
theorem fnd_far {b : List Int} {c : Chs} {i r : Nat} (h : Full b c i) (hr : r < i) (hd : i - r ≤ 65535) (hl : i + 12 ≤ b.length) (hh : hs b r = hs b i) (hc : com b r i (b.length - 5 - i) = b.length - 5 - i) :
    ∀ (t p off n : Nat), r + 1 ≤ p → p ≤ i → hs b (p - 1) = hs b i → p - 1 - r < t → n ≤ b.length - 5 - i → (fnd b c i t p off n).2 = b.length - 5 - i
  | 0, _, _, _, _, _, _, h, _ => by omega
  | t + 1, p, off, n, h1, h2, h3, h4, h5 => by
    unfold fnd
    rw [if_neg (by omega)]
    by_cases hp : p - 1 = r
    · rw [hp, hc]
      by_cases hn : n < b.length - 5 - i
      · rw [if_pos hn]
        exact fnd_stay _ _ _
      · rw [if_neg hn, show n = b.length - 5 - i by omega]
        exact fnd_stay _ _ _
    · have hk := h.pq (p - 1) (by omega) (by omega) r (by omega) (by rw [hh, h3])
      have hv := h.inv.prev (p - 1)
      have hph := h.ph (p - 1) (by omega)
      have hcl := com_le b (b.length - 5 - i) (p - 1) i
      split
      · exact fnd_far h hr hd hl hh hc t _ _ _ hk (by omega) (by rw [hph, h3]) (by omega) hcl
      · exact fnd_far h hr hd hl hh hc t _ _ _ hk (by omega) (by rw [hph, h3]) (by omega) h5
/-- A text that is a short one again and again. -/
def Rep (b : List Int) (d : Nat) : Prop := ∀ i, i + d < b.length → b.getD (i + d) 0 = b.getD i 0
theorem rep_hs {b : List Int} {d i : Nat} (h : Rep b d) (hd : d ≤ i) (hl : i + 4 ≤ b.length) : hs b (i - d) = hs b i := by
  unfold hs
  have h0 := h (i - d) (by omega)
  have h1 := h (i - d + 1) (by omega)
  have h2 := h (i - d + 2) (by omega)
  have h3 := h (i - d + 3) (by omega)
  rw [show i - d + d = i by omega] at h0
  rw [show i - d + 1 + d = i + 1 by omega] at h1
  rw [show i - d + 2 + d = i + 2 by omega] at h2
  rw [show i - d + 3 + d = i + 3 by omega] at h3
  rw [h0, h1, h2, h3]
theorem rep_find {b : List Int} {c : Chs} {d i : Nat} (hF : Full b c i) (h : Rep b d) (h1 : 1 ≤ d) (h64 : d ≤ 64) (hd : d ≤ i) (hl : i + 12 ≤ b.length) : (find b c i).2 = b.length - 5 - i := by
  have hs1 := rep_hs h hd (by omega)
  have hc : com b (i - d) i (b.length - 5 - i) = b.length - 5 - i := com_all b _ _ _ fun k hk => by
    have := h (i - d + k) (by omega)
    rw [show i - d + k + d = i + k by omega] at this
    exact this.symm
  have hq := hF.hq (i - d) (by omega) (by omega)
  rw [hs1] at hq
  have hf := fnd_far hF (by omega : i - d < i) (by omega) hl hs1 hc 96 (c.heads (hs b i)) 0 0 hq (hF.inv.heads _) (hF.hh _ (by omega)) (by have := hF.inv.heads (hs b i); omega) (Nat.zero_le _)
  unfold find
  rw [if_neg (by omega)]
  exact hf
theorem tl_le (x : Nat) : (tl (x : Int)).length ≤ 1 + x / 255 := by
  unfold tl
  by_cases h : (x : Int) < 15
  · rw [if_pos h]; simp
  · rw [if_neg h, told_length]
    omega
theorem seg_le (lit : List Int) (off : Int) (n : Nat) (h4 : 4 ≤ n) : (seg (lit, off, (n : Int)) false).length ≤ 5 + lit.length + lit.length / 255 + n / 255 := by
  have h1 := tl_le lit.length
  have h2 := tl_le (n - 4)
  rw [show ((n - 4 : Nat) : Int) = (n : Int) - 4 by omega] at h2
  simp only [seg, segT, List.length_append, List.length_cons, List.length_nil, if_neg (by decide : ¬ (false = true))]
  omega
theorem last_le (lit : List Int) (off n : Int) : (seg (lit, off, n) true).length ≤ 2 + lit.length + lit.length / 255 := by
  have h1 := tl_le lit.length
  simp only [seg, segT, List.length_append, List.length_cons, List.length_nil, if_true]
  omega
theorem seqs_ne {b : List Int} : ∀ (f : Nat) (c : Chs) (i from_ : Nat), i ≤ b.length → b.length < i + f → seqs b f c i from_ ≠ []
  | 0, _, _, _, h, h2 => by omega
  | f + 1, c, i, from_, hi, hf => by
    unfold seqs
    split
    · split
      · exact seqs_ne f _ _ _ (by omega) (by omega)
      · simp
    · simp
theorem segs_cons {s : Sq} {r : List Sq} (h : r ≠ []) : (segs (s :: r)).length = (seg s false).length + (segs r).length := by
  rw [segs, List.length_append, decide_eq_false h]
theorem segs_one (s : Sq) : (segs [s]).length = (seg s true).length := by
  rw [segs, List.length_append]
  simp [segs]
theorem rep_cost {b : List Int} {d : Nat} (h : Rep b d) (h1 : 1 ≤ d) (h64 : d ≤ 64) : ∀ (f : Nat) (c : Chs) (i from_ : Nat), Full b c i → from_ ≤ i → i ≤ b.length → b.length < i + f → (segs (seqs b f c i from_)).length ≤ 2 * (d + 4 - i) + (i - from_) + 13 + (b.length - from_) / 255
  | 0, _, _, _, _, _, h2, h3 => by omega
  | f + 1, c, i, from_, hF, hfi, hi, hf => by
    unfold seqs
    by_cases h12 : i + 12 ≤ b.length
    · rw [if_pos h12]
      by_cases h0 : (find b c i).2 = 0
      · rw [if_pos h0]
        have hid : i < d := by
          rcases Nat.lt_or_ge i d with hlt | hge
          · exact hlt
          · have := rep_find hF h h1 h64 hge h12
            omega
        have := rep_cost h h1 h64 f _ (i + 1) from_ hF.put (by omega) (by omega) (by omega)
        omega
      · rw [if_neg h0]
        obtain ⟨s1, s2, s3, s4, s5, -⟩ := find_spec (b := b) hF.inv h0
        by_cases hid : i < d
        · obtain ⟨m, hm⟩ : ∃ m, m = (find b c i).2 := ⟨_, rfl⟩
          rw [← hm] at s4 s5 ⊢
          have hne := seqs_ne (b := b) f (puts b c i m) (i + m) (i + m) (by omega) (by omega)
          rw [segs_cons hne]
          have ih := rep_cost h h1 h64 f _ (i + m) (i + m) (hF.puts m) (Nat.le_refl _) (by omega) (by omega)
          have hs := seg_le ((b.drop from_).take (i - from_)) ((find b c i).1 : Int) m s4
          have hll : ((b.drop from_).take (i - from_)).length = i - from_ := by rw [List.length_take, List.length_drop]; omega
          rw [hll] at hs
          omega
        · have hm := rep_find hF h h1 h64 (by omega) h12
          rw [hm]
          obtain ⟨m, hm2⟩ : ∃ m, m = b.length - 5 - i := ⟨_, rfl⟩
          rw [← hm2]
          have hne := seqs_ne (b := b) f (puts b c i m) (i + m) (i + m) (by omega) (by omega)
          rw [segs_cons hne]
          have hs := seg_le ((b.drop from_).take (i - from_)) ((find b c i).1 : Int) m (by omega)
          have hll : ((b.drop from_).take (i - from_)).length = i - from_ := by rw [List.length_take, List.length_drop]; omega
          rw [hll] at hs
          have hr : (segs (seqs b f (puts b c i m) (i + m) (i + m))).length ≤ 7 := by
            cases f with
            | zero => omega
            | succ f =>
              unfold seqs
              rw [if_neg (by omega), segs_one]
              have := last_le (b.drop (i + m)) 0 0
              rw [List.length_drop] at this
              omega
          omega
    · rw [if_neg h12, segs_one]
      have := last_le (b.drop from_) 0 0
      rw [List.length_drop] at this
      omega
theorem rep_short {b : List Int} {d : Nat} (h : Rep b d) (h1 : 1 ≤ d) (h64 : d ≤ 64) (hN : b.length ≤ 1048576) : (enc b).length ≤ 256 + b.length / 255 := by
  have hc := rep_cost h h1 h64 (b.length + 1) chs0 0 0 (Full.zero b) (Nat.le_refl _) (Nat.zero_le _) (by omega)
  have hl := lit_length b hN
  unfold enc
  split
  · have : (segs (sqs b)).length = (segs (seqs b (b.length + 1) chs0 0 0)).length := rfl
    omega
  · have : (segs (sqs b)).length = (segs (seqs b (b.length + 1) chs0 0 0)).length := rfl
    omega
end Go.Proofs.Ytgplpcjlemjabaa.Ma
