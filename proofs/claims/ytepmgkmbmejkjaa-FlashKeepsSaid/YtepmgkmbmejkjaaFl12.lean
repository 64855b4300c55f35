/- A flash memory: what a write, an erasure leaves as it was. -/
import Derived.Test.YtepmgkmbmejkjaaFl11
set_option linter.unusedVariables false
set_option linter.unusedSimpArgs false
namespace Go.Proofs.Ytepmgkmbmejkjaa.Fl
open Go.RowKit Go.Proofs.YtepmgkmbmejkjaaW.PrintWords Go.Proofs.YtepmgkmbmejkjaaW.PrintLast Go.Proofs.YtepmgkmbmejkjaaW.PrintMore
theorem splice_out {L cs : List Int} {o : Nat} (h : o + cs.length ≤ L.length) (k : Nat) (hk : k < o ∨ o + cs.length ≤ k) : (splice L o cs).getD k 0 = L.getD k 0 := by
  unfold splice
  rw [List.getD_eq_getElem?_getD, List.getD_eq_getElem?_getD, List.getElem?_append]
  simp only [List.length_take]
  split
  · rw [List.getElem?_take, if_pos (by omega)]
  · rw [List.getElem?_append, if_neg (by omega), List.getElem?_drop]
    congr 2
    omega
theorem write_keeps {x : Fl} (hs : Shape x) (page : Int) (b : List Int) :
    ((writeP x page b).2 = 0 ∨ (writeP x page b).2 = 40 → ∃ p : Nat, page = p ∧ p * x.B + x.B ≤ x.mem.length ∧ ∀ k, (k < p * x.B ∨ p * x.B + x.B ≤ k) → (writeP x page b).1.mem.getD k 0 = x.mem.getD k 0) ∧
    (¬ ((writeP x page b).2 = 0 ∨ (writeP x page b).2 = 40) → (writeP x page b).1.mem = x.mem) := by
  unfold writeP
  split
  · rename_i hin
    obtain ⟨p, rfl⟩ := Int.eq_ofNat_of_zero_le hin.1
    have hpd : p < x.S * x.P := by have := hin.2; rw [hs.dirty] at this; omega
    have hfit := page_fits hs hpd
    split
    · exact ⟨fun _ => ⟨p, rfl, hfit, fun _ _ => rfl⟩, fun _ => rfl⟩
    · rename_i hlong
      split
      · exact ⟨fun _ => ⟨p, rfl, hfit, fun _ _ => rfl⟩, fun _ => rfl⟩
      split
      · exact ⟨fun _ => ⟨p, rfl, hfit, fun _ _ => rfl⟩, fun _ => rfl⟩
      rw [Int.toNat_natCast]
      have l1 : (splice x.mem (p * x.B) (List.replicate x.B (255 : Int))).length = x.mem.length := length_splice _ _ _ (by rw [List.length_replicate]; exact hfit)
      have l2 : (splice (splice x.mem (p * x.B) (List.replicate x.B (255 : Int))) (p * x.B) b).length = x.mem.length := by rw [length_splice _ _ _ (by rw [l1]; omega)]; exact l1
      obtain ⟨x1, hx1⟩ : ∃ x1, x1 = { x with dirty := x.dirty.set p true, mem := splice (splice x.mem (p * x.B) (List.replicate x.B 255)) (p * x.B) b } := ⟨_, rfl⟩
      rw [← hx1]
      obtain ⟨e1, e2, e3, e4, e5, e6, e7, e8⟩ := fails_same x1
      have hm1 : ∀ k, (k < p * x.B ∨ p * x.B + x.B ≤ k) → x1.mem.getD k 0 = x.mem.getD k 0 := by
        intro k hk
        rw [hx1]
        simp only
        rw [splice_out (by rw [l1]; omega) k (by omega), splice_out (by rw [List.length_replicate]; exact hfit) k (by rw [List.length_replicate]; exact hk)]
      have hl1 : x1.mem.length = x.mem.length := by rw [hx1]; exact l2
      dsimp only
      split
      · refine ⟨fun _ => ⟨p, rfl, hfit, fun k hk => ?_⟩, fun h => absurd (Or.inr rfl) h⟩
        simp only
        rw [splice_out (by rw [List.length_take, e4, hl1]; omega) k (by rw [List.length_take]; omega), e4]
        exact hm1 k hk
      · refine ⟨fun _ => ⟨p, rfl, hfit, fun k hk => ?_⟩, fun h => absurd (Or.inl rfl) h⟩
        rw [e4]
        exact hm1 k hk
  · exact ⟨fun h => by simp at h, fun _ => rfl⟩
theorem erase_keeps {x : Fl} (hs : Shape x) (sec : Int) :
    ((eraseP x sec).2 = 0 ∨ (eraseP x sec).2 = 40 → ∃ s : Nat, sec = s ∧ s * (x.P * x.B) + x.P * x.B ≤ x.mem.length ∧ ∀ k, (k < s * (x.P * x.B) ∨ s * (x.P * x.B) + x.P * x.B ≤ k) → (eraseP x sec).1.mem.getD k 0 = x.mem.getD k 0) ∧
    (¬ ((eraseP x sec).2 = 0 ∨ (eraseP x sec).2 = 40) → (eraseP x sec).1.mem = x.mem) := by
  unfold eraseP
  split
  · rename_i hin
    obtain ⟨s, rfl⟩ := Int.eq_ofNat_of_zero_le hin.1
    have hsS : s < x.S := by have := hin.2; rw [hs.worn] at this; omega
    obtain ⟨hfit, hfitd⟩ := sector_fits hs hsS
    split
    · exact ⟨fun _ => ⟨s, rfl, hfit, fun _ _ => rfl⟩, fun _ => rfl⟩
    rw [Int.toNat_natCast]
    obtain ⟨x1, hx1⟩ : ∃ x1, x1 = { x with worn := x.worn.set s (x.worn.getD s 0 + 1) } := ⟨_, rfl⟩
    rw [← hx1]
    obtain ⟨e1, e2, e3, e4, e5, e6, e7, e8⟩ := fails_same x1
    have hm1 : x1.mem = x.mem := by rw [hx1]
    dsimp only
    split
    · refine ⟨fun _ => ⟨s, rfl, hfit, fun k hk => ?_⟩, fun h => absurd (Or.inr rfl) h⟩
      simp only
      rw [e4, hm1, splice_out (by rw [List.length_take]; omega) k (by rw [List.length_take]; omega)]
    · refine ⟨fun _ => ⟨s, rfl, hfit, fun k hk => ?_⟩, fun h => absurd (Or.inl rfl) h⟩
      simp only
      rw [e4, hm1, splice_out (by rw [List.length_replicate]; exact hfit) k (by rw [List.length_replicate]; exact hk)]
  · exact ⟨fun h => by simp at h, fun _ => rfl⟩
/-- Power is on, nothing is armed. -/
def Calm (x : Fl) : Prop := x.off = false ∧ x.armed = false
theorem fails_calm {x : Fl} (h : Calm x) : failsP x = (false, { x with ops := x.ops + 1 }) := by
  unfold failsP
  rw [if_neg (by rw [h.2]; decide)]
theorem write_calm {x : Fl} (h : Calm x) (page : Int) (b : List Int) : Calm (writeP x page b).1 := by
  unfold writeP
  split
  · split
    · exact h
    split
    · exact h
    split
    · exact h
    rw [fails_calm (x := { x with dirty := x.dirty.set page.toNat true, mem := splice (splice x.mem (page.toNat * x.B) (List.replicate x.B 255)) (page.toNat * x.B) b }) h]
    exact h
  · exact h
theorem erase_calm {x : Fl} (h : Calm x) (sec : Int) : Calm (eraseP x sec).1 := by
  unfold eraseP
  split
  · split
    · exact h
    rw [fails_calm (x := { x with worn := x.worn.set sec.toNat (x.worn.getD sec.toNat 0 + 1) }) h]
    exact h
  · exact h
end Go.Proofs.Ytepmgkmbmejkjaa.Fl
