/- Blocks are unpacked: literals alone. -/
import Derived.Test.YtgplpcjlemjabaaLawLz1
import Derived.OpenShut
set_option linter.unusedVariables false
set_option linter.unusedSimpArgs false
namespace Go.Proofs.Ytgplpcjlemjabaa
open Go.RowKit Go.Proofs.YtgplpcjlemjabaaW.PrintWords Go.Proofs.YtgplpcjlemjabaaW.PrintLast Go.Proofs.YtgplpcjlemjabaaW.PrintMore
namespace Lz
/-- A length's further bytes, written. -/
def told (n : Nat) : List Int := List.replicate (n / 255) 255 ++ [((n % 255 : Nat) : Int)]
theorem lenL_told (m : Int) (r : List Int) : ∀ (k : Nat) (d : Nat), d < 255 → lenL m (List.replicate k 255 ++ [(d : Int)] ++ r) = some (m + 255 * k + d, r) := by
  intro k
  induction k generalizing m with
  | zero => intro d hd; simp only [List.replicate_zero, List.nil_append, List.singleton_append, lenL]; rw [if_pos (by omega)]; simp
  | succ k ih =>
    intro d hd
    rw [List.replicate_succ, List.cons_append, List.cons_append]
    unfold lenL
    rw [if_neg (by omega), ih _ d hd]
    simp only [Option.some.injEq, Prod.mk.injEq, and_true]
    omega
def plain (b : List Int) : List Int := if b.length < 15 then (16 * (b.length : Int)) :: b else 240 :: (told (b.length - 15) ++ b)
theorem dec_plain {b : List Int} (h : b.length ≤ 3000) : dec (plain b) b.length = (b, 0, ((plain b).length : Int)) := by
  have hst : step (plain b).length b.length 0 (plain b) = .last b := by
    unfold plain
    by_cases h15 : b.length < 15
    · rw [if_pos h15]
      have hL : lenH (16 * (b.length : Int) / 16) b = some (((b.length : Nat) : Int), b) := by
        unfold lenH
        rw [if_pos (by omega)]
        simp
      rw [step_d hL (by omega) (by omega)]
      simp [tailS]
    · rw [if_neg h15]
      have hL : lenH ((240 : Int) / 16) (told (b.length - 15) ++ b) = some (((b.length : Nat) : Int), b) := by
        unfold lenH
        rw [if_neg (by decide)]
        unfold told
        rw [lenL_told _ _ _ _ (Nat.mod_lt _ (by decide))]
        simp only [Option.some.injEq, Prod.mk.injEq, and_true]
        have := Nat.div_add_mod (b.length - 15) 255
        omega
      rw [step_d hL (by omega) (by omega)]
      simp [tailS]
  have hrun : run (plain b).length b.length ((plain b).length + 1) 0 (plain b) = ([(b, 0, 0)], 0, 0) := by
    unfold run
    rw [hst]
  unfold dec
  rw [if_neg (by omega), hrun]
  simp [outs, cp]
theorem told_length (n : Nat) : (told n).length = n / 255 + 1 := by simp [told]
theorem plain_length (b : List Int) (h : b.length ≤ 3000) : (plain b).length ≤ 4000 := by
  unfold plain
  split
  · simp; omega
  · simp [told_length]; omega
theorem plain_isB {b : List Int} (hb : isB b) (h : b.length ≤ 3000) : isB (plain b) := by
  unfold plain
  split
  · intro x hx
    simp only [List.mem_cons] at hx
    rcases hx with rfl | hx
    · omega
    · exact hb x hx
  · intro x hx
    simp only [List.mem_cons, List.mem_append, told, List.mem_replicate, List.mem_nil_iff, or_false] at hx
    rcases hx with rfl | (⟨_, rfl⟩ | rfl) | hx
    · omega
    · omega
    · have := Nat.mod_lt (b.length - 15) (by decide : 255 > 0); omega
    · exact hb x hx
theorem own_one {w : World} {base g : Nat} {x : Int} (h : w.heap[g]? = some (.cells #[.int .u8 x] 5 (0, 0))) (hb : base ≤ g) : Row.OwnB w base (.slice (some ⟨g, 0, none⟩) 1 1) [x] :=
  Kd.R_of_own ⟨rfl, Or.inr ⟨g, 1, _, rfl, hb, h, Nat.le_refl _, by decide, rfl, rfl⟩⟩ (fun _ _ => trivial)
end Lz
namespace LzPlain
end LzPlain
end Go.Proofs.Ytgplpcjlemjabaa
