/- Blocks are unpacked: what bytes unpack to. -/
import Derived.Test.YtgplpcjlemjabaaLz8
set_option linter.unusedVariables false
set_option linter.unusedSimpArgs false
namespace Go.Proofs.Ytgplpcjlemjabaa
open Go.RowKit Go.Proofs.YtgplpcjlemjabaaW.PrintWords Go.Proofs.YtgplpcjlemjabaaW.PrintLast Go.Proofs.YtgplpcjlemjabaaW.PrintMore
namespace Lz
/-- The document's Decode, in the words of the program's. -/
theorem refdec_dec (w : World) (b : List Int) (A : Option Addr) (c : Nat) (most : Int) (hC : Kd.C (Kd.int .u8) w A b.length b) (hb : isB b) (hN : b.length ≤ 1000000) (hcap : b.length ≤ c) (hm0 : 0 ≤ most) (hm1 : most ≤ 1048576) :
    Calls Try.prog 36 #[.slice A b.length c, .int .i64 most] w fun e w' => ∃ v8 v9, e = .returned (.tuple #[v8, v9, .int .i64 (dec b most).2.1, .int .i64 (dec b most).2.2]) ∧ Below w.heap.size w w' ∧ Row.OwnB w' w.heap.size v8 (dec b most).1 ∧ RowL w w.heap.size w' v9 (if (dec b most).2.1 = 0 then (run b.length most (b.length + 1) 0 b).1 else []) := by
  refine (refdec_any w b A c most hC hb hN hcap hm0 hm1).mono fun e w' ⟨v8, v9, he, hB, h8, h9⟩ => ⟨v8, v9, ?_⟩
  unfold dec
  rw [if_neg (by omega)]
  by_cases h : (run b.length most (b.length + 1) 0 b).2.1 = 0
  · rw [if_pos h] at h8 h9 ⊢
    rw [if_pos h, h] at he
    exact ⟨he, hB, h8, by simpa using h9⟩
  · rw [if_neg h] at h8 h9 ⊢
    rw [if_neg h] at he
    refine ⟨he, hB, h8, ?_⟩
    rw [if_neg h]
    exact h9
theorem own_none {w : World} {base : Nat} (hb : base ≤ w.heap.size) : Row.OwnB (w.alloc (.cells #[] 5)) base (.slice (some ⟨w.heap.size, 0, none⟩) 0 0) [] := Row.OwnB.lit w base #[] [] rfl hb (by simp)
end Lz
namespace LzDecodes
end LzDecodes
end Go.Proofs.Ytgplpcjlemjabaa
