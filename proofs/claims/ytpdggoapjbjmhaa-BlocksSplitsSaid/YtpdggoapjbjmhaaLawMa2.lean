/- Blocks are packed: packed if it is worth it. -/
import Derived.Test.YtpdggoapjbjmhaaKN
import Derived.Laws.Externs
set_option linter.unusedVariables false
set_option linter.unusedSimpArgs false
namespace Go.Proofs.Ytpdggoapjbjmhaa
open Go.RowKit Go.Proofs.YtpdggoapjbjmhaaW.PrintWords Go.Proofs.YtpdggoapjbjmhaaW.PrintLast Go.Proofs.YtpdggoapjbjmhaaW.PrintMore
namespace Ma
open Go.Proofs.Ytpdggoapjbjmhaa.Lz
theorem bits_any (n : Int) (w : World) : (callFunc 23 #[.int .u64 n]).run Try.prog w = .ok (.value (.float .f64 n.toNat)) w := by
  rw [run_callFunc_extern (fn := Try.f23) Try.func23 (by kernel_rfl) (by kernel_rfl) (by kernel_rfl) (show Extern.find Try.f23 = some Extern.MathFloatBits.float64frombits from by kernel_rfl)]
  rfl
theorem pack_back {b : List Int} (hb : isB b) (hN : b.length ≤ 1048576) (x : Nat) : unp (packP b x) (Wo.worth b.length (enc b).length x) b.length = (b, 0) := by
  unfold unp packP
  cases Wo.worth b.length (enc b).length x with
  | true =>
    simp only [if_true]
    rw [enc_dec hb hN]
  | false =>
    simp only [if_neg (by decide : ¬ (false = true))]
    rw [if_neg (by omega), if_neg (by omega)]
theorem packP_isB {b : List Int} (hb : isB b) (hN : b.length ≤ 1048576) (x : Nat) : isB (packP b x) := by
  unfold packP
  split
  · exact enc_isB hb hN
  · exact hb
theorem packP_len {b : List Int} (hN : b.length ≤ 900000) (x : Nat) : (packP b x).length ≤ 1000000 := by
  have hbd := enc_bound b (by omega)
  have hbd2 : bound b.length ≤ 950000 := by unfold bound; split <;> (try split) <;> omega
  unfold packP
  split <;> omega
end Ma
namespace MatchPacks
end MatchPacks
end Go.Proofs.Ytpdggoapjbjmhaa
