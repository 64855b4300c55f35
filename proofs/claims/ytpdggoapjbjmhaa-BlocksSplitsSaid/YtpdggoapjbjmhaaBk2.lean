/- Blocks: Put; are all noughts; Store: walks. -/
import Derived.Test.YtpdggoapjbjmhaaBk1
import Derived.Test.YtpdggoapjbjmhaaRow
import Derived.OpenShut
set_option linter.unusedVariables false
set_option linter.unusedSimpArgs false
namespace Go.Proofs.Ytpdggoapjbjmhaa.Bk
open Go.RowKit Go.Proofs.Ytpdggoapjbjmhaa.Fd Go.Proofs.Ytpdggoapjbjmhaa.Bg Go.Proofs.YtpdggoapjbjmhaaW.PrintWords Go.Proofs.YtpdggoapjbjmhaaW.PrintLast Go.Proofs.YtpdggoapjbjmhaaW.PrintMore
theorem num_any (n : Int) (w : World) : Calls Try.prog 17 #[.int .i64 n] w fun e w' => e = .returned (.int .i64 n) ∧ w = w' := by
  go_enter Try.func17, Try.ntmps17
  go_wp2
  go_ret
  exact ⟨rfl, rfl⟩
/-- A number behind bytes, in new memory. -/
theorem put_any (w : World) (l : List Int) (A : Option Addr) (c n k : Nat) (hC : ∀ w', Below w.heap.size w w' → Kd.C (Kd.int .u8) w' A l.length l) (hl : l.length ≤ 100000000) (hk : wid k) (hn : n < 2 ^ (8 * k)) : Calls Try.prog 50 #[.slice A l.length c, .int .u64 n, .int .i64 k] w fun e w' => ∃ v, e = .returned (.tuple #[v, .int .i64 0]) ∧ Row.OwnB w' w.heap.size v (l ++ le n k) ∧ Below w.heap.size w w' := by
  have KC := Aside0.mk hC
  have KW := Aside0.mk (fun w1 => wide_yes k hk w1)
  have KF := Aside0.mk (fun w1 => fits_yes n k hk hn w1)
  have hk8 : k ≤ 8 := by rcases hk with rfl | rfl | rfl | rfl <;> decide
  clear hC hn hk
  go_enter Try.func50, Try.ntmps50
  go_wp2_with (first
    | (go_at_call 59; refine (KW.out _).mono ?_; rintro e w' ⟨rfl, rfl⟩)
    | (go_at_call 67; refine (KF.out _).mono ?_; rintro e w' ⟨rfl, rfl⟩)
    | (go_at_call 69; apply Aside0.out))
  refine ⟨?_⟩
  refine (copied_any w l A c KC.out (by omega)).mono ?_
  rintro e w1 ⟨v1, rfl, hO, hB⟩
  have KS := Aside0.mk (store_any w w1 w.heap.size v1 l n k hO hB hB.size hl hk8)
  obtain ⟨A1, c1, rfl, -, -⟩ := hO.slice
  clear hO hB
  go_wp2_with (go_at_call 68; apply Aside0.out)
  refine ⟨?_⟩
  refine KS.out.mono ?_
  rintro e w2 ⟨v2, rfl, hG⟩
  have KG := Aside0.mk hG
  obtain ⟨A2, c2, rfl, -, -⟩ := hG.own.slice
  clear hG
  go_wp2
  go_ret2
  have hO2 := KG.out.own
  rw [List.length_append] at hO2
  exact ⟨_, rfl, hO2, KG.out.below⟩
def all0 (l : List Int) : Bool := l.all (· == 0)
theorem no_any (x : Int) (w : World) : Calls Try.prog 48 #[.int .u8 x] w fun e w' => e = .returned (.bool (x != 0)) ∧ w = w' := by
  go_enter Try.func48, Try.ntmps48
  go_wp2
  go_ret
  exact ⟨rfl, rfl⟩
theorem index_any (w : World) (l : List Int) (A : Option Addr) (c : Nat) (hC : Kd.C (Kd.int .u8) w A l.length l) (hm : l.length ≤ 140737488355328) :
    Calls Try.prog 64 #[.slice A l.length c, .func (.func 48) #[] #[]] w fun e w' => ∃ i : Int, e = .returned (.int .i64 i) ∧ decide (i ≥ 0) = !(all0 l) ∧ w = w' := by
  have KC := Aside0.mk hC
  clear hC
  go_enter Try.func64, Try.ntmps64
  go_wp2
  go_loop [5, 8] (fun v i => ∃ k : Nat, k ≤ l.length ∧ i = .int .i64 k ∧ Aside0 (all0 (l.take k) = true)) (fun _ i => l.length - (intOf i).toNat)
  case atStart => exact ⟨0, by omega, rfl, ⟨rfl⟩⟩
  case round =>
    obtain ⟨k, hk, rfl, HA⟩ := hrel
    by_cases hlt : k < l.length
    · obtain ⟨ad, rfl, hcel⟩ := Kd.at_int KC.out (k : Int) (by omega) (by omega)
      rw [Int.toNat_natCast] at hcel
      have ht : l.take (k + 1) = l.take k ++ [rd l (k : Int)] := by
        rw [List.take_add_one, List.getElem?_eq_getElem hlt]
        unfold rd
        rw [Int.toNat_natCast, List.getD_eq_getElem?_getD, List.getElem?_eq_getElem hlt]
        rfl
      obtain ⟨x, hx⟩ : ∃ x, x = rd l (k : Int) := ⟨_, rfl⟩
      rw [← hx] at hcel ht
      by_cases h0 : x = 0
      · have hN : Aside0 (all0 (l.take (k + 1)) = true) := ⟨by unfold all0; rw [ht, List.all_append]; have := HA.out; unfold all0 at this; rw [this, h0]; rfl⟩
        have hb : (x != 0) = false := by simp [h0]
        clear ht h0 hx
        go_wp2_with (go_at_call 48; refine (no_any _ _).mono ?_; rintro e w' ⟨rfl, rfl⟩)
        go_round
        case rel => exact ⟨k + 1, by omega, by go_num, hN⟩
        case measure => simp [intOf]; omega
      · have hN : Aside0 (all0 l = false) := ⟨by
          unfold all0
          rw [List.all_eq_false]
          refine ⟨x, ?_, by simpa using h0⟩
          rw [hx]
          unfold rd
          rw [Int.toNat_natCast, List.getD_eq_getElem?_getD, List.getElem?_eq_getElem hlt]
          exact List.getElem_mem _⟩
        have hb : (x != 0) = true := by simp [h0]
        clear ht h0 hx
        go_wp2_with (go_at_call 48; refine (no_any _ _).mono ?_; rintro e w' ⟨rfl, rfl⟩)
        go_ret
        exact ⟨k, rfl, by rw [hN.out]; simp, rfl⟩
    · have hN : Aside0 (all0 l = true) := ⟨by have := HA.out; rwa [List.take_of_length_le (by omega)] at this⟩
      go_wp2
      go_ret
      exact ⟨-1, rfl, by rw [hN.out]; rfl, rfl⟩
theorem contains_any (w : World) (l : List Int) (A : Option Addr) (c : Nat) (hC : Kd.C (Kd.int .u8) w A l.length l) (hm : l.length ≤ 140737488355328) :
    Calls Try.prog 47 #[.slice A l.length c, .func (.func 48) #[] #[]] w fun e w' => e = .returned (.bool (!(all0 l))) ∧ w = w' := by
  have KI := Aside0.mk (index_any w l A c hC hm)
  clear hC
  go_enter Try.func47, Try.ntmps47
  go_wp2_with (go_at_call 64; apply Aside0.out)
  refine ⟨?_⟩
  refine KI.out.mono ?_
  rintro e w' ⟨i, rfl, hi, rfl⟩
  go_wp2
  go_ret
  exact ⟨rfl, rfl⟩
end Go.Proofs.Ytpdggoapjbjmhaa.Bk
