/- What the sums' functions of the program do: walks. -/
import Derived.Test.YtogplkochcalpaaProg
import Derived.WalkKit
import Derived.WalkLawsBesides
import Derived.Test.YtogplkochcalpaaBits
import Derived.Test.YtogplkochcalpaaWWords
import Derived.Test.YtogplkochcalpaaWLast
import Derived.Test.YtogplkochcalpaaWMore
namespace Go.Proofs.Ytogplkochcalpaa.Sum
open Go.RowKit Go.Proofs.YtogplkochcalpaaW.PrintWords Go.Proofs.YtogplkochcalpaaW.PrintLast Go.Proofs.YtogplkochcalpaaW.PrintMore
set_option linter.unusedVariables false
set_option linter.unusedSimpArgs false

/-- The number that a sum of bytes is. -/
def crc (c : Nat) (l : List Int) : Nat := 4294967295 - Crc.run (4294967295 - c) (l.map Int.toNat)
def crcT (T : Nat → Nat) (c : Nat) (l : List Int) : Nat := 4294967295 - Bits.runT T (4294967295 - c) (l.map Int.toNat)
def dig (d : Nat) (l : List Int) : Nat := Bits.digest d (l.map Int.toNat)

/-- A byte of the list, as a number. -/
theorem rd_nat (l : List Int) (hl : ∀ x ∈ l, 0 ≤ x ∧ x < 256) (k : Nat) (hk : k < l.length) : ∃ x : Nat, rd l (k : Int) = (x : Int) ∧ x < 256 ∧ (l.take (k + 1)).map Int.toNat = (l.take k).map Int.toNat ++ [x] := by
  have h1 := hl l[k] (List.getElem_mem hk)
  refine ⟨l[k].toNat, ?_, by omega, ?_⟩
  · unfold rd
    rw [Int.toNat_natCast, List.getD_eq_getElem?_getD, List.getElem?_eq_getElem hk]
    simp only [Option.getD_some]
    omega
  · rw [List.take_succ_eq_append_getElem hk, List.map_append]
    rfl
theorem entry_nat (y : Nat) (h1 : y < 4294967296) (w : World) : Calls Try.prog 67 #[.int .u32 y] w fun e w' => e = .returned (.int .u32 (Crc.iter 8 y : Nat)) ∧ w = w' := by
  go_enter Try.func67, Try.ntmps67
  go_wp2
  go_loop [0, 3] (fun v i => ∃ k s : Nat, k ≤ 8 ∧ s < 4294967296 ∧ i = .int .i64 k ∧ v = .int .u32 s ∧ Aside0 (Crc.iter 8 y = Crc.iter (8 - k) s)) (fun _ i => 8 - (intOf i).toNat)
  case atStart => exact ⟨0, y, by omega, by omega, rfl, rfl, ⟨rfl⟩⟩
  case round =>
    obtain ⟨k, s, hk, hs, rfl, rfl, HS⟩ := hrel
    by_cases hlt : k < 8
    · have hb := Bits.stepM s hs
      go_wp2
      clear hb
      go_round
      case rel => exact ⟨k + 1, Crc.M s, by omega, Crc.M_lt s hs, by go_num, rfl, ⟨by rw [HS.out, show 8 - k = (8 - (k + 1)) + 1 from by omega, Crc.iter_succ]⟩⟩
      case measure => simp [intOf]; omega
    · have hk8 : 8 - k = 0 := by omega
      have HE := HS.out
      rw [hk8] at HE
      have HE' : Aside0 (Crc.iter 8 y = s) := ⟨HE⟩
      clear HE hk8
      go_wp2
      go_ret
      exact ⟨by rw [HE'.out]; rfl, rfl⟩

theorem more_nil (c : Nat) (hc : c < 4294967296) (A : Option Addr) (cap : Nat) (l : List Int) (w : World) (hr : Kd.C (Kd.int .u8) w A l.length l) (hm : l.length ≤ 140737488351232) (hl : ∀ x ∈ l, 0 ≤ x ∧ x < 256) :
    Calls Try.prog 62 #[.pointer none, .int .u32 c, .slice A l.length cap] w fun e w' => e = .returned (.int .u32 (crc c l : Nat)) ∧ w = w' := by
  have HR := Aside0.mk hr
  have HL := Aside0.mk hl
  have hn := Bits.not32 c hc
  clear hr hl
  go_enter Try.func62, Try.ntmps62
  go_wp2
  clear hn
  go_loop [1, 14] (fun v i => ∃ k s : Nat, k ≤ l.length ∧ s < 4294967296 ∧ i = .int .i64 k ∧ v = .int .u32 s ∧ Aside0 (s = Crc.run (4294967295 - c) ((l.take k).map Int.toNat))) (fun _ i => l.length - (intOf i).toNat)
  case atStart => exact ⟨0, 4294967295 - c, by omega, by omega, rfl, rfl, ⟨by simp; rfl⟩⟩
  case round =>
    obtain ⟨k, s, hk, hs, rfl, rfl, HS⟩ := hrel
    by_cases hlt : k < l.length
    · obtain ⟨ad, e, hx⟩ := Kd.at_int HR.out (k : Int) (by omega) (by omega)
      cases e
      obtain ⟨x, hx1, hx2, hx3⟩ := rd_nat l HL.out k hlt
      have HX3 := Aside0.mk hx3
      clear hx3
      rw [hx1, Int.toNat_natCast] at hx
      clear hx1
      have hb := Bits.xor8 s x hx2
      have hb2 := Bits.xor8_lt s x hx2
      have hb3 := Bits.step32 s x hs hx2
      obtain ⟨y, hy⟩ : ∃ y, y = s % 256 ^^^ x := ⟨_, rfl⟩
      rw [← hy] at hb hb2 hb3
      clear hy
      go_wp2_with (go_at_call 67; refine (entry_nat y (by omega) _).mono ?_; rintro e w' ⟨rfl, rfl⟩)
      clear hb hb3
      go_round
      case rel => exact ⟨k + 1, Crc.step s x, by omega, Bits.step_lt s x hs hx2, by go_num, rfl, ⟨by rw [HX3.out, Crc.run_append, ← HS.out]; rfl⟩⟩
      case measure => simp [intOf]; omega
    · have HE : Aside0 (s = Crc.run (4294967295 - c) (l.map Int.toNat)) := ⟨by have h := HS.out; rwa [List.take_of_length_le (by omega)] at h⟩
      have hn := Bits.not32 s hs
      go_wp2
      go_ret
      exact ⟨by unfold crc; rw [← HE.out]; rfl, rfl⟩
theorem crc_nil (A : Option Addr) (cap : Nat) (l : List Int) (w : World) (hr : Kd.C (Kd.int .u8) w A l.length l) (hm : l.length ≤ 140737488351232) (hl : ∀ x ∈ l, 0 ≤ x ∧ x < 256) :
    Calls Try.prog 43 #[.pointer none, .slice A l.length cap] w fun e w' => e = .returned (.int .u32 (crc 0 l : Nat)) ∧ w = w' := by
  have HR := Aside0.mk hr
  have HL := Aside0.mk hl
  clear hr hl
  go_enter Try.func43, Try.ntmps43
  go_wp2_with (go_at_call 62; refine (more_nil 0 (by omega) _ _ l _ HR.out hm HL.out).mono ?_; rintro e w' ⟨rfl, rfl⟩)
  go_ret
  exact ⟨rfl, rfl⟩
theorem refEntry_nat (y : Nat) (h1 : y < 4294967296) (w : World) : Calls Try.prog 55 #[.int .u32 y] w fun e w' => e = .returned (.int .u32 (Crc.iter 8 y : Nat)) ∧ w = w' := by
  go_enter Try.func55, Try.ntmps55
  go_wp2
  go_loop [0, 3] (fun v i => ∃ k s : Nat, k ≤ 8 ∧ s < 4294967296 ∧ i = .int .i64 k ∧ v = .int .u32 s ∧ Aside0 (Crc.iter 8 y = Crc.iter (8 - k) s)) (fun _ i => 8 - (intOf i).toNat)
  case atStart => exact ⟨0, y, by omega, by omega, rfl, rfl, ⟨rfl⟩⟩
  case round =>
    obtain ⟨k, s, hk, hs, rfl, rfl, HS⟩ := hrel
    by_cases hlt : k < 8
    · have HN : Aside0 (Crc.iter 8 y = Crc.iter (8 - (k + 1)) (Crc.M s)) := ⟨by rw [HS.out, show 8 - k = (8 - (k + 1)) + 1 from by omega, Crc.iter_succ]⟩
      have hml := Crc.M_lt s hs
      by_cases ho : s % 2 = 1
      · have hb := Bits.stepM_odd s hs ho
        have ho2 : ((s : Int) % 2 == 1) = true := by simp; omega
        have HO := Aside0.mk ho
        clear ho
        go_wp2
        clear hb ho2
        go_round
        case rel => exact ⟨k + 1, Crc.M s, by omega, hml, by go_num, rfl, HN⟩
        case measure => simp [intOf]; omega
      · have hb := Bits.stepM_even s ho
        have ho2 : ((s : Int) % 2 == 1) = false := by simp; omega
        have HO := Aside0.mk ho
        clear ho
        go_wp2
        clear hb ho2
        go_round
        case rel => exact ⟨k + 1, Crc.M s, by omega, hml, by go_num, rfl, HN⟩
        case measure => simp [intOf]; omega
    · have hk8 : 8 - k = 0 := by omega
      have HE := HS.out
      rw [hk8] at HE
      have HE' : Aside0 (Crc.iter 8 y = s) := ⟨HE⟩
      clear HE hk8
      go_wp2
      go_ret
      exact ⟨by rw [HE'.out]; rfl, rfl⟩
theorem refCrc_any (c : Nat) (hc : c < 4294967296) (A : Option Addr) (cap : Nat) (l : List Int) (w : World) (hr : Kd.C (Kd.int .u8) w A l.length l) (hm : l.length ≤ 140737488351232) (hl : ∀ x ∈ l, 0 ≤ x ∧ x < 256) :
    Calls Try.prog 32 #[.int .u32 c, .slice A l.length cap] w fun e w' => e = .returned (.int .u32 (crc c l : Nat)) ∧ w = w' := by
  have HR := Aside0.mk hr
  have HL := Aside0.mk hl
  have hn := Bits.sub32 c hc
  clear hr hl
  go_enter Try.func32, Try.ntmps32
  go_wp2
  clear hn
  go_loop [0, 5] (fun v i => ∃ k s : Nat, k ≤ l.length ∧ s < 4294967296 ∧ i = .int .i64 k ∧ v = .int .u32 s ∧ Aside0 (s = Crc.run (4294967295 - c) ((l.take k).map Int.toNat))) (fun _ i => l.length - (intOf i).toNat)
  case atStart => exact ⟨0, 4294967295 - c, by omega, by omega, rfl, rfl, ⟨by simp; rfl⟩⟩
  case round =>
    obtain ⟨k, s, hk, hs, rfl, rfl, HS⟩ := hrel
    by_cases hlt : k < l.length
    · obtain ⟨ad, e, hx⟩ := Kd.at_int HR.out (k : Int) (by omega) (by omega)
      cases e
      obtain ⟨x, hx1, hx2, hx3⟩ := rd_nat l HL.out k hlt
      have HX3 := Aside0.mk hx3
      clear hx3
      rw [hx1, Int.toNat_natCast] at hx
      clear hx1
      have hb := Bits.xor32 s x hx2
      have hb2 := Bits.xor8_lt s x hx2
      have hb3 := Bits.step32 s x hs hx2
      obtain ⟨y, hy⟩ : ∃ y, y = s % 256 ^^^ x := ⟨_, rfl⟩
      rw [← hy] at hb hb2 hb3
      clear hy
      go_wp2_with (go_at_call 55; refine (refEntry_nat y (by omega) _).mono ?_; rintro e w' ⟨rfl, rfl⟩)
      clear hb hb3
      go_round
      case rel => exact ⟨k + 1, Crc.step s x, by omega, Bits.step_lt s x hs hx2, by go_num, rfl, ⟨by rw [HX3.out, Crc.run_append, ← HS.out]; rfl⟩⟩
      case measure => simp [intOf]; omega
    · have HE : Aside0 (s = Crc.run (4294967295 - c) (l.map Int.toNat)) := ⟨by have h := HS.out; rwa [List.take_of_length_le (by omega)] at h⟩
      have hn := Bits.sub32 s hs
      go_wp2
      go_ret
      exact ⟨by unfold crc; rw [← HE.out]; rfl, rfl⟩
end Go.Proofs.Ytogplkochcalpaa.Sum
