/- What the sums' references of the document do: walks. -/
import Derived.Test.YtgadcnlcldjhpaaSum
namespace Go.Proofs.Ytgadcnlcldjhpaa.Sum
open Go.RowKit Go.Proofs.YtgadcnlcldjhpaaW.PrintWords Go.Proofs.YtgadcnlcldjhpaaW.PrintLast Go.Proofs.YtgadcnlcldjhpaaW.PrintMore
set_option linter.unusedVariables false
set_option linter.unusedSimpArgs false
theorem refEntry_nat (y : Nat) (h1 : y < 4294967296) (w : World) : Calls Try.prog 25 #[.int .u32 y] w fun e w' => e = .returned (.int .u32 (Crc.iter 8 y : Nat)) ∧ w = w' := by
  go_enter Try.func25, Try.ntmps25
  go_wp2
  go_loop [0, 3] (fun v i => ∃ k s : Nat, k ≤ 8 ∧ s < 4294967296 ∧ i = .int .i64 k ∧ v = .int .u32 s ∧ Aside0 (Crc.iter 8 y = Crc.iter (8 - k) s)) (fun _ i => 8 - (intOf i).toNat)
  case atStart => exact ⟨0, y, by omega, by omega, rfl, rfl, ⟨rfl⟩⟩
  case round =>
    obtain ⟨k, s, hk, hs, rfl, rfl, HS⟩ := hrel
    by_cases hlt : k < 8
    · have HN : Aside0 (Crc.iter 8 y = Crc.iter (8 - (k + 1)) (Crc.M s)) := ⟨by rw [HS.out, show 8 - k = (8 - (k + 1)) + 1 from by omega, Crc.iter_succ]⟩
      have hml := Crc.M_lt s hs
      by_cases ho : s % 2 = 1
      · have hb := Bits.stepM_odd s hs ho
        have ho2 : ((s : Int) % 2 == 1) = true := by simp; omega
        have HO := Aside0.mk ho
        clear ho
        go_wp2
        clear hb ho2
        go_round
        case rel => exact ⟨k + 1, Crc.M s, by omega, hml, by go_num, rfl, HN⟩
        case measure => simp [intOf]; omega
      · have hb := Bits.stepM_even s ho
        have ho2 : ((s : Int) % 2 == 1) = false := by simp; omega
        have HO := Aside0.mk ho
        clear ho
        go_wp2
        clear hb ho2
        go_round
        case rel => exact ⟨k + 1, Crc.M s, by omega, hml, by go_num, rfl, HN⟩
        case measure => simp [intOf]; omega
    · have hk8 : 8 - k = 0 := by omega
      have HE := HS.out
      rw [hk8] at HE
      have HE' : Aside0 (Crc.iter 8 y = s) := ⟨HE⟩
      clear HE hk8
      go_wp2
      go_ret
      exact ⟨by rw [HE'.out]; rfl, rfl⟩
theorem refCrc_any (c : Nat) (hc : c < 4294967296) (A : Option Addr) (cap : Nat) (l : List Int) (w : World) (hr : Kd.C (Kd.int .u8) w A l.length l) (hm : l.length ≤ 140737488351232) (hl : ∀ x ∈ l, 0 ≤ x ∧ x < 256) :
    Calls Try.prog 24 #[.int .u32 c, .slice A l.length cap] w fun e w' => e = .returned (.int .u32 (crc c l : Nat)) ∧ w = w' := by
  have HR := Aside0.mk hr
  have HL := Aside0.mk hl
  have hn := Bits.sub32 c hc
  clear hr hl
  go_enter Try.func24, Try.ntmps24
  go_wp2
  clear hn
  go_loop [0, 5] (fun v i => ∃ k s : Nat, k ≤ l.length ∧ s < 4294967296 ∧ i = .int .i64 k ∧ v = .int .u32 s ∧ Aside0 (s = Crc.run (4294967295 - c) ((l.take k).map Int.toNat))) (fun _ i => l.length - (intOf i).toNat)
  case atStart => exact ⟨0, 4294967295 - c, by omega, by omega, rfl, rfl, ⟨by simp; rfl⟩⟩
  case round =>
    obtain ⟨k, s, hk, hs, rfl, rfl, HS⟩ := hrel
    by_cases hlt : k < l.length
    · obtain ⟨ad, e, hx⟩ := Kd.at_int HR.out (k : Int) (by omega) (by omega)
      cases e
      obtain ⟨x, hx1, hx2, hx3⟩ := rd_nat l HL.out k hlt
      have HX3 := Aside0.mk hx3
      clear hx3
      rw [hx1, Int.toNat_natCast] at hx
      clear hx1
      have hb := Bits.xor32 s x hx2
      have hb2 := Bits.xor8_lt s x hx2
      have hb3 := Bits.step32 s x hs hx2
      obtain ⟨y, hy⟩ : ∃ y, y = s % 256 ^^^ x := ⟨_, rfl⟩
      rw [← hy] at hb hb2 hb3
      clear hy
      go_wp2_with (go_at_call 25; refine (refEntry_nat y (by omega) _).mono ?_; rintro e w' ⟨rfl, rfl⟩)
      clear hb hb3
      go_round
      case rel => exact ⟨k + 1, Crc.step s x, by omega, Bits.step_lt s x hs hx2, by go_num, rfl, ⟨by rw [HX3.out, Crc.run_append, ← HS.out]; rfl⟩⟩
      case measure => simp [intOf]; omega
    · have HE : Aside0 (s = Crc.run (4294967295 - c) (l.map Int.toNat)) := ⟨by have h := HS.out; rwa [List.take_of_length_le (by omega)] at h⟩
      have hn := Bits.sub32 s hs
      go_wp2
      go_ret
      exact ⟨by unfold crc; rw [← HE.out]; rfl, rfl⟩
theorem refOn_any (d : Nat) (hd : Aside0 (d < 18446744073709551616)) (A : Option Addr) (cap : Nat) (l : List Int) (w : World) (hr : Kd.C (Kd.int .u8) w A l.length l) (hm : l.length ≤ 140737488351232) (hl : ∀ x ∈ l, 0 ≤ x ∧ x < 256) :
    Calls Try.prog 19 #[.int .u64 d, .slice A l.length cap] w fun e w' => e = .returned (.int .u64 (dig d l : Nat)) ∧ w = w' := by
  have HR := Aside0.mk hr
  have HL := Aside0.mk hl
  clear hr hl
  go_enter Try.func19, Try.ntmps19
  go_wp2
  go_loop [0, 5] (fun v i => ∃ k s : Nat, k ≤ l.length ∧ i = .int .i64 k ∧ v = .int .u64 s ∧ Aside0 (s < 18446744073709551616) ∧ Aside0 (s = Bits.digest d ((l.take k).map Int.toNat))) (fun _ i => l.length - (intOf i).toNat)
  case atStart => exact ⟨0, d, by omega, rfl, rfl, hd, ⟨by simp; rfl⟩⟩
  case round =>
    obtain ⟨k, s, hk, rfl, rfl, HB, HS⟩ := hrel
    by_cases hlt : k < l.length
    · obtain ⟨ad, e, hx⟩ := Kd.at_int HR.out (k : Int) (by omega) (by omega)
      cases e
      obtain ⟨x, hx1, hx2, hx3⟩ := rd_nat l HL.out k hlt
      have HX3 := Aside0.mk hx3
      clear hx3
      rw [hx1, Int.toNat_natCast] at hx
      clear hx1
      go_wp2
      go_round
      case rel => exact ⟨k + 1, Bits.fnv s x, by omega, by go_num, congrArg (Value.int .u64) (Bits.fnv_step s x HB.out hx2), ⟨Bits.fnv_lt s x⟩, ⟨by rw [HX3.out, Bits.digest_append, ← HS.out]; rfl⟩⟩
      case measure => simp [intOf]; omega
    · have HE : Aside0 (s = dig d l) := ⟨by have h := HS.out; rwa [List.take_of_length_le (by omega)] at h⟩
      go_wp2
      go_ret
      exact ⟨by rw [← HE.out]; rfl, rfl⟩
theorem refDigest_any (A : Option Addr) (cap : Nat) (l : List Int) (w : World) (hr : Kd.C (Kd.int .u8) w A l.length l) (hm : l.length ≤ 140737488351232) (hl : ∀ x ∈ l, 0 ≤ x ∧ x < 256) :
    Calls Try.prog 21 #[.slice A l.length cap] w fun e w' => e = .returned (.int .u64 (dig 14695981039346656037 l : Nat)) ∧ w = w' := by
  have HR := Aside0.mk hr
  have HL := Aside0.mk hl
  clear hr hl
  go_enter Try.func21, Try.ntmps21
  go_wp2_with (go_at_call 19; refine (refOn_any 14695981039346656037 ⟨by omega⟩ _ _ l _ HR.out hm HL.out).mono ?_; rintro e w' ⟨rfl, rfl⟩)
  go_ret
  exact ⟨rfl, rfl⟩
theorem refMore_any (T : Nat → Nat) (hT : ∀ i, i < 256 → T i < 4294967296) (c : Nat) (hc : c < 4294967296) (A : Option Addr) (cap : Nat) (l : List Int) (w : World)
    (hr : Kd.C (Kd.int .u8) w A l.length l) (hm : l.length ≤ 140737488351232) (hl : ∀ x ∈ l, 0 ≤ x ∧ x < 256) :
    Calls Try.prog 17 #[.agg (Bits.tab T), .int .u32 c, .slice A l.length cap] w fun e w' => e = .returned (.int .u32 (crcT T c l : Nat)) ∧ Below w.heap.size w w' := by
  have HR := Aside0.mk hr
  have HL := Aside0.mk hl
  have HT := Aside0.mk hT
  have hn := Bits.sub32 c hc
  have HR' : Aside0 (Kd.C (Kd.int .u8) (w.alloc (.cells (Bits.tab T) 24)) A l.length l) := ⟨Kd.C_below hr (below_alloc (Below.refl _ _) _)⟩
  clear hr hl hT HR
  go_enter Try.func17, Try.ntmps17
  go_wp2
  clear hn
  go_loop [1, 7] (fun v i => ∃ k s : Nat, k ≤ l.length ∧ s < 4294967296 ∧ i = .int .i64 k ∧ v = .int .u32 s ∧ Aside0 (s = Bits.runT T (4294967295 - c) ((l.take k).map Int.toNat))) (fun _ i => l.length - (intOf i).toNat)
  case atStart => exact ⟨0, 4294967295 - c, by omega, by omega, rfl, rfl, ⟨by simp; rfl⟩⟩
  case round =>
    obtain ⟨k, s, hk, hs, rfl, rfl, HS⟩ := hrel
    by_cases hlt : k < l.length
    · obtain ⟨ad, e, hx⟩ := Kd.at_int HR'.out (k : Int) (by omega) (by omega)
      cases e
      obtain ⟨x, hx1, hx2, hx3⟩ := rd_nat l HL.out k hlt
      have HX3 := Aside0.mk hx3
      clear hx3
      rw [hx1, Int.toNat_natCast] at hx
      clear hx1
      have hb := Bits.xor32 s x hx2
      have hb2 := Bits.xor8_lt s x hx2
      have hb3 := Bits.stepT_32 T HT.out s x hs hx2
      have hcl := Bits.tab_at T _ hb2
      obtain ⟨y, hy⟩ : ∃ y, y = s % 256 ^^^ x := ⟨_, rfl⟩
      rw [← hy] at hb hb2 hb3 hcl
      clear hy
      go_wp2
      clear hb hb3 hcl
      go_round
      case rel => exact ⟨k + 1, Bits.stepT T s x, by omega, Bits.stepT_lt T HT.out s x hs hx2, by go_num, rfl, ⟨by rw [HX3.out, Bits.runT_append, ← HS.out]; rfl⟩⟩
      case measure => simp [intOf]; omega
    · have HE : Aside0 (s = Bits.runT T (4294967295 - c) (l.map Int.toNat)) := ⟨by have h := HS.out; rwa [List.take_of_length_le (by omega)] at h⟩
      have hn := Bits.sub32 s hs
      go_wp2
      go_ret
      exact ⟨by unfold crcT; rw [← HE.out]; rfl, below_alloc (Below.refl _ _) _⟩
end Go.Proofs.Ytgadcnlcldjhpaa.Sum
