/- Blocks: what was stored is loaded: plain; the document's Noughts: a walk. -/
import Derived.Test.YtpdggoapjbjmhaaBk8
import Derived.Test.YtpdggoapjbjmhaaBk3
import Derived.Test.YtpdggoapjbjmhaaLawMa2
set_option linter.unusedVariables false
set_option linter.unusedSimpArgs false
namespace Go.Proofs.Ytpdggoapjbjmhaa.Bk
open Go.RowKit Go.Proofs.Ytpdggoapjbjmhaa.Fd Go.Proofs.Ytpdggoapjbjmhaa.Bg Go.Proofs.Ytpdggoapjbjmhaa.Lz Go.Proofs.Ytpdggoapjbjmhaa.Ma Go.Proofs.YtpdggoapjbjmhaaW.PrintWords Go.Proofs.YtpdggoapjbjmhaaW.PrintLast Go.Proofs.YtpdggoapjbjmhaaW.PrintMore
theorem dec_nil (m : Int) : (dec [] m).1 = [] := by
  unfold dec
  split
  · rfl
  · show (if (run 0 m 1 0 []).2.1 = 0 then (outs [] (run 0 m 1 0 []).1, 0, 0) else ([], (run 0 m 1 0 []).2)).1 = []
    split
    · simp [run, outs, Lz.step]
    · rfl
theorem enc_pos {b : List Int} (hb : isB b) (hN : b.length ≤ 1048576) (h : b ≠ []) : 1 ≤ (enc b).length := by
  refine Nat.pos_of_ne_zero fun h0 => h ?_
  have h1 : enc b = [] := List.eq_nil_of_length_eq_zero h0
  have h2 := enc_dec hb hN
  rw [h1] at h2
  have h3 := dec_nil (b.length : Int)
  rw [h2] at h3
  exact h3
theorem all0_ne {b : List Int} (h : all0 b = false) : b ≠ [] := by
  rintro rfl
  cases h
theorem dat_len {b : List Int} (hb : isB b) (hN : b.length ≤ 1048576) (hz : all0 b = false) (x : Nat) : 1 ≤ (dat b x).length ∧ (dat b x).length ≤ 1048576 := by
  have hne := all0_ne hz
  have h1 : 1 ≤ b.length := Nat.pos_of_ne_zero fun h0 => hne (List.eq_nil_of_length_eq_zero h0)
  unfold dat pk
  cases hw : Wo.worth b.length (enc b).length x with
  | false => exact ⟨h1, hN⟩
  | true =>
    by_cases hs : (enc b).length ≤ 1048576
    · rw [decide_eq_true hs]
      exact ⟨enc_pos hb hN hne, hs⟩
    · rw [decide_eq_false hs]
      exact ⟨h1, hN⟩
theorem dat_isB {b : List Int} (hb : isB b) (hN : b.length ≤ 1048576) (x : Nat) : isB (dat b x) := by
  unfold dat
  split
  · exact enc_isB hb hN
  · exact hb
theorem sumd_isB {d : List Int} (h : isB d) : isB (sumd d) := isB_app h (le_isB _ _)
theorem sumd_len (d : List Int) : (sumd d).length = d.length + 4 := by rw [sumd, List.length_append, le_length]
/-- What was packed, or not, is unpacked. -/
theorem dat_unp {b : List Int} (hb : isB b) (hN : b.length ≤ 1048576) (x : Nat) : unp (dat b x) (pk b x) b.length = (b, 0) := by
  have h := pack_back hb hN x
  unfold dat
  cases hp : pk b x with
  | true =>
    have hw : Wo.worth b.length (enc b).length x = true := by unfold pk at hp; exact (Bool.and_eq_true _ _ ▸ hp).1
    have e : packP b x = enc b := by unfold packP; rw [hw]; rfl
    rw [hw, e] at h
    exact h
  | false =>
    show unp b false b.length = (b, 0)
    unfold unp
    rw [if_neg (by decide), if_neg (by omega), if_neg (by omega)]
theorem dat_plain {b : List Int} {x : Nat} (hp : pk b x = false) : dat b x = b := by unfold dat; rw [hp]; rfl
/-- What was stored is loaded, behind whatever. -/
theorem ld_back {b : List Int} (hb : isB b) (hN : b.length ≤ 1048576) (hz : all0 b = false) (x : Nat) (ahead behind : List Int) : ldP (ahead ++ sumd (dat b x) ++ behind) ahead.length (wrd (dat b x).length (pk b x)).1 b.length = (b, 0) := by
  obtain ⟨h1, h2⟩ := dat_len hb hN hz x
  have hne := all0_ne hz
  have hb1 : 1 ≤ b.length := Nat.pos_of_ne_zero fun h0 => hne (List.eq_nil_of_length_eq_zero h0)
  have hp := prt_wrd (dat b x).length (pk b x) (by omega) (by omega)
  have hu := dat_unp hb hN x
  have hpl := @dat_plain b x
  have hcr := crc_lt (dat b x)
  obtain ⟨W, hW⟩ : ∃ W, W = (wrd ((dat b x).length : Int) (pk b x)).1 := ⟨_, rfl⟩
  rw [← hW] at hp ⊢
  have hW0 : W ≠ 0 := fun h0 => by
    rw [h0, show prt 0 = (0, false, 1) from rfl] at hp
    have := (Prod.mk.inj (Prod.mk.inj hp).2).2
    omega
  have hpl2 : pk b x = false → ((dat b x).length : Int) = (b.length : Int) := fun h => by rw [hpl h]
  have hcut : cutx (ahead ++ sumd (dat b x) ++ behind) (ahead.length : Int) ((dat b x).length : Int) = dat b x := by
    unfold cutx
    rw [Int.toNat_natCast, Int.toNat_natCast, List.append_assoc, List.drop_left' rfl, sumd, List.append_assoc, List.take_left' rfl]
  have hrd : rdN (ahead ++ sumd (dat b x) ++ behind) ((ahead.length : Int).toNat + ((dat b x).length : Int).toNat) 4 = Sum.crc 0 (dat b x) := by
    rw [Int.toNat_natCast, Int.toNat_natCast]
    exact rd_mid (ahead ++ dat b x) behind (Sum.crc 0 (dat b x)) 4 (ahead.length + (dat b x).length) (by rw [List.length_append]) hcr _ (by rw [sumd]; simp only [List.append_assoc])
  have hlen : ((ahead ++ sumd (dat b x) ++ behind).length : Int) = ahead.length + (dat b x).length + 4 + behind.length := by
    rw [List.length_append, List.length_append, sumd_len]; omega
  unfold ldP
  rw [hp]
  simp only
  rw [hcut, hrd, hu]
  rw [if_neg (by omega), if_neg hW0, if_neg, if_neg (by rw [hlen]; omega), if_neg (by simp), if_neg (by simp)]
  rintro (h | ⟨h, h3⟩)
  · exact h rfl
  · exact h3 (hpl2 h)
theorem noughts_any (w : World) (l : List Int) (A : Option Addr) (c : Nat) (hC : Kd.C (Kd.int .u8) w A l.length l) (hm : l.length ≤ 140737488355328) :
    Calls Try.prog 25 #[.slice A l.length c] w fun e w' => e = .returned (.bool (all0 l)) ∧ w = w' := by
  have KC := Aside0.mk hC
  clear hC
  go_enter Try.func25, Try.ntmps25
  go_wp2
  go_loop [3] (fun i => ∃ k : Nat, k ≤ l.length ∧ i = .int .i64 k ∧ Aside0 (all0 (l.take k) = true)) (fun i => l.length - (intOf i).toNat)
  case atStart => exact ⟨0, by omega, rfl, ⟨rfl⟩⟩
  case round =>
    obtain ⟨k, hk, rfl, HA⟩ := hrel
    by_cases hlt : k < l.length
    · obtain ⟨ad, rfl, hcel⟩ := Kd.at_int KC.out (k : Int) (by omega) (by omega)
      rw [Int.toNat_natCast] at hcel
      have ht : l.take (k + 1) = l.take k ++ [rd l (k : Int)] := by
        rw [List.take_add_one, List.getElem?_eq_getElem hlt]
        unfold rd
        rw [Int.toNat_natCast, List.getD_eq_getElem?_getD, List.getElem?_eq_getElem hlt]
        rfl
      obtain ⟨x, hx⟩ : ∃ x, x = rd l (k : Int) := ⟨_, rfl⟩
      rw [← hx] at hcel ht
      by_cases h0 : x = 0
      · have hN : Aside0 (all0 (l.take (k + 1)) = true) := ⟨by unfold all0; rw [ht, List.all_append]; have := HA.out; unfold all0 at this; rw [this, h0]; rfl⟩
        have hb : (x != 0) = false := by simp [h0]
        clear ht h0 hx
        go_wp2
        go_round
        case rel => exact ⟨k + 1, by omega, by go_num, hN⟩
        case measure => simp [intOf]; omega
      · have hN : Aside0 (all0 l = false) := ⟨by
          unfold all0
          rw [List.all_eq_false]
          refine ⟨x, ?_, by simpa using h0⟩
          rw [hx]
          unfold rd
          rw [Int.toNat_natCast, List.getD_eq_getElem?_getD, List.getElem?_eq_getElem hlt]
          exact List.getElem_mem _⟩
        have hb : (x != 0) = true := by simp [h0]
        clear ht h0 hx
        go_wp2
        go_ret
        exact ⟨by rw [hN.out]; rfl, rfl⟩
    · have hN : Aside0 (all0 l = true) := ⟨by have := HA.out; rwa [List.take_of_length_le (by omega)] at this⟩
      go_wp2
      go_ret
      exact ⟨by rw [hN.out]; rfl, rfl⟩
end Go.Proofs.Ytpdggoapjbjmhaa.Bk
