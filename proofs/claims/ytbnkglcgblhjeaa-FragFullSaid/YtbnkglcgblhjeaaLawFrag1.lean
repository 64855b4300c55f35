/- Fragments are as full as may be: the law's walk. -/
import Derived.Test.YtbnkglcgblhjeaaFrag6
import Derived.OpenShut
set_option linter.unusedVariables false
set_option linter.unusedSimpArgs false
namespace Go.Proofs.Ytbnkglcgblhjeaa
open Go.RowKit Go.Proofs.YtbnkglcgblhjeaaW.PrintWords Go.Proofs.YtbnkglcgblhjeaaW.PrintLast Go.Proofs.YtbnkglcgblhjeaaW.PrintMore
namespace FragFull
set_option maxRecDepth 100000 in
theorem walk (w : World) (A0 : Option Addr) (c0 : Nat) (l0 : List Int) (r0 : Kd.C (Kd.int .u16) w A0 l0.length l0) (k0 : l0.length ≤ c0) (g0 : ∀ v ∈ l0, (fun n : Int => (Lit.int .u16 n).wf = true) v) (m0 : l0.length * 2 ≤ 140737488351232) :
    Calls Try.prog 10 #[.slice A0 l0.length c0] w fun e w' => e = .returned (.bool true) ∧ Below w.heap.size w w' := by
  have H0 := Aside0.mk (Frag.FS_new w (.float .f64 0))
  have HR := Aside0.mk r0
  have HG := Aside0.mk g0
  clear r0 g0
  by_cases hb : 60 < l0.length
  · go_enter Try.func10, Try.ntmps10
    go_wp2_with (go_at_call 24; refine (Frag.live_any _).mono ?_; rintro e w' ⟨rfl, hbel⟩)
    go_ret
    exact ⟨rfl, hbel⟩
  go_enter Try.func10, Try.ntmps10
  go_wp2_with (first | (go_at_call 25; refine (Frag.new12 _ _).mono ?_; rintro e w' ⟨rfl, rfl⟩) | (go_at_call 26; refine (Frag.num_any _ _).mono ?_; rintro e w' ⟨rfl, rfl⟩))
  go_loopw [5, 6, 7] (fun h f i wr => ∃ k hs fr sm : Nat, k ≤ l0.length ∧ i = .int .i64 k ∧ h = .int .i64 hs ∧ f = .int .i64 fr ∧ fr ≤ k ∧ sm ≤ 4095 * k ∧ hs ≤ 4096 ∧ (fr = 0 ∨ 1 ≤ hs) ∧ Aside0 (Frag.FS w w.heap.size w.heap.size (.float .f64 0) wr fr hs sm)) (fun _ _ i _ => l0.length - (intOf i).toNat)
  case atStart => exact ⟨0, 0, 0, 0, by omega, rfl, rfl, rfl, by omega, by omega, by omega, Or.inl rfl, H0⟩
  case round =>
    obtain ⟨k, hs, fr, sm, hk, rfl, rfl, rfl, hfk, hsm, hhs, hor, H⟩ := hrel
    by_cases hlt : k < l0.length
    · have HRr := Kd.C_below HR.out (Frag.FS_below H.out).1
      obtain ⟨ad, e, hx⟩ := Kd.at_int HRr (k : Int) (by omega) (by omega)
      cases e
      have KRr := Aside0.mk HRr
      clear HRr
      obtain ⟨x, hx1, hx2⟩ : ∃ x : Nat, rd l0 (k : Int) = (x : Int) ∧ x < 65536 := by
        have h := Go.bounds_u16 (HG.out l0[k] (List.getElem_mem hlt))
        refine ⟨l0[k].toNat, ?_, by omega⟩
        unfold rd
        rw [Int.toNat_natCast, List.getD_eq_getElem?_getD, List.getElem?_eq_getElem hlt]
        simp only [Option.getD_some]
        omega
      rw [hx1, Int.toNat_natCast] at hx
      clear hx1
      obtain ⟨n, hn, hn1, hn2⟩ : ∃ n : Nat, (1 : Int) + (x : Int) % 4095 = (n : Int) ∧ 1 ≤ n ∧ n ≤ 4095 := ⟨1 + x % 4095, by omega, by omega, by omega⟩
      have hsn : sm + n ≤ 4095 * (k + 1) := by omega
      have hse : sm + n ≤ 8388608 := by omega
      rcases Nat.lt_or_ge (hs + n) 4097 with hp | hp
      · rcases Nat.eq_zero_or_pos fr with h0 | h0
        · subst h0
          go_wp2_with (first | ((with_reducible refine gate_dst (N := 43) rfl ?_); refine Frag.make_fs rfl rfl _ _ rfl n rfl rfl hn1 (by omega) H.out ?_; intro T1 c1 w1 H1) | (go_at_call 27; refine (Frag.add_law _ _ _ _ _ _ _ _ T1 n c1 H1.out (by omega) hhs hn1 hn2 hse).mono ?_; rintro e w2 h; have h := h.resolve_left (by rintro ⟨h, -⟩; omega); obtain ⟨-, rfl, H2⟩ := h; have H2 := Aside0.mk H2) | (go_at_call 26; refine (Frag.num_any _ _).mono ?_; rintro e w' ⟨rfl, rfl⟩))
          go_round
          case rel => exact ⟨k + 1, n, 1, sm + n, by omega, by go_num, by go_num, by go_num, by omega, hsn, by omega, Or.inr hn1, H2⟩
          case measure => simp [intOf]; omega
        · have hoff : ((hs : Int) == 0) = false := by simp; omega
          go_wp2_with (first | ((with_reducible refine gate_dst (N := 43) rfl ?_); refine Frag.make_fs rfl rfl _ _ rfl n rfl rfl hn1 (by omega) H.out ?_; intro T1 c1 w1 H1) | (go_at_call 27; refine (Frag.add_law _ _ _ _ _ _ _ _ T1 n c1 H1.out (by omega) hhs hn1 hn2 hse).mono ?_; rintro e w2 h; have h := h.resolve_right (by rintro ⟨h, -⟩; omega); obtain ⟨-, -, rfl, H2⟩ := h; have H2 := Aside0.mk H2) | (go_at_call 26; refine (Frag.num_any _ _).mono ?_; rintro e w' ⟨rfl, rfl⟩))
          go_round
          case rel => exact ⟨k + 1, hs + n, fr, sm + n, by omega, by go_num, by go_num, by go_num, by omega, hsn, by omega, Or.inr (by omega), H2⟩
          case measure => simp [intOf]; omega
      · rcases Nat.eq_zero_or_pos fr with h0 | h0
        · subst h0
          go_wp2_with (first | ((with_reducible refine gate_dst (N := 43) rfl ?_); refine Frag.make_fs rfl rfl _ _ rfl n rfl rfl hn1 (by omega) H.out ?_; intro T1 c1 w1 H1) | (go_at_call 27; refine (Frag.add_law _ _ _ _ _ _ _ _ T1 n c1 H1.out (by omega) hhs hn1 hn2 hse).mono ?_; rintro e w2 h; have h := h.resolve_left (by rintro ⟨-, h, -⟩; omega); obtain ⟨-, rfl, H2⟩ := h; have H2 := Aside0.mk H2) | (go_at_call 26; refine (Frag.num_any _ _).mono ?_; rintro e w' ⟨rfl, rfl⟩))
          go_round
          case rel => exact ⟨k + 1, n, 0 + 1, sm + n, by omega, by go_num, by go_num, by go_num, by omega, hsn, by omega, Or.inr hn1, H2⟩
          case measure => simp [intOf]; omega
        · go_wp2_with (first | ((with_reducible refine gate_dst (N := 43) rfl ?_); refine Frag.make_fs rfl rfl _ _ rfl n rfl rfl hn1 (by omega) H.out ?_; intro T1 c1 w1 H1) | (go_at_call 27; refine (Frag.add_law _ _ _ _ _ _ _ _ T1 n c1 H1.out (by omega) hhs hn1 hn2 hse).mono ?_; rintro e w2 h; have h := h.resolve_left (by rintro ⟨-, h, -⟩; omega); obtain ⟨-, rfl, H2⟩ := h; have H2 := Aside0.mk H2) | (go_at_call 26; refine (Frag.num_any _ _).mono ?_; rintro e w' ⟨rfl, rfl⟩))
          go_round
          case rel => exact ⟨k + 1, n, fr + 1, sm + n, by omega, by go_num, by go_num, by go_num, by omega, hsn, by omega, Or.inr hn1, H2⟩
          case measure => simp [intOf]; omega
    · obtain ⟨A6, d6, hc6⟩ := Frag.FS_count H.out
      have hw := Frag.FS_below H.out
      have HW := Aside0.mk hw.1
      have hsz : w.heap.size ≤ wr.heap.size := hw.2
      clear hw
      go_wp2_with (first | (go_at_call 28; refine (Frag.count_some _ A6 _ d6 _ hc6).mono ?_; rintro e w' ⟨rfl, rfl⟩) | (go_at_call 24; refine (Frag.live_any _).mono ?_; rintro e w' ⟨rfl, hbel⟩))
      go_ret
      exact ⟨rfl, below_then HW.out hsz hbel⟩
end FragFull
end Go.Proofs.Ytbnkglcgblhjeaa
