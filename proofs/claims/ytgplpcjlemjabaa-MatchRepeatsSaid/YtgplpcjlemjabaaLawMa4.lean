/- Blocks are packed: texts that repeat. -/
import Derived.Test.YtgplpcjlemjabaaMaB
import Derived.Test.YtgplpcjlemjabaaMaR
set_option linter.unusedVariables false
set_option linter.unusedSimpArgs false
namespace Go.Proofs.Ytgplpcjlemjabaa
open Go.RowKit Go.Proofs.YtgplpcjlemjabaaW.PrintWords Go.Proofs.YtgplpcjlemjabaaW.PrintLast Go.Proofs.YtgplpcjlemjabaaW.PrintMore
namespace Ma
open Go.Proofs.Ytgplpcjlemjabaa.Lz
/-- So far the short text again and again. -/
def Fill (b t : List Int) (k : Nat) : Prop := ∀ i, i < k → t.getD i 0 = b.getD (i % b.length) 0
theorem Fill.step {b t : List Int} {k : Nat} (h : Fill b t k) (hk : k < t.length) : Fill b (t.set k (b.getD (k % b.length) 0)) (k + 1) := by
  intro i hi
  rw [List.getD_eq_getElem?_getD, List.getElem?_set]
  by_cases he : k = i
  · rw [if_pos he, if_pos (by omega), ← he]; rfl
  · rw [if_neg he, ← List.getD_eq_getElem?_getD]
    exact h i (by omega)
theorem Fill.rep {b t : List Int} (h : Fill b t t.length) (hb : 0 < b.length) : Rep t b.length := by
  intro i hi
  rw [h _ hi, h i (by omega), Nat.add_mod_right]
theorem Fill.isB {b t : List Int} (h : Fill b t t.length) (hb : 0 < b.length) (hB : isB b) : isB t := by
  intro x hx
  obtain ⟨i, hi, rfl⟩ := List.getElem_of_mem hx
  have h1 := h i hi
  rw [List.getD_eq_getElem?_getD, List.getElem?_eq_getElem hi] at h1
  have h2 : i % b.length < b.length := Nat.mod_lt _ hb
  rw [List.getD_eq_getElem?_getD, List.getElem?_eq_getElem h2] at h1
  have h3 : t[i] = b[i % b.length] := h1
  rw [h3]
  exact hB _ (List.getElem_mem h2)
end Ma
namespace MatchRepeats
set_option maxHeartbeats 8000000 in
set_option maxRecDepth 100000 in
theorem walk (w : World) (A0 : Option Addr) (c0 : Nat) (l0 : List Int) (r0 : Kd.C (Kd.int .u8) w A0 l0.length l0) (k0 : l0.length ≤ c0) (g0 : ∀ v ∈ l0, (fun n : Int => (Lit.int .u8 n).wf = true) v) (m0 : l0.length * 1 ≤ 140737488351232) (a1 : Int) (w1 : (Lit.int .i64 a1).wf = true) :
    Calls Try.prog 5 #[.slice A0 l0.length c0, .int .i64 a1] w fun e w' => e = .returned (.bool true) ∧ Below w.heap.size w w' := by
  have hb := Aside0.mk (Lz.u8B g0)
  clear g0 w1
  by_cases hbig : l0.length < 1 ∨ 64 < l0.length ∨ a1 < 0 ∨ 20000 < a1
  · have h4 : l0.length < 1 ∨ (1 ≤ l0.length ∧ 64 < l0.length) ∨ (1 ≤ l0.length ∧ l0.length ≤ 64 ∧ a1 < 0) ∨ (1 ≤ l0.length ∧ l0.length ≤ 64 ∧ 0 ≤ a1 ∧ 20000 < a1) := by omega
    clear hbig
    rcases h4 with h | ⟨h, h2⟩ | ⟨h, h2, h3⟩ | ⟨h, h2, h3, h4⟩
    · go_enter Try.func5, Try.ntmps5
      go_wp2_with (go_at_call 12; refine (Ma.live_any _).mono ?_; rintro e w' ⟨rfl, hbel⟩)
      go_ret
      exact ⟨rfl, hbel⟩
    · go_enter Try.func5, Try.ntmps5
      go_wp2_with (go_at_call 12; refine (Ma.live_any _).mono ?_; rintro e w' ⟨rfl, hbel⟩)
      go_ret
      exact ⟨rfl, hbel⟩
    · go_enter Try.func5, Try.ntmps5
      go_wp2_with (go_at_call 12; refine (Ma.live_any _).mono ?_; rintro e w' ⟨rfl, hbel⟩)
      go_ret
      exact ⟨rfl, hbel⟩
    · go_enter Try.func5, Try.ntmps5
      go_wp2_with (go_at_call 12; refine (Ma.live_any _).mono ?_; rintro e w' ⟨rfl, hbel⟩)
      go_ret
      exact ⟨rfl, hbel⟩
  obtain ⟨n, rfl⟩ : ∃ n : Nat, a1 = n := ⟨a1.toNat, by omega⟩
  have h1 : 1 ≤ l0.length := by omega
  have h2 : l0.length ≤ 64 := by omega
  have h3 : n ≤ 20000 := by omega
  clear hbig
  have KC : Aside0 (∀ w', Below w.heap.size w w' → Kd.C (Kd.int .u8) w' A0 l0.length l0) := ⟨fun w' hB => Kd.C_below r0 hB⟩
  have Kq : Aside0 (∀ t : List Int, t.length = n → Ma.Fill l0 t n → Lz.isB t ∧ (Ma.enc t).length ≤ 256 + n / 255) := ⟨fun t ht hF => by
    subst ht
    exact ⟨hF.isB (by omega) hb.out, Ma.rep_short (hF.rep (by omega)) h1 h2 (by omega)⟩⟩
  clear r0
  go_enter Try.func5, Try.ntmps5
  go_wp2_with ((with_reducible refine gate_dst (N := 27) rfl ?_); apply Aside0.out)
  refine ⟨?_⟩
  refine Kd.R_make (Kd.int .u8) _ 5 rfl (N := 27) rfl 22 _ _ rfl (n : Int) rfl rfl Try.underlying22 (.int .u8 0) 1 Row.info8 rfl (by decide) (by omega) 0 (ok := fun _ => True) (okp := fun _ => True) rfl (fun _ hk => hk) trivial (by omega) (by simp; omega) (Below.refl _ _) (Nat.le_refl _) ?_
  intro v w1 ho hB1 hg hnew
  obtain ⟨t, ht⟩ : ∃ t, t = List.replicate ((n : Int).toNat) (0 : Int) := ⟨_, rfl⟩
  have hlt : t.length = n := by rw [ht, List.length_replicate]; omega
  rw [← ht] at ho
  obtain ⟨A1, c1, rfl, hle1, -⟩ := Kd.R_reads ho
  rw [hlt] at ho hle1 ⊢
  have KO := Aside0.mk ho
  have KB := Aside0.mk hB1
  have Kt := Aside0.mk hlt
  clear ho hB1 hg hnew ht hlt hle1
  go_wp2
  go_loopw [6] (fun i wr => ∃ (k : Nat) (t : List Int), k ≤ n ∧ i = .int .i64 k ∧ Aside0 (t.length = n) ∧ Aside0 (Ma.Fill l0 t k) ∧ Aside0 (Kd.R (Kd.int .u8) 5 wr w.heap.size (fun _ => True) (.slice A1 n c1) t) ∧ Aside0 (Below w.heap.size w wr)) (fun i _ => n - (intOf i).toNat)
  case atStart => exact ⟨0, t, Nat.zero_le _, rfl, Kt, ⟨fun _ h => absurd h (Nat.not_lt_zero _)⟩, KO, KB⟩
  case round =>
    clear Kt KO KB
    obtain ⟨k, t, hk, rfl, Kt, KF, KO, KB⟩ := hrel
    by_cases hlt : k < n
    · obtain ⟨g, c, e0, gb, gl, cl, hG⟩ := Kd.R_form KO.out (by have := Kt.out; omega)
      rw [Kt.out] at e0
      injection e0 with ea en ec
      subst ea
      subst ec
      obtain ⟨x0, f0⟩ := Kd.R_celln 0 KO.out (k : Int) (by omega) (by omega)
      have HP := Kd.R_putg KO.out (k : Int) (l0.getD (k % l0.length) 0)
      obtain ⟨j, hj⟩ : ∃ j, j = k % l0.length := ⟨_, rfl⟩
      have hjl : j < l0.length := by rw [hj]; exact Nat.mod_lt _ (by omega)
      have hjm : (k : Int).tmod (l0.length : Int) = (j : Int) := by rw [hj]; rfl
      obtain ⟨ad, rfl, y0⟩ := Kd.at_int (KC.out wr KB.out) (j : Int) (by omega) (by omega)
      have KS : Aside0 (Ma.Fill l0 (t.set k (l0.getD j 0)) (k + 1)) := ⟨by rw [hj]; exact KF.out.step (by have := Kt.out; omega)⟩
      have KG := Aside0.mk gb
      have hrd : rd l0 (j : Int) = l0.getD j 0 := rfl
      rw [hrd] at y0
      simp only [Int.toNat_natCast] at y0 x0 f0
      obtain ⟨y, hy⟩ : ∃ y, y = l0.getD j 0 := ⟨_, rfl⟩
      rw [← hj, ← hy] at HP
      rw [← hy] at y0 KS
      simp only [Int.toNat_natCast] at HP
      have KP := Aside0.mk HP
      clear HP hG gl gb cl hj en hrd hy
      go_wp2_with ((with_reducible refine gate_store (t := 5) (p := 42) rfl ?_); refine store_event (t := 5) (p := 42) (v := ?vo_w12) (w1 := (wr.setCell ⟨g, k, none⟩ (.int .u8 y))) ?hg ?ho ?hn ?hr ?_; (case ho => rfl); (case hg => rfl); (case hn => rfl); (case hr => first | (go_simp; done) | (go_simp; rfl)); intro w12 hw; have n0_ := Aside0.mk (show Kd.R (Kd.int .u8) 5 w12 w.heap.size (fun _ => True) (.slice (some ⟨g, 0, none⟩) n c1) (t.set k y) by rw [hw]; exact KP.out.1); have n1_ := Aside0.mk (show Below w.heap.size w w12 by rw [hw]; exact below_set KB.out KG.out); clear hw)
      refine ⟨⟨k + 1, t.set k y, by omega, by go_num, ⟨by rw [List.length_set]; exact Kt.out⟩, KS, n0_, n1_⟩, by simp [intOf]; omega⟩
    · obtain rfl : k = n := by omega
      obtain ⟨hB, hlen⟩ := Kq.out t Kt.out KF.out
      obtain ⟨-, hkc, hC⟩ := Kd.R_reads' KO.out
      have hT := Kt.out
      have KE : Aside0 (Calls Try.prog 13 #[.slice A1 k c1] wr fun e w' => ∃ v, e = .returned (.tuple #[v, .int .i64 0]) ∧ Row.OwnB w' wr.heap.size v (Ma.enc t) ∧ Below wr.heap.size wr w') := ⟨by
        have h := Ma.encode_any wr t A1 c1 hC (by omega) hB (by omega)
        rwa [hT] at h⟩
      have KR : Aside0 (∀ (w' : World) (B : Option Addr) (d : Nat), Below wr.heap.size wr w' → Kd.C (Kd.int .u8) w' B (Ma.enc t).length (Ma.enc t) → (Ma.enc t).length ≤ d → Calls Try.prog 15 #[.slice A1 k c1, .slice B (Ma.enc t).length d] w' fun e w'' => e = .returned (.bool true) ∧ Below w'.heap.size w' w'') := ⟨fun w' B d hb1 hB2 hd => by
        have h := Ma.rright_any w' t A1 B c1 d (Kd.C_below hC hb1) hB2 (by omega) hd hB (by omega)
        rwa [hT] at h⟩
      clear hB hC hT hkc Kq KF KO Kt
      have hdiv : (k : Int).tdiv 255 = ((k / 255 : Nat) : Int) := rfl
      obtain ⟨x, hx⟩ : ∃ x, x = (Ma.enc t).length := ⟨_, rfl⟩
      rw [← hx] at hlen KR
      have Kx := Aside0.mk hx
      obtain ⟨y, hy⟩ : ∃ y, y = k / 255 := ⟨_, rfl⟩
      rw [← hy] at hlen hdiv
      have hy2 : y ≤ 20000 := by omega
      clear hx hy
      go_wp2_with (go_at_call 13; apply Aside0.out)
      refine ⟨?_⟩
      refine KE.out.mono ?_
      rintro e w3 ⟨v3, rfl, hO3, hB3⟩
      obtain ⟨A3, c3, rfl, hle3, hC3⟩ := hO3.slice
      have KB3 := Aside0.mk (below_then KB.out KB.out.size hB3)
      rw [← Kx.out] at hle3 ⊢
      have KR := Aside0.mk (KR.out w3 A3 c3 hB3 (by rw [Kx.out]; exact hC3) hle3)
      clear hO3 hB3 hC3 KE
      go_wp2_with (first | (go_at_call 14; refine (Ma.num_any _ _).mono ?_; rintro e w' ⟨rfl, rfl⟩) | (go_at_call 12; refine (Ma.live_any _).mono ?_; rintro e w' ⟨rfl, hbel⟩) | (go_at_call 15; refine KR.out.mono ?_; rintro e w4 ⟨rfl, hB4⟩; have KB4 := Aside0.mk (below_then KB3.out KB3.out.size hB4); clear hB4))
      go_ret
      exact ⟨rfl, below_then KB4.out KB4.out.size hbel⟩
end MatchRepeats
end Go.Proofs.Ytgplpcjlemjabaa
