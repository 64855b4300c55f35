/- The walk of the law on bursts: SumBursts. -/
import Derived.Test.YtgadcnlcldjhpaaLawSum3
import Derived.Test.YtgadcnlcldjhpaaBurst
namespace Go.Proofs.Ytgadcnlcldjhpaa
open Go.RowKit Go.Proofs.YtgadcnlcldjhpaaW.PrintWords Go.Proofs.YtgadcnlcldjhpaaW.PrintLast Go.Proofs.YtgadcnlcldjhpaaW.PrintMore
set_option linter.unusedVariables false
set_option linter.unusedSimpArgs false
namespace SumBursts
/-- What the loop keeps: the bytes, as many, unlike the first ones by these bits alone. -/
structure Held (wr : World) (base : Nat) (v : Value) (l0 : List Int) (at_ b k : Nat) (w : World) : Prop where
  mk :: (out : ∃ zs : List Int, Row.OwnB wr base v zs ∧ zs.length = l0.length ∧ (∀ x ∈ zs, 0 ≤ x ∧ x < 256) ∧ Crc.num (l0.map Int.toNat) ^^^ Crc.num (zs.map Int.toNat) = 2 ^ at_ * (b % 2 ^ k) ∧ Below w.heap.size w wr)
theorem shift_bit (b k : Nat) (h : b < 4294967296) : bits .and .u32 ((b : Int) / 2 ^ k) 1 = ((b / 2 ^ k % 2 : Nat) : Int) := by
  have e : ((b : Int) / 2 ^ k) = ((b / 2 ^ k : Nat) : Int) := by
    rw [Int.natCast_ediv]; congr 1
  have h2 := u32_and_nat (b / 2 ^ k) 1 (Nat.lt_of_le_of_lt (Nat.div_le_self _ _) h) (by decide)
  rw [Nat.and_one_is_mod] at h2
  rw [e]
  exact h2
theorem shl_bit (r : Nat) (h : r < 8) : IntKind.u8.wrap (2 ^ min r 8) = ((2 ^ r : Nat) : Int) := by
  have h2 : 2 ^ r < 256 := by
    have : 2 ^ r < 2 ^ 8 := Nat.pow_lt_pow_right (by omega) h
    omega
  rw [Nat.min_eq_left (by omega), IntKind.wrap_u8, show ((2 : Int) ^ r) = ((2 ^ r : Nat) : Int) from (Int.natCast_pow 2 r).symm]
  generalize 2 ^ r = x at h2 ⊢
  omega
/-- The places of a bit, as the walk spells them. -/
theorem places (p k : Nat) (hp : p ≤ 9223372036854775807) (hk : k < 32) : ∃ q1 m s q2 r q : Nat, ((p : Int) / 8 = q1) ∧ wrap64 (q1 : Int) = q1 ∧ (p : Int).tmod 8 = m ∧ wrap64 ((m : Int) + k) = s ∧ (s : Int).tdiv 8 = q2 ∧ wrap64 (q2 : Int) = q2 ∧ wrap64 ((q1 : Int) + q2) = q ∧ (s : Int).tmod 8 = r ∧
    r < 8 ∧ 8 * q + r = p + k ∧ (q : Int) = (p : Int) / 8 + ((p : Int) % 8 + k) / 8 := by
  refine ⟨p / 8, p % 8, p % 8 + k, (p % 8 + k) / 8, (p % 8 + k) % 8, p / 8 + (p % 8 + k) / 8, by omega, ?_, ?_, ?_, ?_, ?_, ?_, ?_, by omega, by omega, by omega⟩
  · unfold wrap64; omega
  · rw [Int.tmod_eq_emod_of_nonneg (by omega)]; omega
  · unfold wrap64; omega
  · rw [Int.tdiv_eq_ediv_of_nonneg (by omega)]; omega
  · unfold wrap64; omega
  · unfold wrap64; omega
  · rw [Int.tmod_eq_emod_of_nonneg (by omega)]; omega
theorem place_in {q n m : Nat} {A B : Int} (h1 : (q : Int) = A + B) (h2 : ¬ (n : Int) - 1 - B < A) (h3 : m = n) : (q : Int) < (m : Int) := by subst h3; omega
theorem next_same {wr w : World} {base : Nat} {v : Value} {l0 : List Int} {p b k : Nat} (h : Held wr base v l0 p b k w) (hb : b / 2 ^ k % 2 = 0) : Held wr base v l0 p b (k + 1) w := by
  obtain ⟨zs, h1, h2, h3, h4, h5⟩ := h
  exact ⟨⟨zs, h1, h2, h3, by rw [h4, Burst.low_same b k hb], h5⟩⟩
theorem next_turned {wr w : World} {base g n c : Nat} {l0 : List Int} {p b k q r : Nat} (h : Held wr base (.slice (some ⟨g, 0, none⟩) n c) l0 p b k w) (hg : w.heap.size ≤ g) (hb : b / 2 ^ k % 2 = 1) (hq : q < n) (hr : r < 8) (hqr : 8 * q + r = p + k) :
    ∃ z : Nat, z < 256 ∧ wr.cell? ⟨g, q, none⟩ = some (.int .u8 z) ∧ wr.frozen? ⟨g, q, none⟩ = false ∧ Held ((wr.drew).setCell ⟨g, q, none⟩ (.int .u8 ((z ^^^ 2 ^ r : Nat) : Int))) base (.slice (some ⟨g, 0, none⟩) n c) l0 p b (k + 1) w := by
  obtain ⟨zs, h1, h2, h3, h4, h5⟩ := h
  have hn := (Row.OwnB.reads h1).1
  have h1d : Row.OwnB wr.drew base (.slice (some ⟨g, 0, none⟩) n c) zs := Row.OwnB.below h1 (below_drew (Below.refl _ _))
  have hz := h3 zs[q] (List.getElem_mem _)
  have hzz : zs.getD q 0 = zs[q] := by rw [List.getD_eq_getElem?_getD, List.getElem?_eq_getElem (by omega)]; rfl
  have hr2 : 2 ^ r < 256 := by
    have : 2 ^ r < 2 ^ 8 := Nat.pow_lt_pow_right (by omega) hr
    omega
  have hx : zs[q].toNat ^^^ 2 ^ r < 256 := Nat.xor_lt_two_pow (n := 8) (by omega) hr2
  have hc := Kd.R_celln (0 : Int) h1 (q : Int) (by omega) (by omega)
  have hput := Kd.R_putn h1d (q : Int) (((zs[q].toNat ^^^ 2 ^ r : Nat) : Int))
  rw [Int.toNat_natCast] at hc hput
  have hcell : rdOf 0 zs (q : Int) = ((zs[q].toNat : Nat) : Int) := by
    unfold rdOf
    rw [Int.toNat_natCast, hzz]; omega
  refine ⟨zs[q].toNat, by omega, ?_, hc.2, ⟨⟨zs.set q (((zs[q].toNat ^^^ 2 ^ r : Nat) : Int)), hput, by simp [h2], ?_, ?_, (below_drew h5).setCell hg _⟩⟩⟩
  · rw [hc.1, hcell]
  · intro x hx'
    rcases List.mem_or_eq_of_mem_set hx' with hx' | rfl
    · exact h3 x hx'
    · exact ⟨by omega, by omega⟩
  · have ht := Burst.turned (l0.map Int.toNat) (zs.map Int.toNat) p b k q r (Sum.nat_of h3) (by simp; omega) hr hqr hb h4
    have he : (zs.map Int.toNat).getD q 0 = zs[q].toNat := by
      rw [List.getD_eq_getElem?_getD, List.getElem?_map, List.getElem?_eq_getElem (by omega)]; rfl
    rw [he] at ht
    rw [List.map_set, Int.toNat_natCast]
    exact ht
set_option maxHeartbeats 2000000 in
set_option maxRecDepth 100000 in
theorem walk (w : World) (A0 : Option Addr) (c0 : Nat) (l0 : List Int) (r0 : Kd.C (Kd.int .u8) w A0 l0.length l0) (k0 : l0.length ≤ c0) (g0 : ∀ v ∈ l0, (fun n : Int => (Lit.int .u8 n).wf = true) v) (m0 : l0.length * 1 ≤ 140737488351232) (a1 : Int) (w1 : (Lit.int .i64 a1).wf = true) (a2 : Int) (w2 : (Lit.int .u32 a2).wf = true) :
    Calls Try.prog 6 #[.slice A0 l0.length c0, .int .i64 a1, .int .u32 a2] w fun e w' => e = .returned (.bool true) ∧ Below w.heap.size w w' := by
  have HL0 := Aside0.mk (u8s g0)
  have HR0 := Aside0.mk r0
  have hm0 : l0.length ≤ 140737488351232 := by omega
  have hb := Go.bounds_u32 w2
  obtain ⟨b, rfl⟩ := Int.eq_ofNat_of_zero_le hb.1
  have hb32 : b < 4294967296 := by omega
  have hat63 := Go.bounds_i64 w1
  clear g0 r0 m0 hb w1 w2
  go_enter Try.func6, Try.ntmps6
  by_cases ha : 5000 < l0.length
  · go_wp2_with (go_at_call 15; refine (Sum.live_any _).mono ?_; rintro e w' ⟨rfl, hbel⟩)
    all_goals (go_ret; exact ⟨rfl, hbel⟩)
  by_cases hn : a1 < 0
  · go_wp2_with (go_at_call 15; refine (Sum.live_any _).mono ?_; rintro e w' ⟨rfl, hbel⟩)
    all_goals (go_ret; exact ⟨rfl, hbel⟩)
  obtain ⟨p, rfl⟩ := Int.eq_ofNat_of_zero_le (by omega : 0 ≤ a1)
  by_cases hp : (l0.length : Int) ≤ (p : Int) / 8
  · go_wp2_with (go_at_call 15; refine (Sum.live_any _).mono ?_; rintro e w' ⟨rfl, hbel⟩)
    all_goals (go_ret; exact ⟨rfl, hbel⟩)
  by_cases hbz : b = 0
  · have hbz' : ((b : Int) == 0) = true := by simp; omega
    go_wp2_with (go_at_call 15; refine (Sum.live_any _).mono ?_; rintro e w' ⟨rfl, hbel⟩)
    all_goals (go_ret; exact ⟨rfl, hbel⟩)
  have hbz' : ((b : Int) == 0) = false := by simp; omega
  have HBZ := Aside0.mk hbz
  clear hbz
  have HB0 : Aside0 (Below w.heap.size w (w.alloc (.cells #[] 5))) := ⟨below_alloc (Below.refl _ _) _⟩
  have HO0 : Aside0 (Row.OwnB (w.alloc (.cells #[] 5)) w.heap.size (.slice (some ⟨w.heap.size, 0, none⟩) 0 0) []) := ⟨by
    have h := Row.OwnB.lit w w.heap.size #[] [] rfl (Nat.le_refl _) (by decide)
    simpa using h⟩
  go_wp2_with ((with_reducible refine gate_builtin (b := .append) (xs := #[.tmp 28, .tmp 29]) rfl ?_); refine Row.app_rows w.heap.size rfl (.tmp 28) (.tmp 29) rfl (.slice (some ⟨w.heap.size, 0, none⟩) 0 0) [] l0 A0 _ c0 rfl rfl HO0.out (Kd.C_below HR0.out HB0.out) HB0.out HB0.out.size (by simp; omega) ?_; intro z1 B1 d1 w1 hz1 ho1 hl1 hl1' hc1 hr1 hb1 hs1 hg1 ha1; simp only [List.length_nil, Nat.zero_add] at hl1'; clear HB0 HO0 hg1 ha1)
  obtain ⟨g, rfl, hgb⟩ : ∃ g, B1 = some ⟨g, 0, none⟩ ∧ w.heap.size ≤ g := by
    obtain ⟨g, cap, he, hg, _⟩ := Kd.R_form ho1.out (by rw [hl1.out]; simp; omega)
    injection he with he _ _
    exact ⟨g, he, hg⟩
  have HH : Held w1 w.heap.size (.slice (some ⟨g, 0, none⟩) z1.length d1) l0 p b 0 w := ⟨⟨z1, ho1.out, by rw [hl1.out]; simp, by rw [hz1.out]; exact HL0.out, by rw [hz1.out]; simp [Nat.mod_one], hb1.out⟩⟩
  have HLZ : Aside0 (z1.length = l0.length) := ⟨by rw [hl1.out]; simp⟩
  clear hz1 ho1 hl1 hr1 hb1 hs1
  go_loopw [8] (fun i wr => ∃ k : Nat, k ≤ 32 ∧ i = .int .i64 k ∧ Held wr w.heap.size (.slice (some ⟨g, 0, none⟩) z1.length d1) l0 p b k w) (fun i _ => 32 - (intOf i).toNat)
  case atStart => exact ⟨0, by omega, rfl, HH⟩
  case round =>
    clear HH
    obtain ⟨k, hk, rfl, HH⟩ := hrel
    by_cases hlt : k < 32
    · have hsb := shift_bit b k hb32
      by_cases hbit : b / 2 ^ k % 2 = 0
      · have HN := next_same HH hbit
        rw [hbit] at hsb
        have hbt : (bits BinOp.and IntKind.u32 ((b : Int) / 2 ^ k) 1 == 0) = true := by rw [hsb]; rfl
        clear hsb hbit HH
        go_wp2
        go_roundw
        case rel => exact ⟨k + 1, by omega, by go_num, HN⟩
        case measure => simp [intOf]; omega
      · have hb1 : b / 2 ^ k % 2 = 1 := by omega
        rw [hb1] at hsb
        have hbt : (bits BinOp.and IntKind.u32 ((b : Int) / 2 ^ k) 1 == 0) = false := by rw [hsb]; rfl
        have HB1 := Aside0.mk hb1
        clear hsb hbit hb1
        by_cases hq : (l0.length : Int) - 1 - ((p : Int) % 8 + k) / 8 < (p : Int) / 8
        · go_wp2_with (go_at_call 15; refine (Sum.live_any _).mono ?_; rintro e w' ⟨rfl, hbel⟩)
          go_ret
          obtain ⟨zs, _, _, _, _, h5⟩ := HH
          exact ⟨rfl, below_then h5 h5.size hbel⟩
        · obtain ⟨q1, m, t, q2, r, q, R1, R2, R3, R4, R5, R6, R7, R8, hr8, hqr, hqe⟩ := places p k (by omega) hlt
          have hqn : (q : Int) < (z1.length : Int) := place_in hqe hq HLZ.out
          obtain ⟨z, hz1, hz2, hz3, HN⟩ := next_turned (q := q) (r := r) HH hgb HB1.out (Int.ofNat_lt.1 hqn) hr8 hqr
          have HZ2 := Aside0.mk hz2
          have HZ3 := Aside0.mk hz3
          have R9 := shl_bit r hr8
          have R10 := u8_xor_nat z (2 ^ r) hz1 (by
            have : 2 ^ r < 2 ^ 8 := Nat.pow_lt_pow_right (by omega) hr8
            omega)
          obtain ⟨d, hd⟩ : ∃ d, 2 ^ r = d := ⟨_, rfl⟩
          rw [hd] at R9 R10 HN
          have HRR := Aside0.mk (And.intro R1 (And.intro R2 (And.intro R3 (And.intro R4 (And.intro R5 (And.intro R6 (And.intro R7 (And.intro R8 (And.intro R9 R10)))))))))
          clear hz2 hz3 HH hd hqr hqe R1 R2 R3 R4 R5 R6 R7 R8 R9 R10 hr8
          go_wp2
          obtain ⟨R1, R2, R3, R4, R5, R6, R7, R8, R9, R10⟩ := HRR.out
          clear hq
          refine start_ (n := 20) (S := fun w' => w'.cell? ⟨g, q, none⟩ = some (.int .u8 z) ∧ w'.frozen? ⟨g, q, none⟩ = false) (ds := [19]) #[false, false, false, false, false, false, false, false, false, false, false, false, false, false, false, false, false, false, false, false] (by kernel_rfl) rfl rfl ⟨(show wr.cell? _ = _ from HZ2.out), (show wr.frozen? _ = _ from HZ3.out)⟩ (fun hHeld => ?_)
          refine pure_ (i := 0) (N := some 53) (v := ?_) (a' := ?_) #[true, false, false, false, false, false, false, false, false, false, false, false, false, false, false, false, false, false, false, false] rfl rfl (by kernel_rfl) (fun _ _ _ h => h) (Or.inl ⟨by rfl, ?_⟩) ?_ ?_
          rotate_left
          · intro w'
            go_simp
            with_reducible rfl
          rotate_left
          · simp only [Act.put, List.setIfInBounds_toArray, List.set_cons_zero, List.set_cons_succ, i64_w, i32_w]
            rfl
          refine pure_ (i := 1) (N := some 54) (v := ?_) (a' := ?_) #[true, true, false, false, false, false, false, false, false, false, false, false, false, false, false, false, false, false, false, false] rfl rfl (by kernel_rfl) (fun _ _ _ h => h) (Or.inl ⟨by rfl, ?_⟩) ?_ ?_
          rotate_left
          · intro w'
            go_simp
            with_reducible rfl
          rotate_left
          · simp only [Act.put, List.setIfInBounds_toArray, List.set_cons_zero, List.set_cons_succ, i64_w, i32_w]
            rfl
          refine pure_ (i := 2) (N := some 55) (v := ?_) (a' := ?_) #[true, true, true, false, false, false, false, false, false, false, false, false, false, false, false, false, false, false, false, false] rfl rfl (by kernel_rfl) (fun _ _ _ h => h) (Or.inl ⟨by rfl, ?_⟩) ?_ ?_
          rotate_left
          · intro w'
            go_simp
            with_reducible rfl
          rotate_left
          · simp only [Act.put, List.setIfInBounds_toArray, List.set_cons_zero, List.set_cons_succ, i64_w, i32_w]
            rfl
          refine pure_ (i := 3) (N := some 56) (v := ?_) (a' := ?_) #[true, true, true, true, false, false, false, false, false, false, false, false, false, false, false, false, false, false, false, false] rfl rfl (by kernel_rfl) (fun _ _ _ h => h) (Or.inl ⟨by rfl, ?_⟩) ?_ ?_
          rotate_left
          · intro w'
            go_simp
            with_reducible rfl
          rotate_left
          · simp only [Act.put, List.setIfInBounds_toArray, List.set_cons_zero, List.set_cons_succ, i64_w, i32_w]
            rfl
          refine pure_ (i := 4) (N := some 57) (v := ?_) (a' := ?_) #[true, true, true, true, true, false, false, false, false, false, false, false, false, false, false, false, false, false, false, false] rfl rfl (by kernel_rfl) (fun _ _ _ h => h) (Or.inl ⟨by rfl, ?_⟩) ?_ ?_
          rotate_left
          · intro w'
            go_simp
            with_reducible rfl
          rotate_left
          · simp only [Act.put, List.setIfInBounds_toArray, List.set_cons_zero, List.set_cons_succ, i64_w, i32_w]
            rfl
          refine pure_ (i := 5) (N := some 58) (v := ?_) (a' := ?_) #[true, true, true, true, true, true, false, false, false, false, false, false, false, false, false, false, false, false, false, false] rfl rfl (by kernel_rfl) (fun _ _ _ h => h) (Or.inl ⟨by rfl, ?_⟩) ?_ ?_
          rotate_left
          · intro w'
            go_simp
            with_reducible rfl
          rotate_left
          · simp only [Act.put, List.setIfInBounds_toArray, List.set_cons_zero, List.set_cons_succ, i64_w, i32_w]
            rfl
          refine pure_ (i := 6) (N := some 59) (v := ?_) (a' := ?_) #[true, true, true, true, true, true, true, false, false, false, false, false, false, false, false, false, false, false, false, false] rfl rfl (by kernel_rfl) (fun _ _ _ h => h) (Or.inl ⟨by rfl, ?_⟩) ?_ ?_
          rotate_left
          · intro w'
            go_simp
            with_reducible rfl
          rotate_left
          · simp only [Act.put, List.setIfInBounds_toArray, List.set_cons_zero, List.set_cons_succ, i64_w, i32_w]
            rfl
          refine pure_ (i := 7) (N := some 60) (v := ?_) (a' := ?_) #[true, true, true, true, true, true, true, true, false, false, false, false, false, false, false, false, false, false, false, false] rfl rfl (by kernel_rfl) (fun _ _ _ h => h) (Or.inl ⟨by rfl, ?_⟩) ?_ ?_
          rotate_left
          · intro w'
            go_simp
            with_reducible rfl
          rotate_left
          · simp only [Act.put, List.setIfInBounds_toArray, List.set_cons_zero, List.set_cons_succ, i64_w, i32_w]
            rfl
          refine pure_ (i := 8) (N := some 61) (v := ?_) (a' := ?_) #[true, true, true, true, true, true, true, true, true, false, false, false, false, false, false, false, false, false, false, false] rfl rfl (by kernel_rfl) (fun _ _ _ h => h) (Or.inl ⟨by rfl, ?_⟩) ?_ ?_
          rotate_left
          · intro w'
            go_simp
            with_reducible rfl
          rotate_left
          · simp only [Act.put, List.setIfInBounds_toArray, List.set_cons_zero, List.set_cons_succ, i64_w, i32_w]
            rfl
          refine pure_ (i := 9) (N := some 62) (v := ?_) (a' := ?_) #[true, true, true, true, true, true, true, true, true, true, false, false, false, false, false, false, false, false, false, false] rfl rfl (by kernel_rfl) (fun _ _ _ h => h) (Or.inl ⟨by rfl, ?_⟩) ?_ ?_
          rotate_left
          · intro w'
            go_simp
            with_reducible rfl
          rotate_left
          · simp only [Act.put, List.setIfInBounds_toArray, List.set_cons_zero, List.set_cons_succ, i64_w, i32_w]
            rfl
          refine pure_ (i := 11) (N := some 64) (v := ?_) (a' := ?_) #[true, true, true, true, true, true, true, true, true, true, false, true, false, false, false, false, false, false, false, false] rfl rfl (by kernel_rfl) (fun _ _ _ h => h) (Or.inl ⟨by rfl, ?_⟩) ?_ ?_
          rotate_left
          · intro w'
            go_simp
            with_reducible rfl
          rotate_left
          · simp only [Act.put, List.setIfInBounds_toArray, List.set_cons_zero, List.set_cons_succ, i64_w, i32_w]
            rfl
          refine pure_ (i := 12) (N := some 65) (v := ?_) (a' := ?_) #[true, true, true, true, true, true, true, true, true, true, false, true, true, false, false, false, false, false, false, false] rfl rfl (by kernel_rfl) (fun _ _ _ h => h) (Or.inl ⟨by rfl, ?_⟩) ?_ ?_
          rotate_left
          · intro w'
            go_simp
            with_reducible rfl
          rotate_left
          · simp only [Act.put, List.setIfInBounds_toArray, List.set_cons_zero, List.set_cons_succ, i64_w, i32_w]
            rfl
          refine pure_ (i := 13) (N := some 66) (v := ?_) (a' := ?_) #[true, true, true, true, true, true, true, true, true, true, false, true, true, true, false, false, false, false, false, false] rfl rfl (by kernel_rfl) (fun _ _ _ h => h) (Or.inl ⟨by rfl, ?_⟩) ?_ ?_
          rotate_left
          · intro w'
            go_simp
            with_reducible rfl
          rotate_left
          · simp only [Act.put, List.setIfInBounds_toArray, List.set_cons_zero, List.set_cons_succ, i64_w, i32_w]
            rfl
          refine pure_ (i := 14) (N := some 67) (v := ?_) (a' := ?_) #[true, true, true, true, true, true, true, true, true, true, false, true, true, true, true, false, false, false, false, false] rfl rfl (by kernel_rfl) (fun _ _ _ h => h) (Or.inl ⟨by rfl, ?_⟩) ?_ ?_
          rotate_left
          · intro w'
            go_simp
            with_reducible rfl
          rotate_left
          · simp only [Act.put, List.setIfInBounds_toArray, List.set_cons_zero, List.set_cons_succ, i64_w, i32_w]
            rfl
          refine pure_ (i := 15) (N := some 68) (v := ?_) (a' := ?_) #[true, true, true, true, true, true, true, true, true, true, false, true, true, true, true, true, false, false, false, false] rfl rfl (by kernel_rfl) (fun _ _ _ h => h) (Or.inl ⟨by rfl, ?_⟩) ?_ ?_
          rotate_left
          · intro w'
            go_simp
            with_reducible rfl
          rotate_left
          · simp only [Act.put, List.setIfInBounds_toArray, List.set_cons_zero, List.set_cons_succ, i64_w, i32_w]
            rfl
          refine pure_ (i := 16) (N := some 69) (v := ?_) (a' := ?_) #[true, true, true, true, true, true, true, true, true, true, false, true, true, true, true, true, true, false, false, false] rfl rfl (by kernel_rfl) (fun _ _ _ h => h) (Or.inl ⟨by rfl, ?_⟩) ?_ ?_
          rotate_left
          · intro w'
            go_simp
            with_reducible rfl
          rotate_left
          · simp only [Act.put, List.setIfInBounds_toArray, List.set_cons_zero, List.set_cons_succ, i64_w, i32_w]
            rfl
          refine take_ (i := 10) (N := some 63) (v := ?_) (a' := ?_) #[true, true, true, true, true, true, true, true, true, true, true, true, true, true, true, true, true, false, false, false] rfl rfl (by kernel_rfl) (fun _ _ _ h => h) (Or.inl ⟨by rfl, ?_⟩) hHeld ?_ ?_
          rotate_left
          · rintro w' ⟨s0, s1⟩
            go_simp
            with_reducible rfl
          rotate_left
          · simp only [Act.put, List.setIfInBounds_toArray, List.set_cons_zero, List.set_cons_succ, i64_w, i32_w]
            rfl
          refine pure_ (i := 17) (N := some 70) (v := ?_) (a' := ?_) #[true, true, true, true, true, true, true, true, true, true, true, true, true, true, true, true, true, true, false, false] rfl rfl (by kernel_rfl) (fun _ _ _ h => h) (Or.inl ⟨by rfl, ?_⟩) ?_ ?_
          rotate_left
          · intro w'
            go_simp
            with_reducible rfl
          rotate_left
          · simp only [Act.put, List.setIfInBounds_toArray, List.set_cons_zero, List.set_cons_succ, i64_w, i32_w]
            rfl
          refine pure_ (i := 18) (N := some 71) (v := ?_) (a' := ?_) #[true, true, true, true, true, true, true, true, true, true, true, true, true, true, true, true, true, true, true, false] rfl rfl (by kernel_rfl) (fun _ _ _ h => h) (Or.inl ⟨by rfl, ?_⟩) ?_ ?_
          rotate_left
          · intro w'
            go_simp
            with_reducible rfl
          rotate_left
          · simp only [Act.put, List.setIfInBounds_toArray, List.set_cons_zero, List.set_cons_succ, i64_w, i32_w]
            rfl
          refine last_ (i := 19) (N := none) #[true, true, true, true, true, true, true, true, true, true, true, true, true, true, true, true, true, true, true, true] rfl rfl (by kernel_rfl) (by decide) (fun K hK => ?_)
          refine skip_ (w1 := ?_) (by rfl) rfl ?_ ?_
          rotate_left
          · go_simp
            rfl
          refine hK.out _ _ ?_
          clear hK K
          refine done_ (by kernel_rfl) ?_
          go_wp2
          go_roundw
          case rel => exact ⟨k + 1, by omega, by go_num, HN⟩
          case measure => simp [intOf]; omega
    · have hk32 : k = 32 := by omega
      subst hk32
      obtain ⟨zs, h1, h2, h3, h4, h5⟩ := HH
      obtain ⟨hzl, _, hzr⟩ := Row.OwnB.reads h1
      have HR1 := Aside0.mk (Kd.C_below HR0.out h5)
      have hcall := Sum.crc_nil (some ⟨g, 0, none⟩) d1 zs wr hzr (by rw [h2]; exact hm0) h3
      rw [← hzl] at hcall
      have hne := Burst.sums (4294967295 - 0) (l0.map Int.toNat) (zs.map Int.toNat) p b (Sum.nat_of HL0.out) (Sum.nat_of h3) (by simp [h2]) (by simp; omega) HBZ.out hb32 h4
      have hb1 := Crc.run_lt (4294967295 - 0) (l0.map Int.toNat) (by omega) (Sum.nat_of HL0.out)
      have hb2 := Crc.run_lt (4294967295 - 0) (zs.map Int.toNat) (by omega) (Sum.nat_of h3)
      have hneq : (((Sum.crc 0 l0 : Nat) : Int) != ((Sum.crc 0 zs : Nat) : Int)) = true := by
        rw [bne_iff_ne]
        unfold Sum.crc
        omega
      have HCALL := Aside0.mk hcall
      have H5 := Aside0.mk h5
      clear hne hb1 hb2 h4 h3 h2 h1 hzl hzr hcall h5
      go_wp2_with (first | (go_at_call 22; first | ((with_reducible refine (Sum.crc_nil A0 c0 l0 _ HR1.out hm0 HL0.out).mono ?_); rintro e w' ⟨rfl, rfl⟩) | ((with_reducible refine HCALL.out.mono ?_); rintro e w' ⟨rfl, rfl⟩)) | (go_at_call 15; refine (Sum.live_any _).mono ?_; rintro e w' ⟨rfl, hbel⟩))
      go_ret
      exact ⟨rfl, below_then H5.out H5.out.size hbel⟩
end SumBursts
end Go.Proofs.Ytgadcnlcldjhpaa
