/- A flash memory: read; a page's bytes, a sector's. -/
import Derived.Test.YtepmgkmbmejkjaaFl4
set_option linter.unusedVariables false
set_option linter.unusedSimpArgs false
namespace Go.Proofs.Ytepmgkmbmejkjaa.Fl
open Go.RowKit Go.Proofs.YtepmgkmbmejkjaaW.PrintWords Go.Proofs.YtepmgkmbmejkjaaW.PrintLast Go.Proofs.YtepmgkmbmejkjaaW.PrintMore
set_option maxHeartbeats 1000000 in
set_option maxRecDepth 100000 in
theorem clone_any (w : World) (A : Option Addr) (n c : Nat) (xs : List Int) (hC : Kd.C (Kd.int .u8) w A n xs) (hn : n ≤ 140737488355328) :
    Calls Try.prog 45 #[.slice A n c] w fun e w' => ∃ v, e = .returned v ∧ Row.OwnB w' w.heap.size v xs ∧ Below w.heap.size w w' := by
  have hlen := hC.1
  have hnil := fun w => Lib.run_eql_slice_nil (P := Try.prog) w 30 5 A n c 0 0 Try.underlying30
  have Kl := Aside0.mk hlen
  have KC := Aside0.mk hC
  have Khn := Aside0.mk hn
  clear hn
  cases A with
  | none =>
    have h0 : n = 0 := by
      rcases Nat.eq_zero_or_pos n with h | h
      · exact h
      · obtain ⟨ad, e, _⟩ := hC.2.2 h; cases e
    obtain rfl : xs = [] := List.eq_nil_of_length_eq_zero (by rw [hlen]; exact h0)
    subst h0
    clear hC hlen KC Khn Kl
    go_enter Try.func45, Try.ntmps45
    go_wp2
    go_ret
    exact ⟨_, rfl, Row.OwnB.nil _ _, Below.refl _ _⟩
  | some ad =>
    have hal : Below w.heap.size w (w.alloc (.cells #[] 5)) := below_alloc (Below.refl _ _) _
    have Kal := Aside0.mk hal
    have KO := Aside0.mk (Row.OwnB.lit w w.heap.size #[] [] rfl (Nat.le_refl _) (by simp))
    clear hC hal hlen
    go_enter Try.func45, Try.ntmps45
    go_wp2_with ((with_reducible refine gate_builtin (b := .append) (xs := #[.tmp 5, .tmp 6]) rfl ?_); apply Aside0.out)
    refine ⟨?_⟩
    refine Row.app_rows (w0 := w) w.heap.size rfl (.tmp 5) (.tmp 6) rfl (.slice (some ⟨w.heap.size, 0, none⟩) 0 0) [] xs (some ad) n c rfl rfl KO.out (Kd.C_below KC.out Kal.out) Kal.out Kal.out.size (by have := Khn.out; simp; omega) ?_
    intro zs A5 c5 w5 e1 e2 e3 h4 h5 e4 hb5 e5 e6 e7
    obtain rfl : zs = xs := by rw [e1.out]; rfl
    have K5 := Aside0.mk e2.out
    have Kb5 := Aside0.mk hb5.out
    clear e1 e2 e3 h4 e4 e5 e6 e7
    go_wp2
    go_ret
    exact ⟨_, rfl, K5.out, Kb5.out⟩
section
variable {w : World} {base f gb gd gw : Nat} {tv : Value} {x : Fl}
theorem mem_C {g : Nat} {mem : List Int} (h : Mem w g mem) (hm : mem.length ≤ 9223372036854775807) : Kd.C (Kd.int .u8) w (some ⟨g, 0, none⟩) mem.length mem := by
  refine Kd.C_of_reads (d := (0 : Int)) ⟨rfl, hm, fun _ => ⟨_, rfl, fun j hj => ?_⟩⟩
  rw [add_plain]
  exact h.cell hj
theorem mem_part {g o n : Nat} {mem : List Int} (h : Mem w g mem) (hm : mem.length ≤ 9223372036854775807) (hfit : o + n ≤ mem.length) : Kd.C (Kd.int .u8) w (some ⟨g, o, none⟩) n ((mem.drop o).take n) := by
  refine Kd.C_of_reads (d := (0 : Int)) ⟨by rw [List.length_take, List.length_drop]; omega, by omega, fun _ => ⟨_, rfl, fun j hj => ?_⟩⟩
  rw [add_at, h.cell (by omega)]
  congr 2
  rw [List.getD_eq_getElem?_getD, List.getD_eq_getElem?_getD, List.getElem?_take, if_pos hj, List.getElem?_drop]
/-- What Read answers. -/
def readP (x : Fl) (at_ n : Int) : List Int × Int :=
  if 0 ≤ at_ ∧ 0 ≤ n ∧ n ≤ x.mem.length ∧ at_ ≤ x.mem.length - n then (if x.off = true then ([], 40) else ((x.mem.drop at_.toNat).take n.toNat, 0)) else ([], 9)
set_option maxHeartbeats 2000000 in
theorem read_any (h : FM w base f gb gd gw tv x) (hm : x.mem.length ≤ 16777216) (at_ n : Int) (hw1 : -9223372036854775808 ≤ at_ ∧ at_ ≤ 9223372036854775807) (hw2 : -9223372036854775808 ≤ n ∧ n ≤ 9223372036854775807) :
    Calls Try.prog 18 #[.pointer (some ⟨f, 0, none⟩), .int .i64 at_, .int .i64 n] w fun e w' => ∃ v, e = .returned (.tuple #[v, .int .i64 (readP x at_ n).2]) ∧ Row.OwnB w' w.heap.size v (readP x at_ n).1 ∧ Below w.heap.size w w' := by
  obtain ⟨c0, c1, c2, c3, c4, c5, c6, c7, c8, c9, c10⟩ := h.cells
  have KM := Aside0.mk h.mem
  obtain ⟨q1, q2⟩ := hw1
  obtain ⟨q3, q4⟩ := hw2
  clear h c0 c1 c2 c4 c5 c6 c8 c9 c10
  unfold readP
  by_cases hr : 0 ≤ at_ ∧ 0 ≤ n ∧ n ≤ x.mem.length ∧ at_ ≤ x.mem.length - n
  · rw [if_pos hr]
    obtain ⟨r1, r2, r3, r4⟩ := hr
    cases hoff : x.off with
    | true =>
      rw [hoff] at c7
      clear hoff
      go_enter Try.func18, Try.ntmps18
      go_wp2
      go_ret2
      exact ⟨_, rfl, Row.OwnB.nil _ _, Below.refl _ _⟩
    | false =>
      rw [hoff] at c7
      clear hoff
      obtain ⟨o, rfl⟩ := Int.eq_ofNat_of_zero_le r1
      obtain ⟨m, rfl⟩ := Int.eq_ofNat_of_zero_le r2
      obtain ⟨L, hL⟩ : ∃ L, L = x.mem.length := ⟨_, rfl⟩
      rw [← hL] at c3 hm r3 r4
      have KL := Aside0.mk hL
      clear hL
      have Kfit : Aside0 (o + m ≤ L) := ⟨by omega⟩
      have hcl : ∀ (w' : World) (A : Option Addr) (c : Nat), Kd.C (Kd.int .u8) w' A m ((x.mem.drop o).take m) → _ := fun w' A c hC => clone_any w' A m c ((x.mem.drop o).take m) hC (by omega)
      have Kcl := Aside0.mk hcl
      have hsub : o + m - o = m := by omega
      clear hcl
      by_cases hend : L = o
      · have KC : Aside0 (Kd.C (Kd.int .u8) w (some ⟨gb, 0, none⟩) m ((x.mem.drop o).take m)) := ⟨by
          have hm0 : m = 0 := by have := Kfit.out; omega
          subst hm0
          simp only [List.take_zero]
          exact ⟨rfl, by decide, fun h => absurd h (Nat.lt_irrefl 0)⟩⟩
        subst hend
        go_enter Try.func18, Try.ntmps18
        go_wp2_with (go_at_call 45; refine (Kcl.out _ _ _ KC.out).mono ?_; rintro e w1 ⟨v1, rfl, ho1, hb1⟩; have KO1 := Aside0.mk ho1; have Kb1 := Aside0.mk hb1; clear ho1 hb1)
        go_ret2
        exact ⟨_, rfl, KO1.out, Kb1.out⟩
      · have KC : Aside0 (Kd.C (Kd.int .u8) w (some ⟨gb, o, none⟩) m ((x.mem.drop o).take m)) := ⟨mem_part KM.out (by rw [← KL.out]; omega) (by rw [← KL.out]; exact Kfit.out)⟩
        have hend2 : (L = o) = False := by simp; exact hend
        have hap := add_at gb 0 o
        rw [Nat.zero_add] at hap
        clear hend
        go_enter Try.func18, Try.ntmps18
        go_wp2_with (go_at_call 45; refine (Kcl.out _ _ _ KC.out).mono ?_; rintro e w1 ⟨v1, rfl, ho1, hb1⟩; have KO1 := Aside0.mk ho1; have Kb1 := Aside0.mk hb1; clear ho1 hb1)
        go_ret2
        exact ⟨_, rfl, KO1.out, Kb1.out⟩
  · rw [if_neg hr]
    have hr' : at_ < 0 ∨ (0 ≤ at_ ∧ n < 0) ∨ (0 ≤ at_ ∧ 0 ≤ n ∧ (x.mem.length : Int) < n) ∨ (0 ≤ at_ ∧ 0 ≤ n ∧ n ≤ x.mem.length ∧ (x.mem.length : Int) - n < at_) := by omega
    clear hr
    rcases hr' with h | ⟨h, h2⟩ | ⟨h, h2, h3⟩ | ⟨h, h2, h3, h4⟩
    all_goals
      go_enter Try.func18, Try.ntmps18
      go_wp2
      go_ret2
      exact ⟨_, rfl, Row.OwnB.nil _ _, Below.refl _ _⟩
/-- A page's first byte. -/
theorem page_fits (hs : Shape x) {p : Nat} (hp : p < x.S * x.P) : p * x.B + x.B ≤ x.mem.length := by
  rw [hs.mem]
  calc p * x.B + x.B = (p + 1) * x.B := by rw [Nat.add_mul, Nat.one_mul]
    _ ≤ x.S * x.P * x.B := Nat.mul_le_mul_right _ hp
set_option maxHeartbeats 2000000 in
theorem page_any (h : FM w base f gb gd gw tv x) (hs : Shape x) (p : Nat) (hp : p < x.S * x.P) :
    Calls Try.prog 43 #[.pointer (some ⟨f, 0, none⟩), .int .i64 p] w fun e w' => e = .returned (.slice (some ⟨gb, p * x.B, none⟩) x.B (x.mem.length - p * x.B)) ∧ Drawn0 w w' := by
  obtain ⟨c0, c1, c2, c3, c4, c5, c6, c7, c8, c9, c10⟩ := h.cells
  have hfit := page_fits hs hp
  have hb1 := hs.b1
  have hml : x.mem.length ≤ 16777216 := by rw [hs.mem]; exact hs.all
  clear h c0 c1 c4 c5 c6 c7 c8 c9 c10
  obtain ⟨B, hB⟩ : ∃ B, B = x.B := ⟨_, rfl⟩
  obtain ⟨L, hL⟩ : ∃ L, L = x.mem.length := ⟨_, rfl⟩
  rw [← hB, ← hL] at hfit
  rw [← hB] at hb1 c2 ⊢
  rw [← hL] at hml c3 ⊢
  clear hB hL hs hp
  obtain ⟨o, ho⟩ : ∃ o, p * B = o := ⟨_, rfl⟩
  rw [ho] at hfit ⊢
  have hpb : p ≤ 16777216 := by
    have : p * 1 ≤ p * B := Nat.mul_le_mul_left _ (by omega)
    omega
  have hw1 : IntKind.i64.wrap ((p : Int) * (B : Int)) = (o : Int) := by rw [show (p : Int) * (B : Int) = (o : Int) by rw [← ho]; simp]; exact IntWalk.i64_in _ (by omega)
  have hw3 : IntKind.i64.wrap (((p : Int) + 1) * (B : Int)) = (o : Int) + (B : Int) := by
    rw [show ((p : Int) + 1) * (B : Int) = (o : Int) + (B : Int) by rw [Int.add_mul, Int.one_mul, ← ho]; simp]
    exact IntWalk.i64_in _ (by omega)
  have hw4 : IntKind.i64.wrap ((p : Int) + 1) = (p : Int) + 1 := IntWalk.i64_in _ (by omega)
  have hto : ((o : Int) + (B : Int)).toNat = o + B := by omega
  have hend : (L = o) = False := by simp; omega
  have hap := add_at gb 0 o
  rw [Nat.zero_add] at hap
  have hsub : o + B - o = B := by omega
  have hi1 : (0 : Int) ≤ (o : Int) := by omega
  have hi2 : (o : Int) ≤ (o : Int) + (B : Int) := by omega
  have hi3 : (o : Int) + (B : Int) ≤ (L : Int) := by omega
  have hi4 : (0 : Int) ≤ (o : Int) + (B : Int) := by omega
  have hle : o ≤ o + B := by omega
  have hle2 : o + B ≤ L := hfit
  clear ho
  go_enter Try.func43, Try.ntmps43
  go_wp2
  go_quiet (fail)
  go_wp2
  go_ret
  exact ⟨rfl, ⟨⟨_, rfl⟩⟩⟩
end
end Go.Proofs.Ytepmgkmbmejkjaa.Fl
