/- Tails in fragments: the page's example. -/
import Derived.Test.YtbnkglcgblhjeaaFrag5
set_option linter.unusedVariables false
set_option linter.unusedSimpArgs false
namespace Go.Proofs.Ytbnkglcgblhjeaa.Frag
open Go.RowKit Go.Proofs.YtbnkglcgblhjeaaW.PrintWords Go.Proofs.YtbnkglcgblhjeaaW.PrintLast Go.Proofs.YtbnkglcgblhjeaaW.PrintMore
section
variable {ops : Array Oper} {rest : List Oper} {o : Oper} {a : Act} {Q : Exit → Act → World → Prop}
/-- make([]byte, n) beside a packer. -/
theorem make_fs {w0 : World} {base g : Nat} {L : Value} {W : World} {k last sum : Nat} (hgd : o.guard = none) {N : Tmp} (hd : o.dst = some N) (x y : Operand) (ho : o.op = .makeSlice 22 x y) (n : Nat) (hx : a.eval x = .int .i64 n) (hy : a.eval y = .int .i64 n) (hn : 1 ≤ n) (hn2 : n ≤ 1000000)
    (H : FS w0 base g L W k last sum)
    (h : ∀ T cT w1, Aside0 (FT w0 base g L w1 k last sum T n) → wpList Try.prog ops Q rest (a.put o.dst (.slice T n cT)) w1) : wpList Try.prog ops Q (o :: rest) a W := by
  obtain ⟨hB, hbs⟩ := FS_below H
  refine Kd.R_make (Kd.int .u8) (w0 := w0) base 5 hgd hd 22 x y ho n hx hy Try.underlying22 (.int .u8 0) 1 info8 rfl (by decide) (by decide) (0 : Int) (ok := fun _ => True) (okp := fun _ => False) rfl (fun _ h => h.elim) trivial (by omega) (by omega) hB hbs ?_
  intro v1 w1 hR hB1 hg hb
  rw [Int.toNat_natCast] at hR
  obtain ⟨T, cT, rfl, hle, hF⟩ := FS_make H hn hR hB1 hg hb
  exact h T cT w1 ⟨hF⟩
end
theorem new12 (x : Nat) (w : World) : Calls Try.prog 25 #[.int .i64 12, .float .f64 x] w fun e w' => e = .returned (.tuple #[.pointer (some ⟨w.heap.size, 0, none⟩), .int .i64 0]) ∧ w' = w.alloc (.cells #[.int .i64 4096, .float .f64 x, .int .i64 0, .slice none 0 0] 90) := by
  have h := new_ok 12 (by decide) (by decide) x w
  rw [show wrap64 (2 ^ (12 : Int).toNat) = 4096 by rw [show (2 : Int) ^ (12 : Int).toNat = 4096 from rfl]; unfold wrap64; omega] at h
  exact h
set_option maxRecDepth 100000 in
theorem live_any (w : World) : Calls Try.prog 24 #[] w fun e w' => e = .returned (.bool true) ∧ Below w.heap.size w w' := by
  have H0 := Aside0.mk (FS_new w (.float .f64 4607182418800017408))
  have tokA : True := trivial
  have tokB : True := trivial
  have tokC : True := trivial
  go_enter Try.func24, Try.ntmps24
  go_wp2_with (first | (go_at_call 25; refine (new12 _ _).mono ?_; rintro e w' ⟨rfl, rfl⟩) | (go_at_call 26; refine (num_any _ _).mono ?_; rintro e w' ⟨rfl, rfl⟩) | ((with_reducible refine gate_dst (N := 25) rfl ?_); have _t := tokA; refine make_fs rfl rfl _ _ rfl 3000 rfl rfl (by decide) (by decide) H0.out ?_; intro T1 c1 w1 H1) | ((with_reducible refine gate_dst (N := 32) rfl ?_); have _t := tokB; refine make_fs rfl rfl _ _ rfl 2000 rfl rfl (by decide) (by decide) H2.out ?_; intro T3 c3 w3 H3) | ((with_reducible refine gate_dst (N := 39) rfl ?_); have _t := tokC; refine make_fs rfl rfl _ _ rfl 96 rfl rfl (by decide) (by decide) H4.out ?_; intro T5 c5 w5 H5) | (go_at_call 27; first | (have _t := tokA; refine (add_law _ _ _ _ _ _ _ _ T1 3000 c1 H1.out (by decide) (by decide) (by decide) (by decide) (by decide)).mono ?_; rintro e w2 h; have h := h.resolve_left (by rintro ⟨h, -⟩; omega); obtain ⟨-, rfl, H2⟩ := h; have H2 := Aside0.mk H2; clear tokA) | (have _t := tokB; refine (add_law _ _ _ _ _ _ _ _ T3 2000 c3 H3.out (by decide) (by decide) (by decide) (by decide) (by decide)).mono ?_; rintro e w4 h; have h := h.resolve_left (by rintro ⟨-, h, -⟩; omega); obtain ⟨-, rfl, H4⟩ := h; have H4 := Aside0.mk H4; clear tokB) | (have _t := tokC; refine (add_law _ _ _ _ _ _ _ _ T5 96 c5 H5.out (by decide) (by decide) (by decide) (by decide) (by decide)).mono ?_; rintro e w6 h; have h := h.resolve_right (by rintro ⟨h, -⟩; omega); obtain ⟨-, -, rfl, H6⟩ := h; obtain ⟨A6, d6, hc6⟩ := FS_count H6; have H6 := Aside0.mk H6; clear tokC)) | (go_at_call 28; refine (count_some _ A6 _ d6 _ hc6).mono ?_; rintro e w' ⟨rfl, rfl⟩))
  go_ret
  exact ⟨rfl, (FS_below H6.out).1⟩
end Go.Proofs.Ytbnkglcgblhjeaa.Frag
