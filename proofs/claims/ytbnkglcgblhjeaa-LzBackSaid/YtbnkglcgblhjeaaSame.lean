/- Rows of sequences as they are read; the same ones are told to be the same. -/
import Derived.Test.YtbnkglcgblhjeaaLz10
import Derived.Test.YtbnkglcgblhjeaaLawLz1
set_option linter.unusedVariables false
set_option linter.unusedSimpArgs false
namespace Go.Proofs.Ytbnkglcgblhjeaa.Lz
open Go.RowKit Go.Proofs.YtbnkglcgblhjeaaW.PrintWords Go.Proofs.YtbnkglcgblhjeaaW.PrintLast Go.Proofs.YtbnkglcgblhjeaaW.PrintMore
theorem SC_reps {w0 w' : World} {base : Nat} (hB : Below base w0 w') {acc : List Sq} {cells : List Value} (h : SC w0 base acc cells) : Reps (kS.K w') 3 acc cells := by
  induction h with
  | nil => exact Reps.none _ _
  | snoc h hC hc ih => exact Reps.snoc ih ⟨[_], [_, _], rfl, ⟨_, _, rfl, hc, hC w' hB⟩, ⟨[_], [_], rfl, rfl, rfl⟩⟩ rfl
theorem RowL_C {w0 w' : World} {base : Nat} {v : Value} {acc : List Sq} (h : RowL w0 base w' v acc) (hB : Below base w0 w') : ∃ A c, v = .slice A acc.length c ∧ acc.length ≤ c ∧ Kd.C kS w' A acc.length acc := by
  obtain ⟨cells, h0, hs⟩ := h
  exact OwnRow.reads (R := kS.K w') ⟨cells, h0, SC_reps hB hs⟩
theorem at_kS {w : World} {A : Option Addr} {n : Nat} {xs : List Sq} (h : Kd.C kS w A n xs) (k : Nat) (h1 : k < n) : ∃ ad A0 c0, ∃ s : Sq, xs[k]? = some s ∧ A = some ad ∧ w.cell? (ad.add (k * 3)) = some (.slice A0 s.1.length c0) ∧ w.cell? ⟨(ad.add (k * 3)).block, (ad.add (k * 3)).off + 1, none⟩ = some (.int .i64 s.2.1) ∧ w.cell? ⟨(ad.add (k * 3)).block, (ad.add (k * 3)).off + 2, none⟩ = some (.int .i64 s.2.2) ∧ s.1.length ≤ c0 ∧ (Kd.int .u8).C w A0 s.1.length s.1 := by
  obtain ⟨ad, e, hc⟩ := h.2.2 (by omega)
  have hl := h.1
  have hk : k < xs.length := by omega
  obtain ⟨c, _, hK, hc0⟩ := hc k _ (List.getElem?_eq_getElem hk)
  obtain ⟨_, _, rfl, ⟨A0, c0, rfl, l0, g0⟩, ⟨_, _, rfl, rfl, rfl⟩⟩ := hK
  exact ⟨ad, A0, c0, xs[k], List.getElem?_eq_getElem hk, e, hc0 0 _ rfl, by rw [← add_field _ _ 1 (by omega)]; exact hc0 1 _ rfl, by rw [← add_field _ _ 2 (by omega)]; exact hc0 2 _ rfl, l0, g0⟩
theorem str_at {w : World} {A : Option Addr} {n c : Nat} {xs : List Int} (h : (Kd.int .u8).C w A n xs) : ∀ m, (convert 22 9 (.slice A n c)).run Try.prog (w.drewN m) = .ok (.string (strOfNums xs)) (w.drewN m) :=
  fun m => Kd.C_string Try.underlying22 Try.underlying5 Try.underlying9 (Kd.C_drewN h m)
set_option maxHeartbeats 2000000 in
set_option maxRecDepth 100000 in
theorem same_true {w : World} {A0 A1 : Option Addr} {c0 c1 : Nat} {l : List Sq} (h0 : Kd.C kS w A0 l.length l) (k0 : l.length ≤ c0) (h1 : Kd.C kS w A1 l.length l) (k1 : l.length ≤ c1) (hl : l.length ≤ 4000000) :
    Calls Try.prog 20 #[.slice A0 l.length c0, .slice A1 l.length c1] w fun e w' => e = .returned (.bool true) ∧ Drawn0 w w' := by
  obtain ⟨n, hn⟩ : ∃ n, n = l.length := ⟨_, rfl⟩
  rw [← hn] at h0 h1 hl k0 k1 ⊢
  have KC0 := Aside0.mk h0
  have KC1 := Aside0.mk h1
  clear h0 h1 hn k0 k1
  go_enter Try.func20, Try.ntmps20
  go_wp2
  go_loopw [5] (fun i wr => ∃ k m : Nat, k ≤ n ∧ i = .int .i64 k ∧ wr = w.drewN m) (fun i _ => n - (intOf i).toNat)
  case atStart => exact ⟨0, 0, Nat.zero_le _, rfl, rfl⟩
  case round =>
    obtain ⟨k, m, hk, rfl, rfl⟩ := hrel
    by_cases hlt : k < n
    · obtain ⟨ad0, B0, d0, s, hs0, rfl, x0, x1, x2, y0, y1⟩ := at_kS KC0.out k hlt
      obtain ⟨ad1, B1, d1, s1, hs1, rfl, z0, z1, z2, v0, v1⟩ := at_kS KC1.out k hlt
      rw [hs0] at hs1
      obtain rfl := Option.some.inj hs1
      have t0 := str_at (c := d0) y1
      have t1 := str_at (c := d1) v1
      obtain ⟨lit, off, len⟩ := s
      simp only at x0 x1 x2 z0 z1 z2 t0 t1
      clear hs0 hs1 y0 y1 v0 v1
      go_wp2
      go_quiet (fail)
      go_wp2
      refine ⟨⟨k + 1, _, by omega, by go_num, rfl⟩, by simp [intOf]; omega⟩
    · obtain rfl : k = n := by omega
      go_wp2
      go_ret
      exact ⟨rfl, ⟨⟨_, rfl⟩⟩⟩
/-- The three answers about a block, side by side. -/
theorem all3 (b : List Int) (hb : isB b) : ∃ L Y T E P, siz b = (T, E, P) ∧ cuts b = (L, E, P) ∧ dec b 1048576 = (Y, E, P) ∧ (if (dec b 1048576).2.1 = 0 then (run b.length 1048576 (b.length + 1) 0 b).1 else []) = L ∧ T = (Y.length : Int) := by
  have ht := run_tot (N := b.length) (most := 1048576) (b.length + 1) 0 b hb (by decide) (by decide)
  have ho := outs_length (run b.length 1048576 (b.length + 1) 0 b).1 [] ht.2.1
  unfold siz cuts dec
  rw [if_neg (by decide : ¬ ((1048576 : Int) < 0 ∨ (1048576 : Int) < 1048576))]
  obtain ⟨l, er, pp, hrun⟩ : ∃ l er pp, run b.length 1048576 (b.length + 1) 0 b = (l, er, pp) := ⟨_, _, _, rfl⟩
  rw [hrun] at ho ⊢
  simp only at ho ⊢
  by_cases her : er = 0
  · subst her
    exact ⟨l, outs [] l, tot l, 0, b.length, rfl, rfl, rfl, rfl, by simpa using ho.symm⟩
  · simp only [if_neg her]
    exact ⟨[], [], 0, er, pp, rfl, rfl, rfl, rfl, rfl⟩
theorem cuts_length (b : List Int) : ∀ (N : Nat) (most : Int) (f : Nat) (size : Int) (r : List Int), (run N most f size r).1.length ≤ f := by
  intro N most f
  induction f with
  | zero => intro size r; simp [run]
  | succ f ih =>
    intro size r
    unfold run
    cases step N most size r with
    | fail e p => simp
    | last lit => simp
    | seq lit off len rest => simp only [List.length_cons]; have := ih (size + lit.length + len) rest; omega
end Go.Proofs.Ytbnkglcgblhjeaa.Lz
