/- Tails in fragments: a packer in memory; a tail that fits into the last fragment. -/
import Derived.Test.YtbnkglcgblhjeaaFrag2
set_option linter.unusedVariables false
set_option linter.unusedSimpArgs false
namespace Go.Proofs.Ytbnkglcgblhjeaa.Frag
open Go.RowKit Go.Proofs.YtbnkglcgblhjeaaW.PrintWords Go.Proofs.YtbnkglcgblhjeaaW.PrintLast Go.Proofs.YtbnkglcgblhjeaaW.PrintMore
/-- A packer in memory: its fragments are xs, of 'sum' bytes. -/
def PK (w0 : World) (base g : Nat) (B : Int) (L : Value) (ok : Nat → Prop) (w : World) (xs : List (List Int)) (sum : Int) : Prop :=
  ∃ A c, w.heap[g]? = some (.cells #[.int .i64 B, L, .int .i64 sum, .slice A xs.length c] 90 (0, 0)) ∧ Kd.S dB 22 w base ok (.slice A xs.length c) xs ∧ Below base w0 w ∧ base ≤ g
theorem info8 : (Try.prog.info? 5).map (fun i => (i.zero, i.size, i.bytes)) = some (some (.int .u8 0), 1, 1) := by kernel_rfl
set_option maxRecDepth 100000 in
theorem add_fits (w0 : World) (base g : Nat) (B sum : Int) (L : Value) (xs : List (List Int)) (T : Option Addr) (ys : List Int) (m cT : Nat) (ok : Nat → Prop) (w : World) (hok : ∀ k, ok k → k ≠ g) (hfresh : ∀ k, w.heap.size ≤ k → ok k)
    (HP : PK w0 base g B L ok w xs sum) (HT : Kd.C (Kd.int .u8) w T m ys) (hn : 1 ≤ xs.length) (hn2 : xs.length ≤ 65536) (hm : 1 ≤ m) (hm2 : (m : Int) < B) (hB : B ≤ 1048576) (hs0 : 0 ≤ sum) (hs : sum + m ≤ 8388608)
    (hp : (((xs.getD (xs.length - 1) []).length : Nat) : Int) + m ≤ B) :
    Calls Try.prog 27 #[.pointer (some ⟨g, 0, none⟩), .slice T m cT] w fun e w' => e = .returned (.tuple #[.int .i64 (xs.length - 1), .int .i64 (xs.getD (xs.length - 1) []).length, .int .i64 0]) ∧ PK w0 base g B L ok w' (xs.set (xs.length - 1) (xs.getD (xs.length - 1) [] ++ ys)) (sum + m) := by
  obtain ⟨A, c, HG, HS, HB, hbg⟩ := HP
  have hbs : base ≤ w.heap.size := Nat.le_of_lt (Nat.lt_of_le_of_lt hbg (Array.getElem?_eq_some_iff.1 HG).1)
  obtain ⟨r, cap, hv, hr1, hr2, -⟩ := Kd.S_form HS hn
  injection hv with hA _ hc
  subst hA
  subst hc
  obtain ⟨oki, cs, hcl, hM, hcc, hfr, hoki, hH⟩ := Kd.S_elem HS [] ((xs.length - 1 : Nat) : Int) (by omega) (by omega)
  simp only [Int.toNat_natCast] at hM hcc hfr
  obtain ⟨v, rfl, hR⟩ := hM
  obtain ⟨A2, c2, rfl, hle, hC⟩ := Kd.R_reads hR
  have hlast : w.cell? ⟨r, xs.length - 1, none⟩ = some (.slice A2 (xs.getD (xs.length - 1) []).length c2) := by
    have h := hcc 0 _ rfl
    simpa [dB, Kd.slice] using h
  have hfrz : w.frozen? ⟨r, xs.length - 1, none⟩ = false := by simpa [dB, Kd.slice] using hfr 0
  obtain ⟨z, hz⟩ : ∃ z, z = xs.getD (xs.length - 1) [] := ⟨_, rfl⟩
  rw [← hz] at hR hle hC hlast hp ⊢
  obtain ⟨n, hxn⟩ : ∃ n, n = xs.length := ⟨_, rfl⟩
  have hc0 : w.cell? ⟨g, 0, none⟩ = some (.int .i64 B) := (cell_of_row _ _ _ _ _ _ HG).trans rfl
  have hc2 : w.cell? ⟨g, 2, none⟩ = some (.int .i64 sum) := (cell_of_row _ _ _ _ _ _ HG).trans rfl
  have hc3 : w.cell? ⟨g, 3, none⟩ = some (.slice (some ⟨r, 0, none⟩) xs.length c) := (cell_of_row _ _ _ _ _ _ HG).trans rfl
  have hm0 : ((m : Int) == 0) = false := by simp; omega
  have Kok := Aside0.mk hok
  have Kfr := Aside0.mk hfresh
  clear hok hfresh
  have KG := Aside0.mk HG
  have KB := Aside0.mk HB
  have KS := Aside0.mk HS
  have KH := Aside0.mk hH
  have KR := Aside0.mk hR
  have KC := Aside0.mk hC
  have KT := Aside0.mk HT
  have KZ := Aside0.mk hz
  clear HG HB HS hH hR hC HT hcc hfr hoki hcl hz
  go_enter Try.func27, Try.ntmps27
  go_wp2_with (go_at_call 45; refine (last_some g r 0 xs.length c hn (by omega) _ hc3).mono ?_; rintro e w1 ⟨rfl, k, rfl⟩)
  go_quiet (fail)
  go_wp2_with ((with_reducible refine gate_builtin (b := .append) (xs := #[.tmp 78, .tmp 79]) rfl ?_); apply Aside0.out)
  refine ⟨?_⟩
  have hlt : g < w.heap.size := (Array.getElem?_eq_some_iff.1 KG.out).1
  have hog : ∀ k, oki k → k ≠ g := fun k hk => Kok.out k ((KH.out).1 k hk)
  have hrow : ∀ q, (Value.slice A2 z.length c2).ownBlock = some q → oki q := KR.out.1
  refine Kd.R_append_rows (Kd.int .u8) (w0 := w0) base rfl (.tmp 78) (.tmp 79) 22 5 (.int .u8 0) 1 rfl Try.underlying22 info8 rfl (by decide) (by decide) (.slice A2 z.length c2) z ys T m cT (fun q => oki q ∨ ok q ∧ w.heap.size ≤ q) (fun _ => False) rfl rfl (Kd.R_mono (Kd.R_drewN KR.out _) (fun _ h => Or.inl h)) (Kd.C_drewN KT.out _) (fun _ _ h => h) (fun _ h => h.elim) (fun q hq => Or.inr ⟨Kfr.out q hq, hq⟩) (pw_below_drewN KB.out _) hbs (by omega) ?_
  intro v1 w1 h1 h2 h3 h4
  obtain ⟨zs, hzs⟩ : ∃ zs, zs = z ++ ys := ⟨_, rfl⟩
  rw [← hzs] at h1
  have KZS := Aside0.mk hzs
  clear hzs
  have hH1 := Kd.H_grown (Kd.H_drewN (Kd.H_widen KH.out) _) h3 (fun q hq => Or.inl (hrow q hq))
  have hG1 : w1.heap[g]? = w.heap[g]? := (h3.block g hlt (fun h => hog g (hrow g h.symm) rfl)).trans rfl
  have hsz1 : w.heap.size ≤ w1.heap.size := h3.size
  obtain ⟨A3, c3, rfl, hle3, hC3⟩ := Kd.R_reads h1
  have K1 := Aside0.mk h1
  have K2 := Aside0.mk h2
  have KH1 := Aside0.mk hH1
  have KG1 := Aside0.mk hG1
  clear h1 h2 h3 h4 hH1 hG1 hC3
  go_wp2_with ((with_reducible refine gate_store (t := 22) (p := 81) rfl ?_); apply Aside0.out)
  refine ⟨?_⟩
  refine Kd.H_store dB (w0 := w0) base rfl rfl 22 (.tmp 81) (.tmp 80) rfl 22 (g := r) (n := xs.length) (cap := c) (o' := xs.length - 1) ((xs.length - 1 : Nat) : Int) 0 xs zs (.slice A3 zs.length c3) [.slice A3 zs.length c3] [.slice A2 (xs.getD (xs.length - 1) []).length c2] ok (fun q => oki q ∨ ok q ∧ w.heap.size ≤ q) (fun q => oki q ∨ ok q ∧ w.heap.size ≤ q) rfl (by simp [dB, Kd.slice]) rfl rfl (by kernel_rfl) (by intro q hq; rw [List.mem_singleton.1 hq]; rfl) KH1.out (by omega) (by omega) (by simp [dB, Kd.slice]) ⟨_, rfl, K1.out⟩ (fun _ h => h) K2.out ?_
  intro w2 hS2 hB2 hg2
  have hgr : g ≠ r := fun h => by
    have := (Kd.S_typed KS.out) r rfl
    obtain ⟨cells, hh⟩ := this
    rw [← h, KG.out] at hh
    simp at hh
  have hG2 : w2.heap[g]? = w.heap[g]? := (hg2.block g (Nat.lt_of_lt_of_le hlt hsz1) (fun h => hgr (by injection h))).trans KG1.out
  have hsz2 : w1.heap.size ≤ w2.heap.size := hg2.size
  have hd0 : w2.cell? ⟨g, 0, none⟩ = some (.int .i64 B) := (cell_of_row _ _ _ _ _ _ (hG2.trans KG.out)).trans rfl
  have hd2 : w2.cell? ⟨g, 2, none⟩ = some (.int .i64 sum) := (cell_of_row _ _ _ _ _ _ (hG2.trans KG.out)).trans rfl
  have hd3 : w2.cell? ⟨g, 3, none⟩ = some (.slice (some ⟨r, 0, none⟩) xs.length c) := (cell_of_row _ _ _ _ _ _ (hG2.trans KG.out)).trans rfl
  have hfz2 : w2.frozen? ⟨g, 2, none⟩ = false := blk_frozen (hG2.trans KG.out) 2
  have K3 := Aside0.mk hS2
  have K4 := Aside0.mk hB2
  have KG2 := Aside0.mk hG2
  clear hS2 hB2 hg2 hG2
  go_wp2
  go_ret3
  rw [← KZS.out]
  refine ⟨rfl, ⟨some ⟨r, 0, none⟩, c, ?_, ?_, K4.out.setCell hbg _, hbg⟩⟩
  · rw [List.length_set]
    exact blk_set (KG2.out.trans KG.out) 2 _
  · rw [List.length_set]
    have h := Kd.S_far K3.out (p := ⟨g, 2, none⟩) Kok.out (.int .i64 (sum + m))
    simp only [Int.toNat_natCast] at h
    exact h
end Go.Proofs.Ytbnkglcgblhjeaa.Frag
