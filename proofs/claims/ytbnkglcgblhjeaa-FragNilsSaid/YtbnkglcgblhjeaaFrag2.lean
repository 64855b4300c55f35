/- Tails in fragments: one more. -/
import Derived.Test.YtbnkglcgblhjeaaFrag1
import Derived.Test.YtbnkglcgblhjeaaWApart
import Derived.Test.YtbnkglcgblhjeaaWMore
set_option linter.unusedVariables false
set_option linter.unusedSimpArgs false
namespace Go.Proofs.Ytbnkglcgblhjeaa.Frag
open Go.RowKit Go.Proofs.YtbnkglcgblhjeaaW.PrintWords Go.Proofs.YtbnkglcgblhjeaaW.PrintLast Go.Proofs.YtbnkglcgblhjeaaW.PrintMore
/-- Rows of bytes. -/
abbrev dB : Kd (List Int) := Kd.slice 5 (Kd.int .u8)
theorem info22 : (Try.prog.info? 22).map (fun i => (i.zero, i.size, i.bytes)) = some (some (.slice none 0 0), 1, 24) := by kernel_rfl
theorem add_nil (base g : Nat) (b l s : Value) (A : Option Addr) (c : Nat) (xs : List (List Int)) (ok : Nat → Prop) (w0 w : World)
    (HG : w.heap[g]? = some (.cells #[b, l, s, .slice A xs.length c] 90 (0, 0))) (hc : w.cell? ⟨g, 3, none⟩ = some (.slice A xs.length c))
    (HS : Kd.S dB 22 w base ok (.slice A xs.length c) xs) (hok : ∀ k, ok k → k ≠ g) (hfresh : ∀ k, w.heap.size ≤ k → ok k)
    (HB : Below base w0 w) (hbase : base ≤ w.heap.size) (hbg : base ≤ g) (hl : xs.length ≤ 65535) :
    Calls Try.prog 46 #[.pointer (some ⟨g, 3, none⟩), .slice none 0 0] w fun e w' => e = .returned (.int .i64 xs.length) ∧ ∃ w1 A1 c1, w' = w1.setCell ⟨g, 3, none⟩ (.slice A1 (xs.length + 1) c1) ∧ w1.heap[g]? = w.heap[g]? ∧ Kd.S dB 22 w1 base ok (.slice A1 (xs.length + 1) c1) (xs ++ [[]]) ∧ Below base w0 w1 ∧ w.grownBy w1 (Value.slice A xs.length c).ownBlock := by
  have KS := Aside0.mk HS
  have KB := Aside0.mk HB
  have KG := Aside0.mk HG
  clear HS HB HG
  go_enter Try.func46, Try.ntmps46
  go_wp2_with ((with_reducible refine gate_builtin (b := .append) (xs := #[.tmp 9, .tmp 11]) rfl ?_); apply Aside0.out)
  refine ⟨?_⟩
  refine Kd.S_append dB (w0 := w0) base rfl (.tmp 9) (.tmp 11) 60 22 (.slice none 0 0) 24 rfl Try.underlying60 info22 rfl (by decide) (by decide) (.slice A xs.length c) xs [] [.slice none 0 0] ok (fun _ => False) rfl rfl ⟨_, rfl, Kd.R_nil _ _ _ _ _⟩ (fun _ h => h.elim) hfresh (Kd.S_mono KS.out (fun _ h => ⟨h, id⟩)) KB.out hbase (by omega) ?_
  intro v1 w1 h1 h2 h3 h4
  obtain ⟨A1, c1, rfl⟩ := Kd.S_slice h1
  have hlen : (xs ++ [([] : List Int)]).length = xs.length + 1 := by simp
  rw [hlen] at h1 h4 ⊢
  have hgr : w1.heap[g]? = w.heap[g]? := h3.block g (Array.getElem?_eq_some_iff.1 KG.out).1 (Kd.S_away KS.out hok)
  have hc1 : w1.cell? ⟨g, 3, none⟩ = some (.slice A xs.length c) := (cell_of_row _ _ _ _ _ _ (hgr.trans KG.out)).trans rfl
  have hfz : w1.frozen? ⟨g, 3, none⟩ = false := blk_frozen (hgr.trans KG.out) 3
  have K1 := Aside0.mk h1
  have K2 := Aside0.mk h2
  have K3 := Aside0.mk h3
  have K4 := Aside0.mk hgr
  clear h1 h2 h3 h4 hgr hlen
  go_wp2
  go_ret
  exact ⟨rfl, w1, A1, c1, rfl, K4.out, K1.out, K2.out, K3.out⟩
end Go.Proofs.Ytbnkglcgblhjeaa.Frag
