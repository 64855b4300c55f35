/- Tails in fragments: what the laws ask of a packer: how many fragments, how long the last one is. -/
import Derived.Test.YtbnkglcgblhjeaaFrag4
set_option linter.unusedVariables false
set_option linter.unusedSimpArgs false
namespace Go.Proofs.Ytbnkglcgblhjeaa.Frag
open Go.RowKit Go.Proofs.YtbnkglcgblhjeaaW.PrintWords Go.Proofs.YtbnkglcgblhjeaaW.PrintLast Go.Proofs.YtbnkglcgblhjeaaW.PrintMore
/-- A packer of k fragments, the last one of 'last' bytes. -/
def FS (w0 : World) (base g : Nat) (L : Value) (w : World) (k last sum : Nat) : Prop :=
  ∃ xs : List (List Int), PK w0 base g 4096 L (fun j => j ≠ g) w xs sum ∧ xs.length = k ∧ (xs.getD (xs.length - 1) []).length = last
/-- The same beside a tail that lies apart. -/
def FT (w0 : World) (base g : Nat) (L : Value) (w : World) (k last sum : Nat) (T : Option Addr) (m : Nat) : Prop :=
  ∃ (xs : List (List Int)) (ok : Nat → Prop) (ys : List Int), PK w0 base g 4096 L ok w xs sum ∧ (∀ j, ok j → j ≠ g) ∧ (∀ j, w.heap.size ≤ j → ok j) ∧ xs.length = k ∧ (xs.getD (xs.length - 1) []).length = last ∧ ys.length = m ∧
    ∀ w' : World, Below base w0 w' → (∀ j, ¬ ok j → j ≠ g → j < w.heap.size → w'.heap[j]? = w.heap[j]?) → Kd.C (Kd.int .u8) w' T m ys
theorem PK_wide {w0 : World} {base g : Nat} {B sum : Int} {L : Value} {xs : List (List Int)} {ok ok' : Nat → Prop} {w : World} (HP : PK w0 base g B L ok w xs sum) (h : ∀ j, ok j → ok' j) : PK w0 base g B L ok' w xs sum := by
  obtain ⟨A, c, HG, HS, HB, hbg⟩ := HP
  exact ⟨A, c, HG, Kd.S_mono HS h, HB, hbg⟩
theorem C_frame {w w' : World} {g : Nat} {n c : Nat} {l : List Int} (h : Kd.C (Kd.int .u8) w (some ⟨g, 0, none⟩) n l) (hg : w'.heap[g]? = w.heap[g]?) : Kd.C (Kd.int .u8) w' (some ⟨g, 0, none⟩) n l := by
  have h2 := Kd.reads_of_C (d := (0 : Int)) h
  refine Kd.C_of_reads (d := (0 : Int)) (h1 := fun _ => rfl) ⟨h2.1, h2.2.1, fun hp => ?_⟩
  obtain ⟨ad, had, hc⟩ := h2.2.2 hp
  refine ⟨ad, had, fun j hj => ?_⟩
  injection had with had
  subst had
  have := hc j hj
  rw [add_plain] at this ⊢
  rw [← this]
  simp only [World.cell?, hg]
theorem FS_make {w0 : World} {base g : Nat} {L : Value} {w w1 : World} {k last sum n : Nat} {v1 : Value} (H : FS w0 base g L w k last sum) (hn : 1 ≤ n) (hR : Kd.R (Kd.int .u8) 5 w1 base (fun _ => True) v1 (List.replicate n 0)) (hB : Below base w0 w1) (hg : w.grownBy w1 none) (hb : ∃ b, v1.ownBlock = some b ∧ w.heap.size ≤ b) :
    ∃ T cT, v1 = .slice T n cT ∧ n ≤ cT ∧ FT w0 base g L w1 k last sum T n := by
  obtain ⟨xs, ⟨A, c, HG, HS, HB, hbg⟩, hk, hl⟩ := H
  obtain ⟨b, hbo, hbw⟩ := hb
  obtain ⟨t, cT, rfl, htb, htw, -⟩ := Kd.R_form hR (by simp; omega)
  obtain ⟨-, hle, hC⟩ := Kd.R_reads' hR
  have htb : b = t := by simp [Value.ownBlock] at hbo; exact hbo.symm
  subst htb
  have hgw := (Array.getElem?_eq_some_iff.1 HG).1
  refine ⟨some ⟨b, 0, none⟩, cT, by simp, by simpa using hle, xs, fun j => j ≠ g ∧ j ≠ b, List.replicate n 0, ⟨A, c, ?_, ?_, hB, hbg⟩, fun j hj => hj.1, fun j hj => ⟨by have := hg.size; omega, by omega⟩, hk, hl, by simp, fun w' _ hf => ?_⟩
  · rw [hg.block g hgw (by simp)]
    exact HG
  · exact Kd.S_mono (Kd.S_grown (Kd.S_bound HS) hg (fun _ _ => by simp)) (fun j hj => ⟨hj.1, by have := hj.2.2.1; omega⟩)
  · have h := C_frame (w' := w') (c := cT) hC (hf b (fun h => h.2 rfl) (by omega) htw)
    simpa using h
theorem add_law (w0 : World) (base g : Nat) (L : Value) (w : World) (k last sum : Nat) (T : Option Addr) (m cT : Nat) (H : FT w0 base g L w k last sum T m) (hk : k ≤ 65535) (hl : last ≤ 4096) (hm : 1 ≤ m) (hm2 : m ≤ 4095) (hs : sum + m ≤ 8388608) :
    Calls Try.prog 27 #[.pointer (some ⟨g, 0, none⟩), .slice T m cT] w fun e w' =>
      (1 ≤ k ∧ last + m ≤ 4096 ∧ e = .returned (.tuple #[.int .i64 (k - 1), .int .i64 last, .int .i64 0]) ∧ FS w0 base g L w' k (last + m) (sum + m)) ∨
      ((k = 0 ∨ 4096 < last + m) ∧ e = .returned (.tuple #[.int .i64 k, .int .i64 0, .int .i64 0]) ∧ FS w0 base g L w' (k + 1) m (sum + m)) := by
  obtain ⟨xs, ok, ys, HP, hok, hfr, rfl, rfl, rfl, hT⟩ := H
  by_cases h0 : xs.length = 0
  · have hx : xs = [] := List.length_eq_zero_iff.1 h0
    subst hx
    refine (add_first w0 base g 4096 sum L T ys ys.length cT ok w hok hfr HP hT hm (by omega) (by omega) (by omega) (by omega)).mono ?_
    rintro e w' ⟨rfl, h⟩
    refine Or.inr ⟨Or.inl rfl, rfl, [ys], ?_, rfl, rfl⟩
    have h := PK_wide h hok
    simpa using h
  by_cases hp : (xs.getD (xs.length - 1) []).length + ys.length ≤ 4096
  · refine (add_fits w0 base g 4096 sum L xs T ys ys.length cT ok w hok hfr HP ?_ (by omega) (by omega) hm (by omega) (by omega) (by omega) (by omega) (by omega)).mono ?_
    · obtain ⟨_, _, _, _, hB, _⟩ := HP
      exact hT w hB (fun _ _ _ _ => rfl)
    rintro e w' ⟨rfl, h⟩
    refine Or.inl ⟨by omega, hp, rfl, _, PK_wide h hok, by simp, ?_⟩
    rw [List.length_set, List.getD_eq_getElem?_getD, List.getElem?_set_self (by omega)]
    simp
  · refine (add_more w0 base g 4096 sum L xs T ys ys.length cT ok w hok hfr HP hT (by omega) hk hm (by omega) (by omega) (by omega) (by omega) (by omega) (by omega)).mono ?_
    rintro e w' ⟨rfl, h⟩
    refine Or.inr ⟨Or.inr (by omega), rfl, _, PK_wide h hok, by simp, ?_⟩
    rw [List.getD_eq_getElem?_getD]
    simp
theorem FS_new (w : World) (L : Value) : FS w w.heap.size w.heap.size L (w.alloc (.cells #[.int .i64 4096, L, .int .i64 0, .slice none 0 0] 90)) 0 0 0 :=
  ⟨[], ⟨none, 0, heap_alloc_new _ _, Kd.S_nil _ _ _ _ _, below_alloc (Below.refl _ _) _, Nat.le_refl _⟩, rfl, rfl⟩
theorem FS_count {w0 : World} {base g : Nat} {L : Value} {w : World} {k last sum : Nat} (H : FS w0 base g L w k last sum) : ∃ A c, w.cell? ⟨g, 3, none⟩ = some (.slice A k c) := by
  obtain ⟨xs, ⟨A, c, HG, HS, HB, hbg⟩, rfl, -⟩ := H
  exact ⟨A, c, (cell_of_row _ _ _ _ _ _ HG).trans rfl⟩
theorem FS_below {w0 : World} {base g : Nat} {L : Value} {w : World} {k last sum : Nat} (H : FS w0 base g L w k last sum) : Below base w0 w ∧ base ≤ w.heap.size := by
  obtain ⟨xs, ⟨A, c, HG, HS, HB, hbg⟩, rfl, -⟩ := H
  exact ⟨HB, Nat.le_of_lt (Nat.lt_of_le_of_lt hbg (Array.getElem?_eq_some_iff.1 HG).1)⟩
end Go.Proofs.Ytbnkglcgblhjeaa.Frag
