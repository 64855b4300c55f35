/- Contents, once: nil pools; rows of noughts beside a pool; as many as may be. -/
import Derived.Test.YtgadcnlcldjhpaaPool6
set_option linter.unusedVariables false
set_option linter.unusedSimpArgs false
namespace Go.Proofs.Ytgadcnlcldjhpaa.Pool
open Go.RowKit Go.Proofs.YtgadcnlcldjhpaaW.PrintWords Go.Proofs.YtgadcnlcldjhpaaW.PrintLast Go.Proofs.YtgadcnlcldjhpaaW.PrintMore
theorem add_nil (A : Option Addr) (n c : Nat) (w : World) : Calls Try.prog 43 #[.pointer none, .slice A n c] w fun e w' => e = .returned (.tuple #[.int .i64 0, .bool false, .int .i64 5]) ∧ w = w' := by
  go_enter Try.func43, Try.ntmps43
  go_wp2
  go_ret3
  exact ⟨rfl, rfl⟩
theorem at_nil (i : Int) (w : World) : Calls Try.prog 45 #[.pointer none, .int .i64 i] w fun e w' => e = .returned (.tuple #[.slice none 0 0, .int .i64 5]) ∧ w = w' := by
  go_enter Try.func45, Try.ntmps45
  go_wp2
  go_ret2
  exact ⟨rfl, rfl⟩
theorem len_nil (w : World) : Calls Try.prog 47 #[.pointer none] w fun e w' => e = .returned (.int .i64 0) ∧ w = w' := by
  go_enter Try.func47, Try.ntmps47
  go_wp2
  go_ret
  exact ⟨rfl, rfl⟩
theorem bytes_nil (w : World) : Calls Try.prog 48 #[.pointer none] w fun e w' => e = .returned (.int .i64 0) ∧ w = w' := by
  go_enter Try.func48, Try.ntmps48
  go_wp2
  go_ret
  exact ⟨rfl, rfl⟩
theorem len_any {w0 : World} {base g b : Nat} {ok : Nat → Prop} {xs : List (List Int)} (w : World) (HP : PS w0 base g b ok w xs) : Calls Try.prog 47 #[.pointer (some ⟨g, 0, none⟩)] w fun e w' => e = .returned (.int .i64 xs.length) ∧ w = w' := by
  obtain ⟨A, c, h0, -, -⟩ := PS_cells HP
  clear HP
  go_enter Try.func47, Try.ntmps47
  go_wp2
  go_ret
  exact ⟨rfl, rfl⟩
theorem bytes_any {w0 : World} {base g b : Nat} {ok : Nat → Prop} {xs : List (List Int)} (w : World) (HP : PS w0 base g b ok w xs) : Calls Try.prog 48 #[.pointer (some ⟨g, 0, none⟩)] w fun e w' => e = .returned (.int .i64 ((xs.map List.length).sum : Nat)) ∧ w = w' := by
  obtain ⟨A, c, -, -, h0⟩ := PS_cells HP
  obtain ⟨t, ht⟩ : ∃ t, t = (xs.map List.length).sum := ⟨_, rfl⟩
  rw [← ht] at h0 ⊢
  clear HP ht
  go_enter Try.func48, Try.ntmps48
  go_wp2
  go_ret
  exact ⟨rfl, rfl⟩
/-- A pool beside a row of noughts. -/
def PM (w0 : World) (base g b : Nat) (w : World) (xs : List (List Int)) (T : Option Addr) (n : Nat) : Prop :=
  ∃ t, T = some ⟨t, 0, none⟩ ∧ t < w.heap.size ∧ t ≠ g ∧ t ≠ b ∧ PS w0 base g b (fun k => (k ≠ g ∧ k ≠ b) ∧ k ≠ t) w xs ∧ Kd.C (Kd.int .u8) w T n (List.replicate n 0)
theorem C_frame {w w' : World} {g : Nat} {n : Nat} {l : List Int} (h : Kd.C (Kd.int .u8) w (some ⟨g, 0, none⟩) n l) (hg : w'.heap[g]? = w.heap[g]?) : Kd.C (Kd.int .u8) w' (some ⟨g, 0, none⟩) n l := by
  have h2 := Kd.reads_of_C (d := (0 : Int)) h
  refine Kd.C_of_reads (d := (0 : Int)) (h1 := fun _ => rfl) ⟨h2.1, h2.2.1, fun hp => ?_⟩
  obtain ⟨ad, had, hc⟩ := h2.2.2 hp
  refine ⟨ad, had, fun j hj => ?_⟩
  injection had with had
  subst had
  have := hc j hj
  rw [add_plain] at this ⊢
  rw [← this]
  simp only [World.cell?, hg]
section
variable {ops : Array Oper} {rest : List Oper} {o : Oper} {a : Act} {Q : Exit → Act → World → Prop}
theorem made_C (w : World) (n : Nat) (hn : n ≤ 100000000) : Kd.C (Kd.int .u8) (w.alloc (.cells (madeCells #[.int .u8 0] n) 5)) (some ⟨w.heap.size, 0, none⟩) n (List.replicate n 0) := by
  have h := cells_C (w := w.alloc (.cells (madeCells #[.int .u8 0] n) 5)) (l := List.replicate n 0) (heap_alloc_new _ _) (by rw [toList_madeCells_one]; simp [nums]) (by simp; omega)
  simpa using h
theorem PM_made {w0 w : World} {base g b : Nat} {xs : List (List Int)} (HP : PS w0 base g b (fun k => k ≠ g ∧ k ≠ b) w xs) (n : Nat) (hn : n ≤ 100000000) : PM w0 base g b (w.alloc (.cells (madeCells #[.int .u8 0] n) 5)) xs (some ⟨w.heap.size, 0, none⟩) n := by
  have hlt := PS_lt HP
  exact ⟨w.heap.size, rfl, by simp, by omega, by omega, PS_lit HP _, made_C w n hn⟩
end
theorem zero_bytes (n : Nat) : ∀ x ∈ List.replicate n (0 : Int), 0 ≤ x ∧ x < 256 := fun x hx => by
  rw [List.eq_of_mem_replicate hx]
  omega
theorem madd_new (w0 : World) (base g b : Nat) (xs : List (List Int)) (T : Option Addr) (n c : Nat) (w : World) (HP : PM w0 base g b w xs T n) (hc : n ≤ c) (hn : n ≤ 100000000) (hx : xs.length < 16384) (hm : List.replicate n (0 : Int) ∉ xs) (hs : (xs.map List.length).sum + n ≤ 8388608) :
    Calls Try.prog 43 #[.pointer (some ⟨g, 0, none⟩), .slice T n c] w fun e w' => e = .returned (.tuple #[.int .i64 xs.length, .bool true, .int .i64 0]) ∧ PS w0 base g b (fun k => k ≠ g ∧ k ≠ b) w' (xs ++ [List.replicate n 0]) := by
  obtain ⟨t, rfl, ht, htg, htb, hP, hC⟩ := HP
  have hlt := PS_lt hP
  have h := add_new w0 base g b xs (some ⟨t, 0, none⟩) c (List.replicate n 0) _ w hP (fun k hk => hk.1) (fun k hk => ⟨⟨by omega, by omega⟩, by omega⟩) (fun w' _ hf => by
    have h2 := C_frame (w' := w') hC (hf t (fun h => h.2 rfl) htg htb ht)
    simpa using h2) (by simpa using hc) (zero_bytes n) (by simp; omega) hx hm (by simpa using hs)
  simp only [List.length_replicate] at h
  refine h.mono ?_
  rintro e w' ⟨rfl, h1, -⟩
  exact ⟨rfl, PS_wide h1 (fun k hk => hk.1)⟩
theorem madd_long (w0 : World) (base g b : Nat) (xs : List (List Int)) (T : Option Addr) (n c : Nat) (w : World) (HP : PM w0 base g b w xs T n) (hc : n ≤ c) (hn : n ≤ 100000000) (hx : xs.length ≤ 16384) (hm : List.replicate n (0 : Int) ∉ xs) (ht : (xs.map List.length).sum ≤ 8388608) (hs : 8388608 < (xs.map List.length).sum + n) :
    Calls Try.prog 43 #[.pointer (some ⟨g, 0, none⟩), .slice T n c] w fun e w' => e = .returned (.tuple #[.int .i64 0, .bool false, .int .i64 2]) ∧ PS w0 base g b (fun k => k ≠ g ∧ k ≠ b) w' xs := by
  obtain ⟨t, rfl, ht', htg, htb, hP, hC⟩ := HP
  have h := add_long w0 base g b xs (some ⟨t, 0, none⟩) c (List.replicate n 0) _ w hP (by simpa using hC) (by simpa using hc) (zero_bytes n) (by simp; omega) hx hm ht (by simpa using hs)
  simp only [List.length_replicate] at h
  refine h.mono ?_
  rintro e w' ⟨rfl, k, rfl⟩
  exact ⟨rfl, PS_drewN (PS_wide hP (fun k hk => hk.1)) k⟩
theorem ladd_many (w0 : World) (base g b : Nat) (xs : List (List Int)) (inner : Array Value) (l : List Int) (w : World) (HP : PS w0 base g b (fun k => k ≠ g ∧ k ≠ b) w xs) (hi : inner.toList = nums .u8 l) (hl : ∀ x ∈ l, 0 ≤ x ∧ x < 256) (hn : l.length ≤ 1000000) (hx : xs.length = 16384) (hm : l ∉ xs) (hs : (xs.map List.length).sum + l.length ≤ 8388608) :
    Calls Try.prog 43 #[.pointer (some ⟨g, 0, none⟩), .slice (some ⟨w.heap.size, 0, none⟩) l.length l.length] (w.alloc (.cells inner 5)) fun e w' => e = .returned (.tuple #[.int .i64 0, .bool false, .int .i64 3]) ∧ PS w0 base g b (fun k => k ≠ g ∧ k ≠ b) w' xs := by
  have hcell : (w.alloc (.cells inner 5)).heap[w.heap.size]? = some (.cells inner 5 (0, 0)) := heap_alloc_new _ _
  refine (add_many w0 base g b xs (some ⟨w.heap.size, 0, none⟩) l.length l _ _ (PS_lit HP _) (cells_C hcell hi (by omega)) (Nat.le_refl _) hl (by omega) hx hm hs).mono ?_
  rintro e w' ⟨rfl, k, rfl⟩
  exact ⟨rfl, PS_drewN (PS_wide (PS_lit HP _) (fun k hk => hk.1)) k⟩
end Go.Proofs.Ytgadcnlcldjhpaa.Pool
