/- Contents, once: what is more than is asked; the page's example. -/
import Derived.Test.YtgadcnlcldjhpaaPool5
set_option linter.unusedVariables false
set_option linter.unusedSimpArgs false
namespace Go.Proofs.Ytgadcnlcldjhpaa.Pool
open Go.RowKit Go.Maps Go.WideElems Go.ChangeShapes Go.Proofs.YtgadcnlcldjhpaaW.PrintWords Go.Proofs.YtgadcnlcldjhpaaW.PrintLast Go.Proofs.YtgadcnlcldjhpaaW.PrintMore
/-- A pool beside a literal of bytes. -/
theorem PS_lit {w0 w : World} {base g b : Nat} {xs : List (List Int)} (HP : PS w0 base g b (fun k => k ≠ g ∧ k ≠ b) w xs) (o : Obj) : PS w0 base g b (fun k => (k ≠ g ∧ k ≠ b) ∧ k ≠ w.heap.size) (w.alloc o) xs :=
  PS_below (PS_wide (PS_narrow HP) (fun k hk => ⟨hk.1, by omega⟩)) (below_alloc (Below.refl _ _) o)
/-- A content seen at its place. -/
def At (C : List (List Int)) (A : Option Addr) (w : World) : Prop := Kd.C (Kd.slice 5 (Kd.int .u8)) w A C.length C
theorem at_cell {C : List (List Int)} {A : Option Addr} {w : World} (h : Kd.C (Kd.slice 5 (Kd.int .u8)) w A C.length C) (i : Nat) (hi : i < C.length) : ∃ ad A0 c0, A = some ad ∧ w.cell? (ad.add i) = some (.slice A0 C[i].length c0) ∧ C[i].length ≤ c0 ∧ Kd.C (Kd.int .u8) w A0 C[i].length C[i] := by
  obtain ⟨ad, c, hA, hcl, hK, hc⟩ := Kd.C_get h [] (i : Int) (by omega) (by omega)
  rw [Int.toNat_natCast, show C.getD i [] = C[i] by rw [List.getD_eq_getElem?_getD, List.getElem?_eq_getElem hi]; rfl] at hK
  obtain ⟨A0, c0, rfl, h1, h2⟩ := hK
  have h3 := hc 0 _ rfl
  rw [Int.toNat_natCast] at h3
  refine ⟨ad, A0, c0, hA, ?_, h1, h2⟩
  simpa [Kd.slice] using h3
def bigB (C : List (List Int)) : Bool := decide (100 < C.length) || C.any (fun x => decide (3000 < x.length))
theorem big_any (A : Option Addr) (c : Nat) (C : List (List Int)) (w : World) (hR : Kd.C (Kd.slice 5 (Kd.int .u8)) w A C.length C) :
    Calls Try.prog 40 #[.slice A C.length c] w fun e w' => e = .returned (.bool (bigB C)) ∧ w = w' := by
  by_cases h1 : 100 < C.length
  · have hb : bigB C = true := by simp [bigB, h1]
    rw [hb]
    go_enter Try.func40, Try.ntmps40
    go_wp2
    go_ret
    exact ⟨rfl, rfl⟩
  have KR := Aside0.mk hR
  clear hR
  go_enter Try.func40, Try.ntmps40
  go_wp2
  go_loop [3] (fun i => ∃ k : Nat, k ≤ C.length ∧ i = .int .i64 k ∧ Aside0 (∀ j (h : j < C.length), j < k → C[j].length ≤ 3000)) (fun i => C.length - (intOf i).toNat)
  case atStart => exact ⟨0, by omega, rfl, ⟨fun j _ h => by omega⟩⟩
  case round =>
    obtain ⟨k, hk, rfl, HN⟩ := hrel
    by_cases hlt : k < C.length
    · obtain ⟨ad, A0, c0, rfl, hc, -, -⟩ := at_cell KR.out k hlt
      obtain ⟨n, hn⟩ : ∃ n, C[k].length = n := ⟨_, rfl⟩
      rw [hn] at hc
      have KN := Aside0.mk hn
      clear hn
      by_cases hbig : 3000 < n
      · have hb : bigB C = true := by
          simp only [bigB, Bool.or_eq_true, List.any_eq_true, decide_eq_true_eq]
          exact Or.inr ⟨C[k], List.getElem_mem hlt, by rw [KN.out]; exact hbig⟩
        go_wp2
        go_ret
        exact ⟨rfl, rfl⟩
      · go_wp2
        go_round
        case rel =>
          refine ⟨k + 1, by omega, by go_num, ⟨fun j hj hjk => ?_⟩⟩
          by_cases hjk2 : j < k
          · exact HN.out j hj hjk2
          · obtain rfl : j = k := by omega
            rw [KN.out]
            omega
        case measure => simp [intOf]; omega
    · have hb : bigB C = false := by
        simp only [bigB, Bool.or_eq_false_iff, decide_eq_false_iff_not, List.any_eq_false, decide_eq_true_eq]
        refine ⟨h1, fun x hx => ?_⟩
        obtain ⟨i, hi, rfl⟩ := List.getElem_of_mem hx
        have := HN.out i hi (by omega)
        omega
      go_wp2
      go_ret
      exact ⟨rfl, rfl⟩
theorem cells_C {w : World} {g : Nat} {inner : Array Value} {l : List Int} {fr : Nat × Nat} (h : w.heap[g]? = some (.cells inner 5 fr)) (hi : inner.toList = nums .u8 l) (hl : l.length ≤ 140737488351232) : Kd.C (Kd.int .u8) w (some ⟨g, 0, none⟩) l.length l := by
  refine Kd.C_of_reads (d := (0 : Int)) (h1 := fun _ => rfl) ⟨rfl, by omega, fun _ => ⟨_, rfl, fun j hj => ?_⟩⟩
  rw [add_plain, cell_of_row _ _ _ _ _ _ h, ← Array.getElem?_toList, hi]
  simp [nums, hj]
/-- Adding a literal of bytes. -/
theorem add_lit (w0 : World) (base g b : Nat) (xs : List (List Int)) (inner : Array Value) (l : List Int) (w : World) (HP : PS w0 base g b (fun k => k ≠ g ∧ k ≠ b) w xs) (hi : inner.toList = nums .u8 l) (hl : ∀ x ∈ l, 0 ≤ x ∧ x < 256) (hn : l.length ≤ 1000000) (hx : xs.length < 16384) (hs : (xs.map List.length).sum + l.length ≤ 8388608) :
    Calls Try.prog 43 #[.pointer (some ⟨g, 0, none⟩), .slice (some ⟨w.heap.size, 0, none⟩) l.length l.length] (w.alloc (.cells inner 5)) fun e w' => ∃ (p : Nat) (fresh : Bool) (ys : List (List Int)), e = .returned (.tuple #[.int .i64 p, .bool fresh, .int .i64 0]) ∧ ys[p]? = some l ∧ ((l ∈ xs ∧ fresh = false ∧ ys = xs) ∨ (l ∉ xs ∧ fresh = true ∧ ys = xs ++ [l])) ∧ PS w0 base g b (fun k => k ≠ g ∧ k ≠ b) w' ys := by
  have hlt := PS_lt HP
  have hcell : (w.alloc (.cells inner 5)).heap[w.heap.size]? = some (.cells inner 5 (0, 0)) := heap_alloc_new _ _
  have hsz : (w.alloc (.cells inner 5)).heap.size = w.heap.size + 1 := by simp
  refine (add_law w0 base g b xs (some ⟨w.heap.size, 0, none⟩) l.length l _ _ (PS_lit HP _) (fun k hk => hk.1) (fun k hk => ⟨⟨by omega, by omega⟩, by omega⟩) (fun w' _ hf => ?_) (Nat.le_refl _) hl (by omega) hx hs).mono ?_
  · exact cells_C ((hf w.heap.size (fun h => h.2 rfl) (by omega) (by omega) (by omega)).trans hcell) hi (by omega)
  · rintro e w' ⟨p, fresh, ys, he, hp, hc, hP, -⟩
    exact ⟨p, fresh, ys, he, hp, hc, PS_wide hP (fun k hk => hk.1)⟩
/-- Adding no bytes. -/
theorem add_none (w0 : World) (base g b : Nat) (xs : List (List Int)) (w : World) (HP : PS w0 base g b (fun k => k ≠ g ∧ k ≠ b) w xs) (hx : xs.length < 16384) (hs : (xs.map List.length).sum ≤ 8388608) :
    Calls Try.prog 43 #[.pointer (some ⟨g, 0, none⟩), .slice none 0 0] w fun e w' => ∃ (p : Nat) (fresh : Bool) (ys : List (List Int)), e = .returned (.tuple #[.int .i64 p, .bool fresh, .int .i64 0]) ∧ ys[p]? = some [] ∧ (([] ∈ xs ∧ fresh = false ∧ ys = xs) ∨ ([] ∉ xs ∧ fresh = true ∧ ys = xs ++ [[]])) ∧ PS w0 base g b (fun k => k ≠ g ∧ k ≠ b) w' ys := by
  have hlt := PS_lt HP
  refine (add_law w0 base g b xs none 0 [] _ _ HP (fun k hk => hk) (fun k hk => ⟨by omega, by omega⟩) (fun w' _ hf => Kd.C_nil _ _) (Nat.le_refl _) (by simp) (by simp) hx (by simpa using hs)).mono ?_
  rintro e w' ⟨p, fresh, ys, he, hp, hc, hP, -⟩
  exact ⟨p, fresh, ys, he, hp, hc, hP⟩
set_option maxRecDepth 100000 in
theorem live_any (w : World) : Calls Try.prog 41 #[] w fun e w' => e = .returned (.bool true) ∧ Below w.heap.size w w' := by
  have tokA : True := trivial
  have tokB : True := trivial
  have tokC : True := trivial
  obtain ⟨g, hg⟩ : ∃ g, g = w.heap.size + 1 := ⟨_, rfl⟩
  obtain ⟨b, hb⟩ : ∃ b, b = w.heap.size := ⟨_, rfl⟩
  have hnew : Calls Try.prog 42 #[] w fun e w' => e = .returned (.pointer (some ⟨g, 0, none⟩)) ∧ PS w w.heap.size g b (fun k => k ≠ g ∧ k ≠ b) w' [] := by
    rw [hg, hb]
    exact new_any w
  have KNew := Aside0.mk hnew
  clear hg hb hnew
  go_enter Try.func41, Try.ntmps41
  go_wp2_with (first | (go_at_call 42; refine KNew.out.mono ?_; rintro e w1 ⟨rfl, H1⟩; have K1 := Aside0.mk H1; clear H1) | (go_at_call 43; first | (have _t := tokA; refine (add_lit w w.heap.size g b [] _ [1] _ K1.out rfl (by simp) (by simp) (by simp) (by simp)).mono ?_; rintro e w2 ⟨p, fresh, ys, rfl, hp, hc, HP⟩; have hc := hc.resolve_left (by rintro ⟨h, -⟩; cases h); obtain ⟨-, rfl, rfl⟩ := hc; have hp0 : p = 0 := (by have := (List.getElem?_eq_some_iff.1 hp).1; simp at this; exact this); subst hp0; have K2 := Aside0.mk HP; clear HP hp tokA) | (have _t := tokB; refine (add_none w w.heap.size g b [[1]] _ K2.out (by simp) (by simp)).mono ?_; rintro e w3 ⟨p, fresh, ys, rfl, hp, hc, HP⟩; have hc := hc.resolve_left (by rintro ⟨h, -⟩; simp at h); obtain ⟨-, rfl, rfl⟩ := hc; have hp0 : p = 1 := (by rcases p with _ | _ | p; simp at hp; rfl; simp at hp); subst hp0; have K3 := Aside0.mk HP; clear HP hp tokB) | (have _t := tokC; refine (add_lit w w.heap.size g b [[1], []] _ [1] _ K3.out rfl (by simp) (by simp) (by simp) (by simp)).mono ?_; rintro e w4 ⟨p, fresh, ys, rfl, hp, hc, HP⟩; have hc := hc.resolve_right (by rintro ⟨h, -⟩; simp at h); obtain ⟨-, rfl, rfl⟩ := hc; have hp0 : p = 0 := (by rcases p with _ | _ | p; rfl; simp at hp; simp at hp); subst hp0; have K4 := Aside0.mk HP; clear HP hp tokC)))
  go_ret
  exact ⟨rfl, (PS_lt K4.out).2.2.1⟩
end Go.Proofs.Ytgadcnlcldjhpaa.Pool
