/- Contents, once: a pool beside other work; what is told of it; the page's example. -/
import Derived.Test.YtgadcnlcldjhpaaPool4
set_option linter.unusedVariables false
set_option linter.unusedSimpArgs false
namespace Go.Proofs.Ytgadcnlcldjhpaa.Pool
open Go.RowKit Go.Maps Go.WideElems Go.ChangeShapes Go.Proofs.YtgadcnlcldjhpaaW.PrintWords Go.Proofs.YtgadcnlcldjhpaaW.PrintLast Go.Proofs.YtgadcnlcldjhpaaW.PrintMore
theorem ints_frame {w w' : World} {base e : Nat} {q : IntKind} {v : Value} {zs : List Int} (h : w.ownsInts base e q v zs) (hs : ∀ k, v.ownBlock = some k → w'.heap[k]? = w.heap[k]?) : w'.ownsInts base e q v zs := by
  obtain ⟨⟨h1, h2⟩, h3⟩ := h
  refine ⟨⟨h1, ?_⟩, h3⟩
  rcases h2 with h2 | ⟨g, cap, cur, hv, hb, hh, h4⟩
  · exact Or.inl h2
  · exact Or.inr ⟨g, cap, cur, hv, hb, (hs g (by rw [hv]; rfl)).trans hh, h4⟩
theorem groups_frame {P : Program} {k : TypeId} {w w' : World} {base e : Nat} {q : IntKind} {b n : Nat} {D : DataW Unit} (h : w.ownsGroups P k base e q b n D) (hb' : w'.heap[b]? = w.heap[b]?) (hs : ∀ es clock, w.heap[b]? = some (Obj.map es clock) → ∀ x ∈ es.toList, ∀ k, x.val.ownBlock = some k → w'.heap[k]? = w.heap[k]?) : w'.ownsGroups P k base e q b n D := by
  obtain ⟨es, clock, hb, F, hs1, rfl, hbb, hlen, hap⟩ := h
  have hst : ∀ x ∈ es.toList, ∀ z, rowElem (H := Unit) w base e q x.val = some z → rowElem w' base e q x.val = some z := fun x hx z hz => by
    obtain ⟨zs, ho, rfl⟩ := rowElem_inv hz
    exact rowElem_mk (ints_frame ho (hs es clock hb x hx))
  obtain ⟨F1, hmap, _⟩ := F.stay hst
  refine ⟨es, clock, hb'.trans hb, F1, hs1, by rw [hmap], hbb, fun x hx zs ho => ?_, hap⟩
  obtain ⟨y, hy⟩ := F.reads x hx
  obtain ⟨z, hz, _⟩ := rd_val hy
  obtain ⟨zs0, ho0, _⟩ := rowElem_inv hz
  rw [ho.unique (ints_frame ho0 (hs es clock hb x hx))]
  exact hlen x hx zs0 ho0
section
variable {w0 w w1 : World} {base g b : Nat} {ok ok' : Nat → Prop} {xs : List (List Int)}
theorem PS_lt (HP : PS w0 base g b ok w xs) : g < w.heap.size ∧ b < w.heap.size ∧ Below base w0 w ∧ base ≤ w.heap.size := by
  obtain ⟨A, c, D, HG, HS, HM, HD, HB, hg, hb, hgb, hnd, hxs, hsh⟩ := HP
  have h1 := (Array.getElem?_eq_some_iff.1 HG).1
  obtain ⟨es, clock, h, -⟩ := HM
  exact ⟨h1, (Array.getElem?_eq_some_iff.1 h).1, HB, by omega⟩
theorem PS_facts (HP : PS w0 base g b ok w xs) : g ≠ b ∧ base ≤ g ∧ base ≤ b ∧ xs.Nodup ∧ ∀ x ∈ xs, ∀ y ∈ x, 0 ≤ y ∧ y < 256 := by
  obtain ⟨A, c, D, HG, HS, HM, HD, HB, hg, hb, hgb, hnd, hxs, hsh⟩ := HP
  exact ⟨hgb, hg, hb, hnd, hxs⟩
/-- A pool over work that leaves its blocks alone. -/
theorem PS_frame (HP : PS w0 base g b ok w xs) (hB : Below base w0 w1) (hs : ∀ k, k < w.heap.size → ok k ∨ k = g ∨ k = b → w1.heap[k]? = w.heap[k]?) : PS w0 base g b ok w1 xs := by
  have hlt := PS_lt HP
  obtain ⟨A, c, D, HG, HS, HM, HD, HB, hg, hb, hgb, hnd, hxs, hsh⟩ := HP
  have hbb := hs b hlt.2.1 (Or.inr (Or.inr rfl))
  refine ⟨A, c, D, (hs g hlt.1 (Or.inr (Or.inl rfl))).trans HG, Kd.S_step HS (fun k hk hl => hs k hl (Or.inl hk)), groups_frame HM hbb (fun es clock he x hx k hk => ?_), HD, hB, hg, hb, hgb, hnd, hxs, fun es clock he => hsh es clock (hbb.symm.trans he)⟩
  have hok : ok k := Classical.not_not.1 (hsh es clock he x hx k hk)
  refine hs k ?_ (Or.inl hok)
  obtain ⟨es', clock', he', F, -⟩ := HM
  rw [he'] at he
  simp only [Option.some.injEq, Obj.map.injEq] at he
  obtain ⟨rfl, rfl⟩ := he
  obtain ⟨y, hy⟩ := F.reads x hx
  obtain ⟨z, hz, _⟩ := rd_val hy
  obtain ⟨zs, hoi, _⟩ := rowElem_inv hz
  exact (hoi.1.lt k hk).2
theorem PS_below (HP : PS w0 base g b ok w xs) (hb : Below w.heap.size w w1) : PS w0 base g b ok w1 xs :=
  PS_frame HP (below_then (PS_lt HP).2.2.1 (PS_lt HP).2.2.2 hb) (fun k hk _ => hb.block k hk)
/-- Its blocks lie in the world. -/
theorem PS_narrow (HP : PS w0 base g b ok w xs) : PS w0 base g b (fun k => ok k ∧ k < w.heap.size) w xs := by
  obtain ⟨A, c, D, HG, HS, HM, HD, HB, hg, hb, hgb, hnd, hxs, hsh⟩ := HP
  refine ⟨A, c, D, HG, Kd.S_mono (Kd.S_bound HS) (fun k hk => ⟨hk.1, hk.2.2.1⟩), HM, HD, HB, hg, hb, hgb, hnd, hxs, fun es clock he x hx k hk hn => ?_⟩
  have hok : ok k := Classical.not_not.1 (hsh es clock he x hx k hk)
  refine hn ⟨hok, ?_⟩
  obtain ⟨es', clock', he', F, -⟩ := HM
  rw [he'] at he
  simp only [Option.some.injEq, Obj.map.injEq] at he
  obtain ⟨rfl, rfl⟩ := he
  obtain ⟨y, hy⟩ := F.reads x hx
  obtain ⟨z, hz, _⟩ := rd_val hy
  obtain ⟨zs, hoi, _⟩ := rowElem_inv hz
  exact (hoi.1.lt k hk).2
end
/-- Adding, where there is room. -/
theorem add_law (w0 : World) (base g b : Nat) (xs : List (List Int)) (A : Option Addr) (c : Nat) (l : List Int) (ok : Nat → Prop) (w : World) (HP : PS w0 base g b ok w xs) (hok : ∀ k, ok k → k ≠ g ∧ k ≠ b) (hfr : ∀ k, w.heap.size ≤ k → ok k) (hT : ∀ w' : World, Below base w0 w' → (∀ k, ¬ ok k → k ≠ g → k ≠ b → k < w.heap.size → w'.heap[k]? = w.heap[k]?) → Kd.C (Kd.int .u8) w' A l.length l) (hlc : l.length ≤ c) (hl : ∀ x ∈ l, 0 ≤ x ∧ x < 256) (hn : l.length ≤ 140737488351232) (hx : xs.length < 16384) (hs : (xs.map List.length).sum + l.length ≤ 8388608) :
    Calls Try.prog 43 #[.pointer (some ⟨g, 0, none⟩), .slice A l.length c] w fun e w' => ∃ (p : Nat) (fresh : Bool) (ys : List (List Int)), e = .returned (.tuple #[.int .i64 p, .bool fresh, .int .i64 0]) ∧ ys[p]? = some l ∧ ((l ∈ xs ∧ fresh = false ∧ ys = xs) ∨ (l ∉ xs ∧ fresh = true ∧ ys = xs ++ [l])) ∧ PS w0 base g b ok w' ys ∧ w.heap.size ≤ w'.heap.size ∧ ∀ k, ¬ ok k → k ≠ g → k ≠ b → k < w.heap.size → w'.heap[k]? = w.heap[k]? := by
  by_cases hm : l ∈ xs
  · refine (add_old w0 base g b xs A c l ok w HP (hT w (PS_lt HP).2.2.1 (fun _ _ _ _ _ => rfl)) hlc hl hn (by omega) hm).mono ?_
    rintro e w' ⟨p, hp, rfl, k, rfl⟩
    exact ⟨p, false, xs, rfl, hp, Or.inl ⟨hm, rfl, rfl⟩, PS_drewN HP k, Nat.le_refl _, fun _ _ _ _ _ => rfl⟩
  · refine (add_new w0 base g b xs A c l ok w HP hok hfr hT hlc hl hn hx hm hs).mono ?_
    rintro e w' ⟨rfl, h1, h2, h3⟩
    exact ⟨xs.length, true, xs ++ [l], rfl, by simp, Or.inr ⟨hm, rfl, rfl⟩, h1, h2, h3⟩
/-- The i-th content. -/
theorem at_ok (w0 : World) (base g b : Nat) (xs : List (List Int)) (ok : Nat → Prop) (w : World) (HP : PS w0 base g b ok w xs) (hx : xs.length ≤ 16384) (p : Nat) (x : List Int) (hp : xs[p]? = some x) (hxl : x.length ≤ 140737488351232) :
    Calls Try.prog 45 #[.pointer (some ⟨g, 0, none⟩), .int .i64 p] w fun e w' => e = .returned (.tuple #[.slice (some ⟨w.heap.size, 0, none⟩) x.length x.length, .int .i64 0]) ∧ w'.heap[w.heap.size]? = some (.cells (nums .u8 x).toArray 5 (0, 0)) ∧ Below w.heap.size w w' := by
  obtain ⟨A, c, D, HG, HS, HM, HD, HB, hg, hb, hgb, hnd, hxs, hsh⟩ := HP
  have hpl : p < xs.length := (List.getElem?_eq_some_iff.1 hp).1
  obtain ⟨r, cap, hv, -, -, -⟩ := Kd.S_form HS (by omega)
  injection hv with hA _ hc
  subst hA
  subst hc
  have hc0 : w.cell? ⟨g, 0, none⟩ = some (.slice (some ⟨r, 0, none⟩) xs.length c) := (cell_of_row _ _ _ _ _ _ HG).trans rfl
  obtain ⟨cs, -, hM, hcc⟩ := Kd.S_get HS [] (p : Int) (by omega) (by omega)
  rw [Int.toNat_natCast] at hM hcc
  rw [show xs.getD p [] = x by rw [List.getD_eq_getElem?_getD, hp]; rfl] at hM
  obtain ⟨v, rfl, hRx⟩ := hM
  obtain ⟨A2, c2, rfl, hle2, hCx⟩ := Kd.R_reads hRx
  have hcx : w.cell? ⟨r, p, none⟩ = some (.slice A2 x.length c2) := by
    have h := hcc 0 _ rfl
    rw [add_plain] at h
    simpa [dB, Kd.slice] using h
  have KCx := Aside0.mk hCx
  clear HG HS HM HD HB hCx hcc hRx hxs hsh hnd hp
  go_enter Try.func45, Try.ntmps45
  go_wp2_with (go_at_call 56; refine (told_any A2 c2 x _ KCx.out hxl).mono ?_; rintro e w' ⟨rfl, h1, h2⟩)
  go_ret2
  exact ⟨rfl, h1, h2⟩
theorem at_err (w0 : World) (base g b : Nat) (xs : List (List Int)) (ok : Nat → Prop) (w : World) (HP : PS w0 base g b ok w xs) (p : Int) (hp : p < 0 ∨ (0 ≤ p ∧ xs.length ≤ p)) :
    Calls Try.prog 45 #[.pointer (some ⟨g, 0, none⟩), .int .i64 p] w fun e w' => e = .returned (.tuple #[.slice none 0 0, .int .i64 9]) ∧ w = w' := by
  obtain ⟨A, c, hc0, -, -⟩ := PS_cells HP
  clear HP
  rcases hp with hp | ⟨hp0, hp⟩
  all_goals
    go_enter Try.func45, Try.ntmps45
    go_wp2
    go_ret2
    exact ⟨rfl, rfl⟩
theorem num_any (x : Int) (w : World) : Calls Try.prog 44 #[.int .i64 x] w fun e w' => e = .returned (.int .i64 x) ∧ w = w' := by
  go_enter Try.func44, Try.ntmps44
  go_wp2
  go_ret
  exact ⟨rfl, rfl⟩
end Go.Proofs.Ytgadcnlcldjhpaa.Pool
