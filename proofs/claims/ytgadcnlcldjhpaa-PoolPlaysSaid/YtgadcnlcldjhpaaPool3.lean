/- Contents, once: what a pool's map keeps over other work; adding what is there. -/
import Derived.Test.YtgadcnlcldjhpaaPool2
set_option linter.unusedVariables false
set_option linter.unusedSimpArgs false
namespace Go.Proofs.Ytgadcnlcldjhpaa.Pool
open Go.RowKit Go.Maps Go.WideElems Go.ChangeShapes Go.Proofs.YtgadcnlcldjhpaaW.PrintWords Go.Proofs.YtgadcnlcldjhpaaW.PrintLast Go.Proofs.YtgadcnlcldjhpaaW.PrintMore
theorem ints_keep {w w' : World} {base e : Nat} {q : IntKind} {v : Value} {zs : List Int} (h : w.ownsInts base e q v zs) (hs : ∀ (k : Nat) (cells : Array Value), w.heap[k]? = some (Obj.cells cells e (0, 0)) → w'.heap[k]? = w.heap[k]?) : w'.ownsInts base e q v zs := by
  obtain ⟨⟨h1, h2⟩, h3⟩ := h
  refine ⟨⟨h1, ?_⟩, h3⟩
  rcases h2 with h2 | ⟨g, cap, cur, hv, hb, hh, h4⟩
  · exact Or.inl h2
  · exact Or.inr ⟨g, cap, cur, hv, hb, (hs g cur hh).trans hh, h4⟩
theorem groups_keep {P : Program} {k : TypeId} {w w' : World} {base e : Nat} {q : IntKind} {b n : Nat} {D : DataW Unit} (h : w.ownsGroups P k base e q b n D) (hb' : w'.heap[b]? = w.heap[b]?) (hs : ∀ (j : Nat) (cells : Array Value), w.heap[j]? = some (Obj.cells cells e (0, 0)) → w'.heap[j]? = w.heap[j]?) : w'.ownsGroups P k base e q b n D := by
  obtain ⟨es, clock, hb, F, hs1, rfl, hbb, hlen, hap⟩ := h
  have hst : ∀ x ∈ es.toList, ∀ z, rowElem (H := Unit) w base e q x.val = some z → rowElem w' base e q x.val = some z := fun x hx z hz => by
    obtain ⟨zs, ho, rfl⟩ := rowElem_inv hz
    exact rowElem_mk (ints_keep ho hs)
  obtain ⟨F1, hmap, _⟩ := F.stay hst
  refine ⟨es, clock, hb'.trans hb, F1, hs1, by rw [hmap], hbb, fun x hx zs ho => ?_, hap⟩
  obtain ⟨y, hy⟩ := F.reads x hx
  obtain ⟨z, hz, _⟩ := rd_val hy
  obtain ⟨zs0, ho0, _⟩ := rowElem_inv hz
  rw [ho.unique (ints_keep ho0 hs)]
  exact hlen x hx zs0 ho0
theorem apart_eq {α : Type} {f : α → Value} : ∀ (l : List α), l.Pairwise (fun x y => f x ≠ f y) → ∀ {x y : α}, x ∈ l → y ∈ l → f x = f y → x = y
  | [], _, x, y, hx, _, _ => by cases hx
  | a :: l, h, x, y, hx, hy, he => by
    obtain ⟨h1, h2⟩ := List.pairwise_cons.1 h
    rcases List.mem_cons.1 hx with ex | hx2
    · rcases List.mem_cons.1 hy with ey | hy2
      · rw [ex, ey]
      · subst ex
        exact absurd he (h1 y hy2)
    · rcases List.mem_cons.1 hy with ey | hy2
      · subst ey
        exact absurd he.symm (h1 x hx2)
      · exact apart_eq l h2 hx2 hy2 he
/-- A look-up answers alike in two worlds with the same map. -/
theorem look_two {P : Program} {k t E : TypeId} {w w' : World} {base e : Nat} {q : IntKind} {b n : Nat} {D : DataW Unit} {key v : Value} {kl : Lit} (h : w.ownsGroups P k base e q b n D) (hb' : w'.heap[b]? = w.heap[b]?) (K : Keyed P k) (ht : P.underlying t = some (.map k E))
    (hz : ∀ w, (zeroValue E).run P w = .ok (.slice none 0 0) w) (hkey : keyOf P k key = some kl) (hrun : (Instr.lookup t (.map (some b)) key false).run P w = .ok v w) : (Instr.lookup t (.map (some b)) key false).run P w' = .ok v w' := by
  obtain ⟨es, clock, hb, F, -, -, -⟩ := h
  have F0 : Fit P k (fun _ => some ((.nil : DataW Unit), ([] : List MemPlace))) es clock := ⟨F.size, F.stamped, fun x hx => by
    obtain ⟨y, hy⟩ := F.reads x hx
    exact ⟨(y.1, .nil), by simp [WideElems.rd, rd_key hy]⟩⟩
  rcases Maps.fit_look false K ht (hz w) hb F0 hkey with ⟨h1, h2, -⟩ | ⟨e0, y, hm0, h3, h1, -⟩
  · rcases Maps.fit_look false K ht (hz w') (hb'.trans hb) F0 hkey with ⟨h1', -, -⟩ | ⟨e0', y', hm0', h3', h1', -⟩
    · rw [h1] at hrun
      rw [h1']
      have : v = .slice none 0 0 := by simpa using hrun.symm
      rw [this]
      rfl
    · exact absurd h3' (h2 e0' hm0')
  · rcases Maps.fit_look false K ht (hz w') (hb'.trans hb) F0 hkey with ⟨-, h2', -⟩ | ⟨e0', y', hm0', h3', h1', -⟩
    · exact absurd h3 (h2' e0 hm0)
    · have hn : es.toList.Pairwise (fun x y => x.key ≠ y.key) := ((MapKept.stamped_iff es clock).1 F.stamped).2.2
      have : e0 = e0' := apart_eq _ hn hm0 hm0' (h3.trans h3'.symm)
      subst this
      rw [h1] at hrun
      rw [h1']
      have : v = e0.val := by simpa using hrun.symm
      rw [this]
      rfl
/-- What the groups shun, what is looked up shuns. -/
theorem look_shuns {P : Program} {k t E : TypeId} {w : World} {base e : Nat} {q : IntKind} {b n : Nat} {D : DataW Unit} {key v : Value} {kl : Lit} (h : w.ownsGroups P k base e q b n D) (K : Keyed P k) (ht : P.underlying t = some (.map k E))
    (hz : ∀ w, (zeroValue E).run P w = .ok (.slice none 0 0) w) (hkey : keyOf P k key = some kl) (hrun : (Instr.lookup t (.map (some b)) key false).run P w = .ok v w) {No : Nat → Prop} (hs : w.Shuns b No) : ∀ g, v.ownBlock = some g → ¬ No g := by
  obtain ⟨es, clock, hb, F, -, -, -⟩ := h
  rcases Maps.fit_look false K ht (hz w) hb F hkey with ⟨h1, -, -⟩ | ⟨e0, y, hm0, -, h1, -⟩
  · rw [h1] at hrun
    have : v = .slice none 0 0 := by simpa using hrun.symm
    rw [this]
    intro g hg
    cases hg
  · rw [h1] at hrun
    have : v = e0.val := by simpa using hrun.symm
    rw [this]
    exact fun g hg => hs es clock hb e0 hm0 g hg
theorem store_shuns {P : Program} {k t E : TypeId} {w w2 : World} {b : Nat} {es : Array MapEntry} {clock : Nat} {key v' : Value} {kl : Lit} {R : Value → Option (DataW Unit × List MemPlace)} (K : Keyed P k) (ht : P.underlying t = some (.map k E)) (hb1 : w.heap[b]? = some (.map es clock)) (F : Fit P k R es clock) (hroom : es.size < maxLen) (hkey : keyOf P k key = some kl)
    (hrun : (Instr.mapUpdate t (.map (some b)) key v').run P w = .ok () w2) {No : Nat → Prop} (hs : w.Shuns b No) (hno : ∀ g, v'.ownBlock = some g → ¬ No g) : w2.Shuns b No := by
  obtain ⟨es', clock', hb2, hwho⟩ := stored_who K ht hb1 F hroom hkey hrun
  intro es2 clock2 hb2' y hy g hyg
  rw [hb2] at hb2'
  simp only [Option.some.injEq, Obj.map.injEq] at hb2'
  obtain ⟨rfl, rfl⟩ := hb2'
  rcases hwho y hy with ⟨hy0, _⟩ | ⟨_, hval⟩
  · exact hs es clock hb1 y hy0 g hyg
  · exact hno g (hval ▸ hyg)
theorem PS_wide {w0 : World} {base g b : Nat} {ok ok' : Nat → Prop} {w : World} {xs : List (List Int)} (HP : PS w0 base g b ok w xs) (h : ∀ k, ok k → ok' k) : PS w0 base g b ok' w xs := by
  obtain ⟨A, c, D, HG, HS, HM, HD, HB, hg, hb, hgb, hnd, hxs, hsh⟩ := HP
  exact ⟨A, c, D, HG, Kd.S_mono HS h, HM, HD, HB, hg, hb, hgb, hnd, hxs, fun es clock he x hx q hq hn => hsh es clock he x hx q hq (fun h2 => hn (h q h2))⟩
theorem PS_drewN {w0 : World} {base g b : Nat} {ok : Nat → Prop} {w : World} {xs : List (List Int)} (HP : PS w0 base g b ok w xs) (q : Nat) : PS w0 base g b ok (w.drewN q) xs := by
  obtain ⟨A, c, D, HG, HS, HM, HD, HB, hg, hb, hgb, hnd, hxs, hsh⟩ := HP
  exact ⟨A, c, D, HG, Kd.S_drewN HS q, HM, HD, pw_below_drewN HB q, hg, hb, hgb, hnd, hxs, hsh⟩
theorem PS_cells {w0 : World} {base g b : Nat} {ok : Nat → Prop} {w : World} {xs : List (List Int)} (HP : PS w0 base g b ok w xs) : ∃ A c, w.cell? ⟨g, 0, none⟩ = some (.slice A xs.length c) ∧ w.cell? ⟨g, 1, none⟩ = some (.map (some b)) ∧ w.cell? ⟨g, 2, none⟩ = some (.int .i64 ((xs.map List.length).sum : Nat)) := by
  obtain ⟨A, c, D, HG, HS, HM, HD, HB, hg, hb, hgb, hnd, hxs, hsh⟩ := HP
  exact ⟨A, c, (cell_of_row _ _ _ _ _ _ HG).trans rfl, (cell_of_row _ _ _ _ _ _ HG).trans rfl, (cell_of_row _ _ _ _ _ _ HG).trans rfl⟩
set_option maxRecDepth 100000 in
/-- Adding what is there. -/
theorem add_old (w0 : World) (base g b : Nat) (xs : List (List Int)) (A : Option Addr) (c : Nat) (l : List Int) (ok : Nat → Prop) (w : World) (HP : PS w0 base g b ok w xs) (hR : Kd.C (Kd.int .u8) w A l.length l) (hlc : l.length ≤ c) (hl : ∀ x ∈ l, 0 ≤ x ∧ x < 256) (hn : l.length ≤ 140737488351232) (hx : xs.length ≤ 16384) (hm : l ∈ xs) :
    Calls Try.prog 43 #[.pointer (some ⟨g, 0, none⟩), .slice A l.length c] w fun e w' => ∃ p : Nat, xs[p]? = some l ∧ e = .returned (.tuple #[.int .i64 p, .bool false, .int .i64 0]) ∧ ∃ k, w' = w.drewN k := by
  have hf := find_any w0 base g b xs A c l ok w HP hR hlc hl hn hx
  have KH := Aside0.mk hf
  clear hf HP hR hl
  go_enter Try.func43, Try.ntmps43
  go_wp2_with (go_at_call 50; refine KH.out.mono ?_; rintro e w1 ⟨h, k1, rfl⟩; have h := h.resolve_right (fun h => h.1 hm); obtain ⟨p, hp, rfl⟩ := h)
  go_ret3
  exact ⟨p, hp, rfl, _, rfl⟩
set_option maxRecDepth 100000 in
/-- Too long. -/
theorem add_long (w0 : World) (base g b : Nat) (xs : List (List Int)) (A : Option Addr) (c : Nat) (l : List Int) (ok : Nat → Prop) (w : World) (HP : PS w0 base g b ok w xs) (hR : Kd.C (Kd.int .u8) w A l.length l) (hlc : l.length ≤ c) (hl : ∀ x ∈ l, 0 ≤ x ∧ x < 256) (hn : l.length ≤ 140737488351232) (hx : xs.length ≤ 16384) (hm : l ∉ xs) (ht : (xs.map List.length).sum ≤ 8388608) (hs : 8388608 < (xs.map List.length).sum + l.length) :
    Calls Try.prog 43 #[.pointer (some ⟨g, 0, none⟩), .slice A l.length c] w fun e w' => e = .returned (.tuple #[.int .i64 0, .bool false, .int .i64 2]) ∧ ∃ k, w' = w.drewN k := by
  have hf := find_any w0 base g b xs A c l ok w HP hR hlc hl hn hx
  obtain ⟨A1, c1, h0, h1, h2⟩ := PS_cells HP
  obtain ⟨t, htt⟩ : ∃ t, t = (xs.map List.length).sum := ⟨_, rfl⟩
  rw [← htt] at h2 ht hs
  have KH := Aside0.mk hf
  clear hf HP hR hl htt
  go_enter Try.func43, Try.ntmps43
  go_wp2_with (go_at_call 50; refine KH.out.mono ?_; rintro e w1 ⟨h, k1, rfl⟩; have h := h.resolve_left (by rintro ⟨p, hp, -⟩; exact hm (List.mem_of_getElem? hp)); obtain ⟨-, rfl⟩ := h)
  go_ret3
  exact ⟨rfl, _, rfl⟩
set_option maxRecDepth 100000 in
/-- As many as may be. -/
theorem add_many (w0 : World) (base g b : Nat) (xs : List (List Int)) (A : Option Addr) (c : Nat) (l : List Int) (ok : Nat → Prop) (w : World) (HP : PS w0 base g b ok w xs) (hR : Kd.C (Kd.int .u8) w A l.length l) (hlc : l.length ≤ c) (hl : ∀ x ∈ l, 0 ≤ x ∧ x < 256) (hn : l.length ≤ 140737488351232) (hx : xs.length = 16384) (hm : l ∉ xs) (hs : (xs.map List.length).sum + l.length ≤ 8388608) :
    Calls Try.prog 43 #[.pointer (some ⟨g, 0, none⟩), .slice A l.length c] w fun e w' => e = .returned (.tuple #[.int .i64 0, .bool false, .int .i64 3]) ∧ ∃ k, w' = w.drewN k := by
  have hf := find_any w0 base g b xs A c l ok w HP hR hlc hl hn (by omega)
  obtain ⟨A1, c1, h0, h1, h2⟩ := PS_cells HP
  obtain ⟨t, htt⟩ : ∃ t, t = (xs.map List.length).sum := ⟨_, rfl⟩
  rw [← htt] at h2 hs
  have KH := Aside0.mk hf
  clear hf HP hR hl htt
  go_enter Try.func43, Try.ntmps43
  go_wp2_with (go_at_call 50; refine KH.out.mono ?_; rintro e w1 ⟨h, k1, rfl⟩; have h := h.resolve_left (by rintro ⟨p, hp, -⟩; exact hm (List.mem_of_getElem? hp)); obtain ⟨-, rfl⟩ := h)
  go_ret3
  exact ⟨rfl, _, rfl⟩
end Go.Proofs.Ytgadcnlcldjhpaa.Pool
