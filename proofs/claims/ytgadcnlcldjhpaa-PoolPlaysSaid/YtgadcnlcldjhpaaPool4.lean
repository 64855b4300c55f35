/- Contents, once: adding what is new. -/
import Derived.Test.YtgadcnlcldjhpaaPool3
set_option linter.unusedVariables false
set_option linter.unusedSimpArgs false
namespace Go.Proofs.Ytgadcnlcldjhpaa.Pool
open Go.RowKit Go.Maps Go.WideElems Go.ChangeShapes Go.Proofs.YtgadcnlcldjhpaaW.PrintWords Go.Proofs.YtgadcnlcldjhpaaW.PrintLast Go.Proofs.YtgadcnlcldjhpaaW.PrintMore
theorem info25 : (Try.prog.info? 25).map (fun i => (i.zero, i.size, i.bytes)) = some (some (.slice none 0 0), 1, 24) := by kernel_rfl
theorem info3 : (Try.prog.info? 3).map (fun i => (i.zero, i.size, i.bytes)) = some (some (.int .i64 0), 1, 8) := by kernel_rfl
theorem own_new {w : World} {base g : Nat} {l : List Int} (h : w.heap[g]? = some (.cells (nums .u8 l).toArray 5 (0, 0))) (hb : base ≤ g) (hm : l.length ≤ 140737488351232) : Kd.R (Kd.int .u8) 5 w base (fun k => k = g) (.slice (some ⟨g, 0, none⟩) l.length l.length) l := by
  have hl : (nums .u8 l).length = l.length := by simp [nums]
  have hl2 : (encs (Value.int .u8) l).length = l.length := by simp [encs]
  refine Kd.R_of_own ⟨by simpa using hl2, Or.inr ⟨g, l.length, (nums .u8 l).toArray, rfl, hb, h, Nat.le_refl _, by simp only [maxLen]; omega, by simpa using hl, ?_⟩⟩ (fun k hk => by simpa [Value.ownBlock] using hk.symm)
  simp only [List.toList_toArray, Nat.mul_one]
  rw [← hl, List.take_length]
  rfl
/-- What stands behind told. -/
theorem told_keeps {w0 w1 w2 : World} {base g b t : Nat} {xs : List (List Int)} {l : List Int} {ok : Nat → Prop} {A1 : Option Addr} {c1 : Nat} (KG : w1.heap[g]? = some (.cells #[.slice A1 xs.length c1, .map (some b), .int .i64 t] 93 (0, 0))) (KS : Kd.S dB 25 w1 base ok (.slice A1 xs.length c1) xs) (KB : Below base w0 w1) (hfr : ∀ k, w1.heap.size ≤ k → ok k) (hg : base ≤ g) (hn : l.length ≤ 140737488351232)
    (ht : w2.heap[w1.heap.size]? = some (.cells (nums .u8 l).toArray 5 (0, 0))) (hb : Below w1.heap.size w1 w2) :
    w2.cell? ⟨g, 0, none⟩ = some (.slice A1 xs.length c1) ∧ g < w2.heap.size ∧ base ≤ w2.heap.size ∧ Aside0 (w2.heap[g]? = some (.cells #[.slice A1 xs.length c1, .map (some b), .int .i64 t] 93 (0, 0))) ∧ Aside0 (Kd.S dB 25 w2 base (fun k => ok k ∧ ¬ k = w1.heap.size) (.slice A1 xs.length c1) xs) ∧ Aside0 (Below base w0 w2) ∧
      Aside0 (dB.M w2 base (fun k => k = w1.heap.size) l [.slice (some ⟨w1.heap.size, 0, none⟩) l.length l.length]) ∧ Aside0 (∀ k, k = w1.heap.size → ok k ∧ some k ≠ (Value.slice A1 xs.length c1).ownBlock) ∧ Aside0 (∀ k, w2.heap.size ≤ k → ok k) := by
  have hgs : g < w1.heap.size := (Array.getElem?_eq_some_iff.1 KG).1
  have hts : w1.heap.size < w2.heap.size := (Array.getElem?_eq_some_iff.1 ht).1
  have hG2 : w2.heap[g]? = _ := (hb.block g hgs).trans KG
  refine ⟨(cell_of_row _ _ _ _ _ _ hG2).trans rfl, by omega, by omega, ⟨hG2⟩, ⟨?_⟩, ⟨below_then KB (by omega) hb⟩, ⟨?_⟩, ⟨?_⟩, ⟨fun k hk => hfr k (by omega)⟩⟩
  · exact Kd.S_mono (Kd.S_below (Kd.S_bound KS) hb) (fun k hk => ⟨hk.1, by have := hk.2.2.1; omega⟩)
  · exact ⟨_, rfl, own_new ht (by omega) hn⟩
  · rintro k rfl
    refine ⟨hfr _ (Nat.le_refl _), fun h => ?_⟩
    have := (Kd.S_lt KS) _ h.symm
    omega
theorem ints_of_R {w : World} {base : Nat} {v : Value} {zs : List Int} {n : Int} (h : Kd.R (Kd.int .i64) 3 w base (fun _ => True) v (zs ++ [n])) (hz : ∀ z ∈ zs, (Lit.int .i64 z).wf = true) (hn : (Lit.int .i64 n).wf = true) : w.ownsInts base 3 .i64 v (zs ++ [n]) := by
  refine ⟨by have h := Kd.own_of_R h; simpa [encs] using h, ?_⟩
  intro z h2
  rcases List.mem_append.1 h2 with h2 | h2
  · exact hz z h2
  · rw [List.mem_singleton.1 h2]
    exact hn
/-- What stands behind the append, the sum and the digest. -/
theorem five {w0 w w1 w2 w3 w5 : World} {base g b t c3 : Nat} {xs : List (List Int)} {l : List Int} {ok : Nat → Prop} {A1 A3 : Option Addr} {c1 : Nat} {D : DataW Unit} (KG : w.heap[g]? = some (.cells #[.slice A1 xs.length c1, .map (some b), .int .i64 t] 93 (0, 0))) (KS : Kd.S dB 25 w base ok (.slice A1 xs.length c1) xs)
    (KM : w.ownsGroups (H := Unit) Try.prog 31 (b + 1) 3 .i64 b xs.length D) (hok : ∀ k, ok k → k ≠ g ∧ k ≠ b) (hgb : g ≠ b) (hg : base ≤ g) (hh1 : w1.heap = w.heap) (hb2 : Below w1.heap.size w1 w2) (hg3 : w2.grownBy w3 (Value.slice A1 xs.length c1).ownBlock)
    (KG3 : w3.heap[g]? = some (.cells #[.slice A1 xs.length c1, .map (some b), .int .i64 t] 93 (0, 0))) (KS3 : Kd.S dB 25 w3 base ok (.slice A3 (xs.length + 1) c3) (xs ++ [l])) (KB3 : Below base w0 w3) (s : Int) (h5 : w5 = (w3.setCell ⟨g, 0, none⟩ (.slice A3 (xs.length + 1) c3)).setCell ⟨g, 2, none⟩ (.int .i64 s)) :
    Aside0 (∀ k, k ≠ g → some k ≠ (Value.slice A1 xs.length c1).ownBlock → k < w.heap.size → w5.heap[k]? = w.heap[k]?) ∧ Aside0 (w5.heap[g]? = some (.cells #[.slice A3 (xs.length + 1) c3, .map (some b), .int .i64 s] 93 (0, 0))) ∧ Aside0 (Kd.S dB 25 w5 base ok (.slice A3 (xs.length + 1) c3) (xs ++ [l])) ∧
      Aside0 (w5.ownsGroups (H := Unit) Try.prog 31 (b + 1) 3 .i64 b xs.length D) ∧ Aside0 (Below base w0 w5) ∧ b + 1 ≤ w5.heap.size ∧ w.heap.size ≤ w5.heap.size := by
  have hF : ∀ k, k ≠ g → some k ≠ (Value.slice A1 xs.length c1).ownBlock → k < w.heap.size → w5.heap[k]? = w.heap[k]? := fun k hk ho hlt => by
    have hlt1 : k < w1.heap.size := by rw [hh1]; exact hlt
    have hlt2 : k < w2.heap.size := Nat.lt_of_lt_of_le hlt1 hb2.size
    rw [h5, Below.heap_setCell _ _ _ _ hk, Below.heap_setCell _ _ _ _ hk, hg3.block k hlt2 ho, hb2.block k hlt1, hh1]
  have hB5 : Below base w0 w5 := by rw [h5]; exact (KB3.setCell hg _).setCell hg _
  have hbs : b < w.heap.size := by
    obtain ⟨es, clock, hb, -⟩ := KM
    exact (Array.getElem?_eq_some_iff.1 hb).1
  have hbo : some b ≠ (Value.slice A1 xs.length c1).ownBlock := Kd.S_away KS (fun k hk => (hok k hk).2)
  have hsz : w.heap.size ≤ w5.heap.size := by
    have h1 := hb2.size
    have h2 := hg3.size
    rw [hh1] at h1
    rw [h5]
    simp
    omega
  refine ⟨⟨hF⟩, ⟨?_⟩, ⟨?_⟩, ⟨groups_keep KM (hF b (Ne.symm hgb) hbo hbs) (fun j cells hj => hF j (fun h => ?_) (Kd.S_ne KS hj (by decide)) (Array.getElem?_eq_some_iff.1 hj).1)⟩, ⟨hB5⟩, by omega, hsz⟩
  · rw [h5]
    exact blk_set (blk_set KG3 0 _) 2 _
  · rw [h5]
    exact Kd.S_far (Kd.S_far KS3 (p := ⟨g, 0, none⟩) (fun k hk => (hok k hk).1) _) (p := ⟨g, 2, none⟩) (fun k hk => (hok k hk).1) _
  · rw [h, KG] at hj
    simp at hj
/-- What stands behind the map's store. -/
theorem seven {w0 w5 w6 w7 : World} {base g b c3 : Nat} {xs : List (List Int)} {l : List Int} {ok : Nat → Prop} {A3 : Option Addr} {D : DataW Unit} {v v6 : Value} {zs : List Int} {s : Int} (hok : ∀ k, ok k → k ≠ g ∧ k ≠ b) (hgb : g ≠ b) (hg : base ≤ g) (hb : base ≤ b) (KG5 : w5.heap[g]? = some (.cells #[.slice A3 (xs.length + 1) c3, .map (some b), .int .i64 s] 93 (0, 0)))
    (KS5 : Kd.S dB 25 w5 base ok (.slice A3 (xs.length + 1) c3) (xs ++ [l])) (KB5 : Below base w0 w5) (hb5 : b + 1 ≤ w5.heap.size) (hD : DM xs D) (hx : xs.length < 16384) (hnd : xs.Nodup) (hm : l ∉ xs) (hxs : ∀ x ∈ xs, ∀ y ∈ x, 0 ≤ y ∧ y < 256) (hl : ∀ x ∈ l, 0 ≤ x ∧ x < 256) (hs : s = (((xs ++ [l]).map List.length).sum : Nat))
    (hoi : w5.drew.ownsInts (b + 1) 3 .i64 v zs) (hzs : zs = idx xs (hd l)) (hR : Kd.R (Kd.int .i64) 3 w6 (b + 1) (fun _ => True) v6 (zs ++ [(xs.length : Int)])) (hg6 : w5.drew.grownBy w6 v.ownBlock)
    (hown7 : w7.ownsGroups (H := Unit) Try.prog 31 (b + 1) 3 .i64 b (xs.length + 1) (D.put (.int .u64 (hd l : Nat)) (rowDatum .i64 v6 (zs ++ [(xs.length : Int)])))) (hi6 : w6.ownsInts (b + 1) 3 .i64 v6 (zs ++ [(xs.length : Int)])) (hg7 : w6.grownBy w7 (some b)) (hsh7 : w7.Shuns b (fun k => ¬ ok k)) :
    PS w0 base g b ok w7 (xs ++ [l]) := by
  have hty : ∀ k, v.ownBlock = some k → ∃ cells, w5.drew.heap[k]? = some (.cells cells 3 (0, 0)) := own_typed hoi.1
  have hgv : some g ≠ v.ownBlock := fun h => by
    obtain ⟨cells, hc⟩ := hty g h.symm
    rw [show w5.drew.heap[g]? = _ from KG5] at hc
    simp at hc
  have hg5s : g < w5.heap.size := (Array.getElem?_eq_some_iff.1 KG5).1
  have hlen : (xs ++ [l]).length = xs.length + 1 := by simp
  have hbw : base ≤ w5.drew.heap.size := (show base ≤ w5.heap.size by omega)
  refine ⟨A3, c3, D.put (.int .u64 (hd l : Nat)) (rowDatum .i64 v6 (zs ++ [(xs.length : Int)])), ?_, ?_, ?_, ?_, (below_drew KB5).groups hoi hg6 hg7 hbw (by omega) hb, hg, hb, hgb, ?_, ?_, hsh7⟩
  · rw [hg7.block g (Nat.lt_of_lt_of_le (show g < w5.drew.heap.size from hg5s) hg6.size) (fun h => hgb (by injection h)), hg6.block g hg5s hgv, hlen, ← hs]
    exact KG5
  · rw [hlen]
    exact Kd.S_grown (Kd.S_over' (Kd.S_drew KS5) hty (by decide) hg6) hg7 (fun k hk h => (hok k hk).2 (by injection h))
  · rw [hlen]
    exact hown7
  · rw [hi6.datum_pos (by simp), hzs]
    exact DM_put hD l
  · rw [List.nodup_append]
    refine ⟨hnd, by simp, ?_⟩
    intro a ha b hb he
    rw [List.mem_singleton.1 hb] at he
    exact hm (he ▸ ha)
  · intro x hx2
    rcases List.mem_append.1 hx2 with h | h
    · exact hxs x h
    · rw [List.mem_singleton.1 h]
      exact hl
set_option maxHeartbeats 8000000 in
set_option maxRecDepth 100000 in
theorem add_new (w0 : World) (base g b : Nat) (xs : List (List Int)) (A : Option Addr) (c : Nat) (l : List Int) (ok : Nat → Prop) (w : World) (HP : PS w0 base g b ok w xs) (hok : ∀ k, ok k → k ≠ g ∧ k ≠ b) (hfr : ∀ k, w.heap.size ≤ k → ok k) (hT : ∀ w' : World, Below base w0 w' → (∀ k, ¬ ok k → k ≠ g → k ≠ b → k < w.heap.size → w'.heap[k]? = w.heap[k]?) → Kd.C (Kd.int .u8) w' A l.length l) (hlc : l.length ≤ c) (hl : ∀ x ∈ l, 0 ≤ x ∧ x < 256) (hn : l.length ≤ 140737488351232) (hx : xs.length < 16384) (hm : l ∉ xs) (hs : (xs.map List.length).sum + l.length ≤ 8388608) :
    Calls Try.prog 43 #[.pointer (some ⟨g, 0, none⟩), .slice A l.length c] w fun e w' => e = .returned (.tuple #[.int .i64 xs.length, .bool true, .int .i64 0]) ∧ PS w0 base g b ok w' (xs ++ [l]) ∧ w.heap.size ≤ w'.heap.size ∧ ∀ k, ¬ ok k → k ≠ g → k ≠ b → k < w.heap.size → w'.heap[k]? = w.heap[k]? := by
  have hR : Kd.C (Kd.int .u8) w A l.length l := hT w (by obtain ⟨_, _, _, _, _, _, _, h, _⟩ := HP; exact h) (fun _ _ _ _ _ => rfl)
  have hf := find_any w0 base g b xs A c l ok w HP hR hlc hl hn (by omega)
  obtain ⟨A1, c1, D, HG, HS, HM, HD, HB, hg, hb, hgb, hnd, hxs, hsh⟩ := HP
  obtain ⟨t, htt⟩ : ∃ t, t = (xs.map List.length).sum := ⟨_, rfl⟩
  rw [← htt] at HG hs
  have hmost : (((xs.length : Nat) : Int) == 16384) = false := by simp; omega
  have KH := Aside0.mk hf
  have KG := Aside0.mk HG
  have KS := Aside0.mk HS
  have KM := Aside0.mk HM
  have KD := Aside0.mk HD
  have KB := Aside0.mk HB
  have KT := Aside0.mk hT
  have KL := Aside0.mk hl
  have KX := Aside0.mk hxs
  have Kok := Aside0.mk hok
  have Kfr := Aside0.mk hfr
  have KTT := Aside0.mk htt
  have KN := Aside0.mk hnd
  have KSH := Aside0.mk hsh
  have KR := Aside0.mk hR
  have hgs : g < w.heap.size := (Array.getElem?_eq_some_iff.1 HG).1
  clear hf HG HS HM HD HB hT hl hxs hok hfr htt hnd hR hsh
  go_enter Try.func43, Try.ntmps43
  go_wp2_with (go_at_call 50; refine KH.out.mono ?_; rintro e w1 ⟨h, k1, hw1⟩; have h := h.resolve_left (by rintro ⟨p, hp, -⟩; exact hm (List.mem_of_getElem? hp)); obtain ⟨-, rfl⟩ := h; have hh1 : Aside0 (w1.heap = w.heap) := ⟨by rw [hw1]; rfl⟩; have KW1 := Aside0.mk hw1; clear hw1; have hc0 : w1.cell? ⟨g, 0, none⟩ = some (.slice A1 xs.length c1) := ((cell_of_row _ _ _ _ _ _ (show w1.heap[g]? = _ by rw [hh1.out]; exact KG.out)).trans rfl); have hc1 : w1.cell? ⟨g, 1, none⟩ = some (.map (some b)) := ((cell_of_row _ _ _ _ _ _ (show w1.heap[g]? = _ by rw [hh1.out]; exact KG.out)).trans rfl); have hc2 : w1.cell? ⟨g, 2, none⟩ = some (.int .i64 t) := ((cell_of_row _ _ _ _ _ _ (show w1.heap[g]? = _ by rw [hh1.out]; exact KG.out)).trans rfl))
  have hsz1 : Aside0 (w1.heap.size = w.heap.size) := ⟨by rw [hh1.out]⟩
  have KG1 : Aside0 (w1.drew.heap[g]? = some (.cells #[.slice A1 xs.length c1, .map (some b), .int .i64 t] 93 (0, 0))) := ⟨by show w1.heap[g]? = _; rw [hh1.out]; exact KG.out⟩
  have KS1 : Aside0 (Kd.S dB 25 w1.drew base ok (.slice A1 xs.length c1) xs) := ⟨by rw [KW1.out]; exact Kd.S_drew (Kd.S_drewN KS.out _)⟩
  have KB1 : Aside0 (Below base w0 w1.drew) := ⟨by rw [KW1.out]; exact below_drew (pw_below_drewN KB.out _)⟩
  have KR1 : Aside0 (Kd.C (Kd.int .u8) w1.drew A l.length l) := ⟨by rw [KW1.out]; exact Kd.C_drew (Kd.C_drewN KR.out _)⟩
  have Kfr1 : Aside0 (∀ k, w1.drew.heap.size ≤ k → ok k) := ⟨fun k hk => Kfr.out k (by have := hsz1.out; have h2 : w1.heap.size ≤ k := hk; omega)⟩
  refine start_ (n := 12) (S := fun w' => w'.cell? ⟨g, 0, none⟩ = some (.slice A1 xs.length c1)) (ds := [8, 11]) #[false, false, false, false, false, false, false, false, false, false, false, false] (by kernel_rfl) rfl rfl ((show w1.cell? _ = _ from hc0)) (fun hHeld => ?_)
  refine pure_ (i := 0) (N := some 41) (v := ?_) (a' := ?_) #[true, false, false, false, false, false, false, false, false, false, false, false] rfl rfl (by kernel_rfl) (fun _ _ _ h => h) (Or.inl ⟨by rfl, ?_⟩) ?_ ?_
  rotate_left
  · intro w'
    go_simp
    with_reducible rfl
  rotate_left
  · simp only [Act.put, List.setIfInBounds_toArray, List.set_cons_zero, List.set_cons_succ, i64_w, i32_w]
    rfl
  refine pure_ (i := 1) (N := some 42) (v := ?_) (a' := ?_) #[true, true, false, false, false, false, false, false, false, false, false, false] rfl rfl (by kernel_rfl) (fun _ _ _ h => h) (Or.inl ⟨by rfl, ?_⟩) ?_ ?_
  rotate_left
  · intro w'
    go_simp
    with_reducible rfl
  rotate_left
  · simp only [Act.put, List.setIfInBounds_toArray, List.set_cons_zero, List.set_cons_succ, i64_w, i32_w]
    rfl
  refine pure_ (i := 2) (N := some 43) (v := ?_) (a' := ?_) #[true, true, true, false, false, false, false, false, false, false, false, false] rfl rfl (by kernel_rfl) (fun _ _ _ h => h) (Or.inl ⟨by rfl, ?_⟩) ?_ ?_
  rotate_left
  · intro w'
    go_simp
    with_reducible rfl
  rotate_left
  · simp only [Act.put, List.setIfInBounds_toArray, List.set_cons_zero, List.set_cons_succ, i64_w, i32_w]
    rfl
  refine pure_ (i := 3) (N := some 44) (v := ?_) (a' := ?_) #[true, true, true, true, false, false, false, false, false, false, false, false] rfl rfl (by kernel_rfl) (fun _ _ _ h => h) (Or.inl ⟨by rfl, ?_⟩) ?_ ?_
  rotate_left
  · intro w'
    go_simp
    with_reducible rfl
  rotate_left
  · simp only [Act.put, List.setIfInBounds_toArray, List.set_cons_zero, List.set_cons_succ, i64_w, i32_w]
    rfl
  refine pure_ (i := 5) (N := some 46) (v := ?_) (a' := ?_) #[true, true, true, true, false, true, false, false, false, false, false, false] rfl rfl (by kernel_rfl) (fun _ _ _ h => h) (Or.inl ⟨by rfl, ?_⟩) ?_ ?_
  rotate_left
  · intro w'
    go_simp
    with_reducible rfl
  rotate_left
  · simp only [Act.put, List.setIfInBounds_toArray, List.set_cons_zero, List.set_cons_succ, i64_w, i32_w]
    rfl
  refine take_ (i := 4) (N := some 45) (v := ?_) (a' := ?_) #[true, true, true, true, true, true, false, false, false, false, false, false] rfl rfl (by kernel_rfl) (fun _ _ _ h => h) (Or.inl ⟨by rfl, ?_⟩) hHeld ?_ ?_
  rotate_left
  · intro w' s0
    go_simp
    with_reducible rfl
  rotate_left
  · simp only [Act.put, List.setIfInBounds_toArray, List.set_cons_zero, List.set_cons_succ, i64_w, i32_w]
    rfl
  refine one_ (i := 6) (N := some 47) #[true, true, true, true, true, true, true, false, false, false, false, false] rfl rfl (by kernel_rfl) (by decide) (fun K hK => ?_)
  refine goes_ Try.func56 (by kernel_rfl) rfl #[.slice A l.length c] (by rfl) rfl rfl (by simp only [List.map_toArray, List.map_cons, List.map_nil]; rfl) ?_
  with_reducible refine (told_any A c l _ KR1.out hn).mono ?_
  rintro e w2 ⟨rfl, ht2, hb2⟩
  refine ⟨_, rfl, ?_⟩
  obtain ⟨hd0, hd1, hd2, KG2, KS2, KB2, KM2, Kok2, Kfr2⟩ := told_keeps KG1.out KS1.out KB1.out Kfr1.out hg hn ht2 hb2
  have KT2 := Aside0.mk ht2
  have Kb2 := Aside0.mk hb2
  clear ht2 hb2
  refine hK.out _ _ (hd0) (fun hHeld => ?_)
  clear hK K
  refine norm_ (a' := ?_) ?_ ?_
  rotate_left
  · show Act.put _ (some 47) _ = _
    simp only [Act.put, List.setIfInBounds_toArray, List.set_cons_zero, List.set_cons_succ, i64_w, i32_w]
    rfl
  refine one_ (i := 7) (N := some 48) #[true, true, true, true, true, true, true, true, false, false, false, false] rfl rfl (by kernel_rfl) (by decide) (fun K hK => ?_)
  refine value_ (w1 := ?_) (v := ?_) (by rfl) rfl ?_ ?_
  rotate_left 2
  · go_simp
    constructor
    · rfl
    · rfl
  refine hK.out _ _ (((cell_of_row _ _ _ _ _ _ (((World.grownBy_alloc w2 _ (row := none)).block g hd1 (by simp)).trans KG2.out)).trans rfl)) (fun hHeld => ?_)
  clear hK K
  refine norm_ (a' := ?_) ?_ ?_
  rotate_left
  · show Act.put _ (some 48) _ = _
    simp only [Act.put, List.setIfInBounds_toArray, List.set_cons_zero, List.set_cons_succ, i64_w, i32_w]
    rfl
  refine last_ (i := 8) (N := some 49) #[true, true, true, true, true, true, true, true, true, false, false, false] rfl rfl (by kernel_rfl) (by decide) (fun K hK => ?_)
  refine Kd.S_append_step dB (w0 := w0) base (by rfl) (.tmp 45) (.tmp 48) 69 25 (.slice none 0 0) 24 rfl Try.underlying69 info25 rfl (by decide) (by decide) (.slice A1 xs.length c1) xs l [.slice (some ⟨w1.heap.size, 0, none⟩) l.length l.length] ok (fun k => k = w1.heap.size) rfl rfl KM2.out Kok2.out Kfr2.out KS2.out KB2.out hd2 (by omega) ?_; intro v3 w3 hS3 hB3 hg3 hat3; obtain ⟨A3, c3, rfl⟩ := Kd.S_slice hS3; have hG3 : w3.heap[g]? = _ := (hg3.block g hd1 (Kd.S_away KS2.out (fun k hk => (Kok.out k hk.1).1))).trans KG2.out; have he0 : w3.cell? ⟨g, 0, none⟩ = some (.slice A1 xs.length c1) := (cell_of_row _ _ _ _ _ _ hG3).trans rfl; have hfz0 : w3.frozen? ⟨g, 0, none⟩ = false := blk_frozen hG3 0; have hlen3 : (xs ++ [l]).length = xs.length + 1 := (by simp); rw [hlen3] at hS3 hat3 ⊢; have KS3 := Aside0.mk hS3; have KB3 := Aside0.mk hB3; have Kg3 := Aside0.mk hg3; have Khat3 := Aside0.mk hat3; have KG3 := Aside0.mk hG3; clear hS3 hB3 hg3 hat3 hG3 hlen3
  refine hK.out _ _ ?_
  clear hK K
  refine norm_ (a' := ?_) ?_ ?_
  rotate_left
  · show Act.put _ (some 49) _ = _
    simp only [Act.put, List.setIfInBounds_toArray, List.set_cons_zero, List.set_cons_succ, i64_w, i32_w]
    rfl
  refine pure_ (i := 9) (N := some 50) (v := ?_) (a' := ?_) #[true, true, true, true, true, true, true, true, true, true, false, false] rfl rfl (by kernel_rfl) (fun _ _ _ h => h) (Or.inl ⟨by rfl, ?_⟩) ?_ ?_
  rotate_left
  · intro w'
    go_simp
    with_reducible rfl
  rotate_left
  · simp only [Act.put, List.setIfInBounds_toArray, List.set_cons_zero, List.set_cons_succ, i64_w, i32_w]
    rfl
  refine pure_ (i := 10) (N := some 51) (v := ?_) (a' := ?_) #[true, true, true, true, true, true, true, true, true, true, true, false] rfl rfl (by kernel_rfl) (fun _ _ _ h => h) (Or.inl ⟨by rfl, ?_⟩) ?_ ?_
  rotate_left
  · intro w'
    go_simp
    with_reducible rfl
  rotate_left
  · simp only [Act.put, List.setIfInBounds_toArray, List.set_cons_zero, List.set_cons_succ, i64_w, i32_w]
    rfl
  refine last_ (i := 11) (N := none) #[true, true, true, true, true, true, true, true, true, true, true, true] rfl rfl (by kernel_rfl) (by decide) (fun K hK => ?_)
  refine skip_ (w1 := ?_) (by rfl) rfl ?_ ?_
  rotate_left
  · go_simp
    rfl
  refine hK.out _ _ ?_
  clear hK K
  refine done_ (by kernel_rfl) ?_
  obtain ⟨w4, hw4⟩ : ∃ w4, w4 = w3.setCell ⟨g, 0, none⟩ (.slice A3 (xs.length + 1) c3) := ⟨_, rfl⟩
  rw [← hw4]
  have KG4 : Aside0 (w4.heap[g]? = some (.cells #[.slice A3 (xs.length + 1) c3, .map (some b), .int .i64 t] 93 (0, 0))) := ⟨by rw [hw4]; exact blk_set KG3.out 0 _⟩
  have KW4 := Aside0.mk hw4
  clear hw4 he0 hfz0 hd0
  have hf2 : w4.cell? ⟨g, 2, none⟩ = some (.int .i64 t) := (cell_of_row _ _ _ _ _ _ KG4.out).trans rfl
  have hfz2 : w4.frozen? ⟨g, 2, none⟩ = false := blk_frozen KG4.out 2
  go_wp2_with (go_at_call 20; obtain ⟨w5, hw5⟩ : ∃ w5, w5 = w4.setCell ⟨g, 2, none⟩ (.int .i64 (t + l.length)) := ⟨_, rfl⟩; rw [← hw5]; have hw5' := hw5; rw [KW4.out] at hw5'; obtain ⟨KF5, KG5, KS5, KM5, KB5, hb5, hsz5⟩ := five KG.out KS.out KM.out Kok.out hgb hg (show w1.drew.heap = w.heap from hh1.out) Kb2.out Kg3.out KG3.out KS3.out KB3.out _ hw5'; refine (Sum.digest_any A c l _ (KT.out w5 KB5.out (fun k h1 h2 h3 h4 => KF5.out k h2 (fun h => h1 ((Kd.S_R KS.out).1 k h.symm)) h4)) hn KL.out).mono ?_; rintro e w6 ⟨rfl, rfl⟩; clear hw5 hw5' hf2 hfz2)
  have hkey : keyOf Try.prog 31 (.int .u64 (hd l : Nat)) = some (.int .u64 (hd l : Nat)) := keyOf_int_mk Try.underlying31 (wf_u64 _ (hd_lt l))
  have HMd : w5.drew.ownsGroups (H := Unit) Try.prog 31 (b + 1) 3 .i64 b xs.length D := KM5.out
  obtain ⟨v, zs, hrun, hat, hoi, hzl, hback⟩ := HMd.at law Try.underlying91 (zeroE _) (by unfold maxLen; omega) hkey
  have hgra := World.grownBy_alloc w5.drew (.cells #[.int .i64 (xs.length : Int)] 3) (row := none)
  have KLT := Aside0.mk (fun (w9 : World) (hb9 : w9.heap[b]? = w5.drew.heap[b]?) => look_two HMd hb9 law Try.underlying91 zeroE hkey hrun)
  have hbs : b < w5.drew.heap.size := hb5
  have KGR := Aside0.mk hgra
  have hrun' := look_two HMd (hgra.block b hbs (by simp)) law Try.underlying91 zeroE hkey hrun
  have hc1' : w5.cell? ⟨g, 1, none⟩ = some (.map (some b)) := (cell_of_row _ _ _ _ _ _ KG5.out).trans rfl
  have hg5 : g < w5.heap.size := (Array.getElem?_eq_some_iff.1 KG5.out).1
  have Khgv : Aside0 (some g ≠ v.ownBlock) := ⟨fun h => by
    obtain ⟨cells, hc⟩ := own_typed hoi.1 g h.symm
    rw [show w5.drew.heap[g]? = _ from KG5.out] at hc
    simp at hc⟩
  have Khbv : Aside0 (some b ≠ v.ownBlock) := ⟨fun h => by
    have h1 := (hoi.1.lt b h.symm).1
    omega⟩
  have hsh5 : w5.drew.Shuns b (fun k => ¬ ok k) := fun es clock he => KSH.out es clock (by
    have hbw : b < w.heap.size := by
      obtain ⟨es, clock, h, -⟩ := KM.out
      exact (Array.getElem?_eq_some_iff.1 h).1
    rw [← KF5.out b (Ne.symm hgb) (Kd.S_away KS.out (fun k hk => (Kok.out k hk).2)) hbw]
    exact he)
  have Kvsh := Aside0.mk (look_shuns HMd law Try.underlying91 zeroE hkey hrun hsh5)
  have Ksh5 := Aside0.mk hsh5
  have KHM := Aside0.mk HMd
  have Kkey := Aside0.mk hkey
  have Khat := Aside0.mk hat
  have Khoi := Aside0.mk hoi
  have Kback := Aside0.mk hback
  clear hat hoi hback HMd hgra hkey hsh5
  unfold hd at hrun hrun'
  have hrun2 : (Instr.lookup 91 (.map (some b)) (.int .u64 (Sum.dig 14695981039346656037 l : Nat)) false).run Try.prog (w5.alloc (.cells #[.int .i64 (xs.length : Int)] 3)).drew = .ok v (w5.alloc (.cells #[.int .i64 (xs.length : Int)] 3)).drew := hrun'
  clear hrun'
  refine start_ (n := 15) (S := fun w' => w'.cell? ⟨g, 1, none⟩ = some (.map (some b)) ∧ (Instr.lookup 91 (.map (some b)) (.int .u64 (Sum.dig 14695981039346656037 l : Nat)) false).run Try.prog w' = .ok v w') (ds := [14]) #[false, false, false, false, false, false, false, false, false, false, false, false, false, false, false] (by kernel_rfl) rfl rfl ⟨(show w5.cell? _ = _ from hc1'), hrun⟩ (fun hHeld => ?_)
  refine pure_ (i := 0) (N := some 63) (v := ?_) (a' := ?_) #[true, false, false, false, false, false, false, false, false, false, false, false, false, false, false] rfl rfl (by kernel_rfl) (fun _ _ _ h => h) (Or.inl ⟨by rfl, ?_⟩) ?_ ?_
  rotate_left
  · intro w'
    go_simp
    with_reducible rfl
  rotate_left
  · simp only [Act.put, List.setIfInBounds_toArray, List.set_cons_zero, List.set_cons_succ, i64_w, i32_w]
    rfl
  refine pure_ (i := 1) (N := some 64) (v := ?_) (a' := ?_) #[true, true, false, false, false, false, false, false, false, false, false, false, false, false, false] rfl rfl (by kernel_rfl) (fun _ _ _ h => h) (Or.inl ⟨by rfl, ?_⟩) ?_ ?_
  rotate_left
  · intro w'
    go_simp
    with_reducible rfl
  rotate_left
  · simp only [Act.put, List.setIfInBounds_toArray, List.set_cons_zero, List.set_cons_succ, i64_w, i32_w]
    rfl
  refine pure_ (i := 2) (N := some 65) (v := ?_) (a' := ?_) #[true, true, true, false, false, false, false, false, false, false, false, false, false, false, false] rfl rfl (by kernel_rfl) (fun _ _ _ h => h) (Or.inl ⟨by rfl, ?_⟩) ?_ ?_
  rotate_left
  · intro w'
    go_simp
    with_reducible rfl
  rotate_left
  · simp only [Act.put, List.setIfInBounds_toArray, List.set_cons_zero, List.set_cons_succ, i64_w, i32_w]
    rfl
  refine pure_ (i := 4) (N := some 67) (v := ?_) (a' := ?_) #[true, true, true, false, true, false, false, false, false, false, false, false, false, false, false] rfl rfl (by kernel_rfl) (fun _ _ _ h => h) (Or.inl ⟨by rfl, ?_⟩) ?_ ?_
  rotate_left
  · intro w'
    go_simp
    with_reducible rfl
  rotate_left
  · simp only [Act.put, List.setIfInBounds_toArray, List.set_cons_zero, List.set_cons_succ, i64_w, i32_w]
    rfl
  refine pure_ (i := 5) (N := some 68) (v := ?_) (a' := ?_) #[true, true, true, false, true, true, false, false, false, false, false, false, false, false, false] rfl rfl (by kernel_rfl) (fun _ _ _ h => h) (Or.inl ⟨by rfl, ?_⟩) ?_ ?_
  rotate_left
  · intro w'
    go_simp
    with_reducible rfl
  rotate_left
  · simp only [Act.put, List.setIfInBounds_toArray, List.set_cons_zero, List.set_cons_succ, i64_w, i32_w]
    rfl
  refine pure_ (i := 6) (N := some 69) (v := ?_) (a' := ?_) #[true, true, true, false, true, true, true, false, false, false, false, false, false, false, false] rfl rfl (by kernel_rfl) (fun _ _ _ h => h) (Or.inl ⟨by rfl, ?_⟩) ?_ ?_
  rotate_left
  · intro w'
    go_simp
    with_reducible rfl
  rotate_left
  · simp only [Act.put, List.setIfInBounds_toArray, List.set_cons_zero, List.set_cons_succ, i64_w, i32_w]
    rfl
  refine pure_ (i := 7) (N := some 70) (v := ?_) (a' := ?_) #[true, true, true, false, true, true, true, true, false, false, false, false, false, false, false] rfl rfl (by kernel_rfl) (fun _ _ _ h => h) (Or.inl ⟨by rfl, ?_⟩) ?_ ?_
  rotate_left
  · intro w'
    go_simp
    with_reducible rfl
  rotate_left
  · simp only [Act.put, List.setIfInBounds_toArray, List.set_cons_zero, List.set_cons_succ, i64_w, i32_w]
    rfl
  refine pure_ (i := 9) (N := some 72) (v := ?_) (a' := ?_) #[true, true, true, false, true, true, true, true, false, true, false, false, false, false, false] rfl rfl (by kernel_rfl) (fun _ _ _ h => h) (Or.inl ⟨by rfl, ?_⟩) ?_ ?_
  rotate_left
  · intro w'
    go_simp
    with_reducible rfl
  rotate_left
  · simp only [Act.put, List.setIfInBounds_toArray, List.set_cons_zero, List.set_cons_succ, i64_w, i32_w]
    rfl
  refine pure_ (i := 11) (N := some 74) (v := ?_) (a' := ?_) #[true, true, true, false, true, true, true, true, false, true, false, true, false, false, false] rfl rfl (by kernel_rfl) (fun _ _ _ h => h) (Or.inl ⟨by rfl, ?_⟩) ?_ ?_
  rotate_left
  · intro w'
    go_simp
    with_reducible rfl
  rotate_left
  · simp only [Act.put, List.setIfInBounds_toArray, List.set_cons_zero, List.set_cons_succ, i64_w, i32_w]
    rfl
  refine take_ (i := 3) (N := some 66) (v := ?_) (a' := ?_) #[true, true, true, true, true, true, true, true, false, true, false, true, false, false, false] rfl rfl (by kernel_rfl) (fun _ _ _ h => h) (Or.inl ⟨by rfl, ?_⟩) hHeld ?_ ?_
  rotate_left
  · rintro w' ⟨s0, s1⟩
    go_simp
    with_reducible rfl
  rotate_left
  · simp only [Act.put, List.setIfInBounds_toArray, List.set_cons_zero, List.set_cons_succ, i64_w, i32_w]
    rfl
  refine take_ (i := 8) (N := some 71) (v := ?_) (a' := ?_) #[true, true, true, true, true, true, true, true, true, true, false, true, false, false, false] rfl rfl (by kernel_rfl) (fun _ _ _ h => h) (Or.inl ⟨by rfl, ?_⟩) hHeld ?_ ?_
  rotate_left
  · rintro w' ⟨s0, s1⟩
    go_simp
    with_reducible rfl
  rotate_left
  · simp only [Act.put, List.setIfInBounds_toArray, List.set_cons_zero, List.set_cons_succ, i64_w, i32_w]
    rfl
  refine take_ (i := 10) (N := some 73) (v := v) (a' := ?_) #[true, true, true, true, true, true, true, true, true, true, true, true, false, false, false] rfl rfl (by kernel_rfl) (fun _ _ _ h => h) (Or.inl ⟨by rfl, ?_⟩) hHeld ?_ ?_
  · rintro w' ⟨s0, s1⟩
    exact exec_lookup 91 (Operand.tmp 71) (Operand.tmp 72) (by rfl) b (.int .u64 (Sum.dig 14695981039346656037 l : Nat)) _ (by rfl) (by rfl) s1
  rotate_left
  · simp only [Act.put, List.setIfInBounds_toArray, List.set_cons_zero, List.set_cons_succ, i64_w, i32_w]
    rfl
  refine one_ (i := 12) (N := some 75) #[true, true, true, true, true, true, true, true, true, true, true, true, true, false, false] rfl rfl (by kernel_rfl) (by decide) (fun K hK => ?_)
  refine value_ (w1 := ?_) (v := ?_) (by rfl) rfl ?_ ?_
  rotate_left 2
  · go_simp
    constructor
    · rfl
    · rfl
  refine hK.out _ _ ⟨((cell_of_row _ _ _ _ _ _ ((KGR.out.block g hg5 (by simp)).trans KG5.out)).trans rfl), hrun2⟩ (fun hHeld => ?_)
  clear hK K
  refine norm_ (a' := ?_) ?_ ?_
  rotate_left
  · show Act.put _ (some 75) _ = _
    simp only [Act.put, List.setIfInBounds_toArray, List.set_cons_zero, List.set_cons_succ, i64_w, i32_w]
    rfl
  refine one_ (i := 13) (N := some 76) #[true, true, true, true, true, true, true, true, true, true, true, true, true, true, false] rfl rfl (by kernel_rfl) (by decide) (fun K hK => ?_)
  refine Kd.R_append_step (Kd.int .i64) (w0 := w5.drew) (W := w5.drew) (b + 1) (by rfl) (.tmp 73) (.tmp 75) 73 3 (.int .i64 0) 8 rfl Try.underlying73 info3 rfl (by decide) (by decide) v zs (xs.length : Int) [.int .i64 (xs.length : Int)] (fun _ => True) (fun _ => False) rfl rfl rfl (fun _ h => h.elim) (fun _ _ => trivial) (Kd.R_of_own Khoi.out.1 (fun _ _ => trivial)) (Below.refl _ _) hb5 (by omega) ?_; intro v6 w6 hR6 hB6 hg6 hat6; obtain ⟨w7, hrun7, hown7, hg7⟩ := Kback.out w6 v6 (zs ++ [(xs.length : Int)]) hg6 (ints_of_R hR6 Khoi.out.2 (WalkArith.wf_i64 (by omega))) (by simp; omega) hat6; have Krun7 := Aside0.mk hrun7; have Khat6 := Aside0.mk hat6; clear hat6; unfold hd at hrun7; have hl6 := KLT.out w6 (hg6.block b hbs Khbv.out); unfold hd at hl6; have hc6 : w6.cell? ⟨g, 1, none⟩ = some (.map (some b)) := (cell_of_row _ _ _ _ _ _ ((hg6.block g hg5 Khgv.out).trans KG5.out)).trans rfl
  refine hK.out _ _ ⟨hc6, hl6⟩ (fun hHeld => ?_)
  clear hK K
  refine norm_ (a' := ?_) ?_ ?_
  rotate_left
  · show Act.put _ (some 76) _ = _
    simp only [Act.put, List.setIfInBounds_toArray, List.set_cons_zero, List.set_cons_succ, i64_w, i32_w]
    rfl
  refine last_ (i := 14) (N := none) #[true, true, true, true, true, true, true, true, true, true, true, true, true, true, true] rfl rfl (by kernel_rfl) (by decide) (fun K hK => ?_)
  refine skip_ (w1 := ?_) (by rfl) rfl ?_ ?_
  rotate_left
  · go_simp
    rfl
  refine hK.out _ _ ?_
  clear hK K
  refine done_ (by kernel_rfl) ?_
  go_wp2
  go_ret3
  refine ⟨rfl, seven Kok.out hgb hg hb KG5.out KS5.out KB5.out hb5 KD.out hx KN.out hm KX.out KL.out (by rw [KTT.out]; simp) Khoi.out (DM_zs KD.out (hd_lt l) Khat.out Khoi.out) hR6 hg6 hown7 (ints_of_R hR6 Khoi.out.2 (WalkArith.wf_i64 (by omega))) hg7 ?_, Nat.le_trans hsz5 (Nat.le_trans hg6.size hg7.size), fun k h1 h2 h3 h5 => ?_⟩
  · obtain ⟨es, clock, hbb, F, hsz, -⟩ := KHM.out
    have hb6 : w6.heap[b]? = some (.map es clock) := (hg6.block b hbs Khbv.out).trans hbb
    refine store_shuns law Try.underlying91 hb6 F (by unfold maxLen; omega) Kkey.out Krun7.out (fun es' clock' he => Ksh5.out es' clock' ((hg6.block b hbs Khbv.out).symm.trans he)) (fun q hq => ?_)
    rcases Khat6.out with h | ⟨q', h, hle⟩
    · exact Kvsh.out q (h ▸ hq)
    · rw [h] at hq
      obtain rfl := Option.some.inj hq
      exact fun hn => hn (Kfr.out _ (Nat.le_trans hsz5 hle))
  · have hk5 := KF5.out k h2 (fun h => h1 ((Kd.S_R KS.out).1 k h.symm)) h5
    have hlt5 : k < w5.heap.size := Nat.lt_of_lt_of_le h5 hsz5
    rw [hg7.block k (Nat.lt_of_lt_of_le hlt5 hg6.size) (fun h => h3 (by injection h)), hg6.block k hlt5 (fun h => Kvsh.out k h.symm h1)]
    exact hk5
end Go.Proofs.Ytgadcnlcldjhpaa.Pool
