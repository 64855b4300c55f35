/- Contents, once: a pool in memory; asking for a content. -/
import Derived.Test.YtgadcnlcldjhpaaPool1
set_option linter.unusedVariables false
set_option linter.unusedSimpArgs false
namespace Go.Proofs.Ytgadcnlcldjhpaa.Pool
open Go.RowKit Go.Maps Go.ChangeShapes Go.Proofs.YtgadcnlcldjhpaaW.PrintWords Go.Proofs.YtgadcnlcldjhpaaW.PrintLast Go.Proofs.YtgadcnlcldjhpaaW.PrintMore
abbrev dB : Kd (List Int) := Kd.slice 5 (Kd.int .u8)
/-- A content's digest. -/
def hd (l : List Int) : Nat := Sum.dig 14695981039346656037 l
/-- Where the contents with a digest lie. -/
def idx (xs : List (List Int)) (d : Nat) : List Int := (xs.zipIdx.filter (fun p => hd p.1 == d)).map (fun p => (p.2 : Int))
def DM (xs : List (List Int)) (D : DataW Unit) : Prop := Maps.IsMap D ∧ ∀ d : Nat, d < 18446744073709551616 → D.atKey (.int .u64 d) .nil = if idx xs d = [] then .nil else .slice (lits .i64 (idx xs d)) []
theorem law : Keyed Try.prog 31 := int_keyed Try.underlying31
theorem zeroE (w : World) : (zeroValue 73).run Try.prog w = .ok (.slice none 0 0) w := by kernel_rfl
theorem idx_snoc (xs : List (List Int)) (b : List Int) (d : Nat) : idx (xs ++ [b]) d = idx xs d ++ (if hd b = d then [(xs.length : Int)] else []) := by
  unfold idx
  rw [Kd.zip_snoc, List.filter_append, List.map_append]
  by_cases h : hd b = d
  · simp [h]
  · simp [h]
theorem hd_lt (l : List Int) : hd l < 18446744073709551616 := Bits.digest_lt _ _ (by decide)
theorem wf_u64 (d : Nat) (h : d < 18446744073709551616) : (Lit.int .u64 (d : Int)).wf = true := by
  have h1 : (0 : Int) ≤ d := Int.natCast_nonneg d
  have h2 : (d : Int) ≤ 18446744073709551615 := by omega
  have e1 : IntKind.u64.min = 0 := by decide
  have e2 : IntKind.u64.max = 18446744073709551615 := by decide
  simp only [Lit.wf, e1, e2]
  simp [h1, h2]
theorem lits_inj {a b : List Int} (h : (lits .i64 a : List (DataW Unit)) = lits .i64 b) : a = b := by
  unfold lits at h
  exact (List.map_inj_right (fun x y hxy => by cases hxy; rfl)).1 h
theorem DM_zs {xs : List (List Int)} {D : DataW Unit} (h : DM xs D) {w : World} {base : Nat} {v : Value} {zs : List Int} {d : Nat} (hd : d < 18446744073709551616) (hat : D.atKey (.int .u64 d) .nil = rowDatum .i64 v zs) (hoi : w.ownsInts base 3 .i64 v zs) : zs = idx xs d := by
  have h2 := h.2 d hd
  rw [hat] at h2
  rcases hoi.datum (H := Unit) with ⟨hn, rfl⟩ | hs
  · rw [hn] at h2
    by_cases h0 : idx xs d = []
    · exact h0.symm
    · rw [if_neg h0] at h2
      cases h2
  · rw [hs] at h2
    by_cases h0 : idx xs d = []
    · rw [if_pos h0] at h2
      cases h2
    · rw [if_neg h0] at h2
      injection h2 with h3 _
      exact lits_inj h3
theorem DM_put {xs : List (List Int)} {D : DataW Unit} (h : DM xs D) (b : List Int) : DM (xs ++ [b]) (D.put (.int .u64 (hd b)) (.slice (lits .i64 (idx xs (hd b) ++ [(xs.length : Int)])) [])) := by
  refine ⟨?_, fun d hdl => ?_⟩
  · obtain ⟨es, rfl⟩ := h.1
    exact ⟨_, rfl⟩
  · rw [idx_snoc]
    by_cases hb : hd b = d
    · subst hb
      rw [atKey_put_same h.1 (by first | trivial | (simp [WideAt.IsKeyLit]; done) | (simp [WideAt.IsKeyLit]; exact wf_u64 _ hdl)), if_pos rfl, if_neg (by simp)]
    · rw [atKey_put_other (by intro he; injection he with _ he; exact hb (by omega)), if_neg hb, List.append_nil]
      exact h.2 d hdl
/-- A pool in memory: its contents. -/
def PS (w0 : World) (base g b : Nat) (ok : Nat → Prop) (w : World) (xs : List (List Int)) : Prop :=
  ∃ A c D, w.heap[g]? = some (.cells #[.slice A xs.length c, .map (some b), .int .i64 ((xs.map List.length).sum : Nat)] 93 (0, 0)) ∧ Kd.S dB 25 w base ok (.slice A xs.length c) xs ∧
    w.ownsGroups (H := Unit) Try.prog 31 (b + 1) 3 .i64 b xs.length D ∧ DM xs D ∧ Below base w0 w ∧ base ≤ g ∧ base ≤ b ∧ g ≠ b ∧ xs.Nodup ∧ (∀ x ∈ xs, ∀ y ∈ x, 0 ≤ y ∧ y < 256) ∧ w.Shuns b (fun k => ¬ ok k)
theorem new_any (w : World) : Calls Try.prog 42 #[] w fun e w' => e = .returned (.pointer (some ⟨w.heap.size + 1, 0, none⟩)) ∧ PS w w.heap.size (w.heap.size + 1) w.heap.size (fun k => k ≠ w.heap.size + 1 ∧ k ≠ w.heap.size) w' [] := by
  have hmm := @run_makeMap Try.prog
  go_enter Try.func42, Try.ntmps42
  go_wp2
  go_ret
  refine ⟨rfl, none, 0, .map [], ?_, Kd.S_nil _ _ _ _ _, ?_, ⟨isMap_empty, fun d _ => rfl⟩, below_alloc (below_alloc (Below.refl _ _) _) _, by omega, by omega, by omega, List.nodup_nil, by simp, ?_⟩
  · have h := heap_alloc_new (w.alloc (.map #[] 0)) (.cells #[.slice none 0 0, .map (some w.heap.size), .int .i64 0] 93)
    rw [show (w.alloc (.map #[] 0)).heap.size = w.heap.size + 1 by simp] at h
    exact h
  · have h := World.ownsGroups_made (H := Unit) w Try.prog 31 3 .i64
    refine World.ownsGroups.kept h (World.grownBy_alloc _ _ _) (row := none) (by simp) (fun _ _ _ _ _ => ?_)
    rename_i x _
    cases x.val.ownBlock with
    | none => exact Or.inl rfl
    | some g => exact Or.inr (by simp)
  · intro es clock hb x hx
    have h := ((World.grownBy_alloc (w.alloc (.map #[] 0)) (.cells #[.slice none 0 0, .map (some w.heap.size), .int .i64 0] 93) none).block w.heap.size (by simp) (by simp)).trans (MapKept.heap_alloc w _).1
    have h2 := hb.symm.trans h
    simp only [Option.some.injEq, Obj.map.injEq] at h2
    rw [h2.1] at hx
    simp at hx
theorem mem_idx {xs : List (List Int)} {d : Nat} {z : Int} : z ∈ idx xs d ↔ ∃ (p : Nat) (x : List Int), z = (p : Int) ∧ xs[p]? = some x ∧ hd x = d := by
  unfold idx
  simp only [List.mem_map, List.mem_filter, beq_iff_eq]
  constructor
  · rintro ⟨⟨x, p⟩, ⟨h1, h2⟩, rfl⟩
    exact ⟨p, x, rfl, by simpa using List.mem_zipIdx_iff_getElem?.1 h1, h2⟩
  · rintro ⟨p, x, rfl, h1, h2⟩
    exact ⟨(x, p), ⟨List.mem_zipIdx_iff_getElem?.2 h1, h2⟩, rfl⟩
theorem exec_lookup {o : Oper} {a : Act} {w : World} (t : TypeId) (m x : Operand) (ho : o.op = .lookup t m x false) (b : Nat) (key v : Value) (hm : a.eval m = .map (some b)) (hx : a.eval x = key) (hrun : (Instr.lookup t (.map (some b)) key false).run Try.prog w = .ok v w) :
    (execOp a.eval o).run Try.prog w = .ok (.value v) w := by
  unfold execOp
  simp [ho, hm, hx, hrun, Result.andThen]
theorem equal_any (A0 : Option Addr) (c0 : Nat) (l0 : List Int) (A1 : Option Addr) (c1 : Nat) (l1 : List Int) (w : World) (hr0 : Kd.C (Kd.int .u8) w A0 l0.length l0) (hc0 : l0.length ≤ c0) (hr1 : Kd.C (Kd.int .u8) w A1 l1.length l1) (hc1 : l1.length ≤ c1) (h0 : ∀ x ∈ l0, 0 ≤ x ∧ x < 256) (h1 : ∀ x ∈ l1, 0 ≤ x ∧ x < 256) :
    Calls Try.prog 57 #[.slice A0 l0.length c0, .slice A1 l1.length c1] w fun e w' => e = .returned (.bool (decide (l0 = l1))) ∧ w = w' := by
  have hcv3 := Kd.C_string (P := Try.prog) (A := A0) (c := c0) Try.underlying25 Try.underlying5 Try.underlying9 hr0
  have hcv4 := Kd.C_string (P := Try.prog) (A := A1) (c := c1) Try.underlying25 Try.underlying5 Try.underlying9 hr1
  have he := str_eq l0 l1 h0 h1
  clear hr0 hr1 h0 h1
  go_enter Try.func57, Try.ntmps57
  go_wp2
  go_ret
  exact ⟨by simp, rfl⟩
/-- Asking for a content. -/
theorem find_any (w0 : World) (base g b : Nat) (xs : List (List Int)) (A : Option Addr) (c : Nat) (l : List Int) (ok : Nat → Prop) (w : World) (HP : PS w0 base g b ok w xs) (hR : Kd.C (Kd.int .u8) w A l.length l) (hlc : l.length ≤ c) (hl : ∀ x ∈ l, 0 ≤ x ∧ x < 256) (hn : l.length ≤ 140737488351232) (hx : xs.length ≤ 16384) :
    Calls Try.prog 50 #[.pointer (some ⟨g, 0, none⟩), .slice A l.length c] w fun e w' => ((∃ p : Nat, xs[p]? = some l ∧ e = .returned (.tuple #[.int .i64 p, .bool true])) ∨ (l ∉ xs ∧ e = .returned (.tuple #[.int .i64 0, .bool false]))) ∧ ∃ k, w' = w.drewN k := by
  obtain ⟨A1, c1, D, HG, HS, HM, HD, HB, hg, hb, hgb, hnd, hxs, hsh⟩ := HP
  clear hsh
  have hc0 : w.cell? ⟨g, 0, none⟩ = some (.slice A1 xs.length c1) := (cell_of_row _ _ _ _ _ _ HG).trans rfl
  have hc1 : w.cell? ⟨g, 1, none⟩ = some (.map (some b)) := (cell_of_row _ _ _ _ _ _ HG).trans rfl
  have hkey : keyOf Try.prog 31 (.int .u64 (hd l : Nat)) = some (.int .u64 (hd l : Nat)) := keyOf_int_mk Try.underlying31 (wf_u64 _ (hd_lt l))
  have HMd : w.drew.ownsGroups (H := Unit) Try.prog 31 (b + 1) 3 .i64 b xs.length D := HM
  obtain ⟨v, zs, hrun, hat, hoi, hzl, -⟩ := HMd.at law Try.underlying91 (zeroE _) (by unfold maxLen; omega) hkey
  have hzs : zs = idx xs (hd l) := DM_zs HD (hd_lt l) hat hoi
  obtain ⟨Av, cv, rfl, hvc⟩ : ∃ Av cv, v = .slice Av zs.length cv ∧ zs.length ≤ cv := by
    rcases hoi.1.2 with ⟨rfl, h0⟩ | ⟨gv, cv, cur, rfl, -, -, hle, -⟩
    · exact ⟨none, 0, by rw [h0], by omega⟩
    · exact ⟨_, _, rfl, hle⟩
  have hvr : Kd.C (Kd.int .i64) w.drew Av zs.length zs := (Kd.R_reads' (Kd.R_of_own (h1 := fun _ => rfl) (ok := fun _ => True) hoi.1 (fun _ _ => trivial))).2.2
  have KD := Aside0.mk (show Kd.C (Kd.int .u8) w.drew A l.length l from Kd.C_drew hR)
  have KL := Aside0.mk hl
  have KX := Aside0.mk hxs
  have KV := Aside0.mk hvr
  have KZ := Aside0.mk hzs
  have KS := Aside0.mk (Kd.S_drew HS)
  have KRun := Aside0.mk hrun
  clear HG HS HM HMd HD HB hkey hat hoi hrun hzs hvr hl hxs hR
  go_enter Try.func50, Try.ntmps50
  go_wp2
  refine start_ (n := 9) (S := fun w' => w' = w.drew ∧ w'.cell? ⟨g, 1, none⟩ = some (.map (some b))) (ds := []) #[false, false, false, false, false, false, false, false, false] (by kernel_rfl) rfl rfl ⟨rfl, (show w.cell? _ = _ from hc1)⟩ (fun hHeld => ?_)
  refine pure_ (i := 0) (N := some 10) (v := ?_) (a' := ?_) #[true, false, false, false, false, false, false, false, false] rfl rfl (by kernel_rfl) (fun _ _ _ h => h) (Or.inl ⟨by rfl, ?_⟩) ?_ ?_
  rotate_left
  · intro w'
    go_simp
    with_reducible rfl
  rotate_left
  · simp only [Act.put, List.setIfInBounds_toArray, List.set_cons_zero, List.set_cons_succ, i64_w, i32_w]
    rfl
  refine pure_ (i := 1) (N := some 11) (v := ?_) (a' := ?_) #[true, true, false, false, false, false, false, false, false] rfl rfl (by kernel_rfl) (fun _ _ _ h => h) (Or.inl ⟨by rfl, ?_⟩) ?_ ?_
  rotate_left
  · intro w'
    go_simp
    with_reducible rfl
  rotate_left
  · simp only [Act.put, List.setIfInBounds_toArray, List.set_cons_zero, List.set_cons_succ, i64_w, i32_w]
    rfl
  refine pure_ (i := 2) (N := some 12) (v := ?_) (a' := ?_) #[true, true, true, false, false, false, false, false, false] rfl rfl (by kernel_rfl) (fun _ _ _ h => h) (Or.inl ⟨by rfl, ?_⟩) ?_ ?_
  rotate_left
  · intro w'
    go_simp
    with_reducible rfl
  rotate_left
  · simp only [Act.put, List.setIfInBounds_toArray, List.set_cons_zero, List.set_cons_succ, i64_w, i32_w]
    rfl
  refine pure_ (i := 4) (N := some 14) (v := ?_) (a' := ?_) #[true, true, true, false, true, false, false, false, false] rfl rfl (by kernel_rfl) (fun _ _ _ h => h) (Or.inl ⟨by rfl, ?_⟩) ?_ ?_
  rotate_left
  · intro w'
    go_simp
    with_reducible rfl
  rotate_left
  · simp only [Act.put, List.setIfInBounds_toArray, List.set_cons_zero, List.set_cons_succ, i64_w, i32_w]
    rfl
  refine pure_ (i := 8) (N := some 18) (v := ?_) (a' := ?_) #[true, true, true, false, true, false, false, false, true] rfl rfl (by kernel_rfl) (fun _ _ _ h => h) (Or.inl ⟨by rfl, ?_⟩) ?_ ?_
  rotate_left
  · intro w'
    go_simp
    with_reducible rfl
  rotate_left
  · simp only [Act.put, List.setIfInBounds_toArray, List.set_cons_zero, List.set_cons_succ, i64_w, i32_w]
    rfl
  refine take_ (i := 3) (N := some 13) (v := ?_) (a' := ?_) #[true, true, true, true, true, false, false, false, true] rfl rfl (by kernel_rfl) (fun _ _ _ h => h) (Or.inl ⟨by rfl, ?_⟩) hHeld ?_ ?_
  rotate_left
  · rintro w' ⟨s0, s1⟩
    go_simp
    with_reducible rfl
  rotate_left
  · simp only [Act.put, List.setIfInBounds_toArray, List.set_cons_zero, List.set_cons_succ, i64_w, i32_w]
    rfl
  refine one_ (i := 5) (N := some 15) #[true, true, true, true, true, true, false, false, true] rfl rfl (by kernel_rfl) (by decide) (fun K hK => ?_)
  refine goes_ Try.func20 (by kernel_rfl) rfl #[.slice A l.length c] (by rfl) rfl rfl (by simp only [List.map_toArray, List.map_cons, List.map_nil]; rfl) ?_
  with_reducible refine (Sum.digest_any A c l _ (by rw [hHeld.1]; exact KD.out) hn KL.out).mono ?_
  rintro e w3 ⟨rfl, rfl⟩
  refine ⟨_, rfl, ?_⟩
  refine hK.out _ _ ⟨hHeld.1, hHeld.2⟩ (fun hHeld => ?_)
  clear hK K
  refine norm_ (a' := ?_) ?_ ?_
  rotate_left
  · show Act.put _ (some 15) _ = _
    simp only [Act.put, List.setIfInBounds_toArray, List.set_cons_zero, List.set_cons_succ, i64_w, i32_w]
    rfl
  refine take_ (i := 6) (N := some 16) (v := .slice Av zs.length cv) (a' := ?_) #[true, true, true, true, true, true, true, false, true] rfl rfl (by kernel_rfl) (fun _ _ _ h => h) (Or.inl ⟨by rfl, ?_⟩) hHeld ?_ ?_
  · rintro w' ⟨s0, s1⟩
    subst s0
    exact exec_lookup 91 (Operand.tmp 13) (Operand.tmp 15) (by rfl) b (.int .u64 (hd l : Nat)) _ (by rfl) (by rfl) KRun.out
  rotate_left
  · simp only [Act.put, List.setIfInBounds_toArray, List.set_cons_zero, List.set_cons_succ, i64_w, i32_w]
    rfl
  refine pure_ (i := 7) (N := some 17) (v := ?_) (a' := ?_) #[true, true, true, true, true, true, true, true, true] rfl rfl (by kernel_rfl) (fun _ _ _ h => h) (Or.inl ⟨by rfl, ?_⟩) ?_ ?_
  rotate_left
  · intro w'
    go_simp
    with_reducible rfl
  rotate_left
  · simp only [Act.put, List.setIfInBounds_toArray, List.set_cons_zero, List.set_cons_succ, i64_w, i32_w]
    rfl
  refine done_ (by kernel_rfl) ?_
  have KC0 := Aside0.mk hc0
  clear hHeld hc1
  go_wp2
  go_loop [18] (fun j => ∃ k : Nat, k ≤ zs.length ∧ j = .int .i64 k ∧ Aside0 (∀ i, i < k → ∀ p : Nat, zs[i]? = some (p : Int) → xs[p]? ≠ some l)) (fun j => zs.length - (intOf j).toNat)
  case atStart => exact ⟨0, by omega, rfl, ⟨fun i hi => by omega⟩⟩
  case round =>
    obtain ⟨k, hk, rfl, HN⟩ := hrel
    by_cases hlt : k < zs.length
    · obtain ⟨ad, e, hx1⟩ := Kd.at_int KV.out (k : Int) (by omega) (by omega)
      cases e
      obtain ⟨p, x, hp, hxp, hdx⟩ : ∃ (p : Nat) (x : List Int), zs[k] = (p : Int) ∧ xs[p]? = some x ∧ hd x = hd l := by
        have h := List.getElem_mem hlt
        have h2 := KZ.out
        have h3 : zs[k] ∈ idx xs (hd l) := by rw [← h2]; exact h
        exact mem_idx.1 h3
      have hrd : rd zs (k : Int) = (p : Int) := by
        unfold rd
        rw [Int.toNat_natCast, List.getD_eq_getElem?_getD, List.getElem?_eq_getElem hlt]
        exact hp
      rw [hrd, Int.toNat_natCast] at hx1
      have hpl : p < xs.length := (List.getElem?_eq_some_iff.1 hxp).1
      obtain ⟨r, cap, hv, -, -, -⟩ := Kd.S_form KS.out (by omega)
      injection hv with hA _ hc
      subst hA
      subst hc
      obtain ⟨cs, -, hM, hcc⟩ := Kd.S_get KS.out [] (p : Int) (by omega) (by omega)
      rw [Int.toNat_natCast] at hM hcc
      rw [show xs.getD p [] = x by rw [List.getD_eq_getElem?_getD, hxp]; rfl] at hM
      obtain ⟨v, rfl, hRx⟩ := hM
      obtain ⟨A2, c2, rfl, hle2, hCx⟩ := Kd.R_reads hRx
      have hcx : w.drew.cell? ⟨r, p, none⟩ = some (.slice A2 x.length c2) := by
        have h := hcc 0 _ rfl
        rw [add_plain] at h
        simpa [dB, Kd.slice] using h
      have hcy : w.drew.cell? ⟨g, 0, none⟩ = some (.slice (some ⟨r, 0, none⟩) xs.length c1) := KC0.out
      have KCx := Aside0.mk hCx
      have KXx := Aside0.mk (KX.out x (List.mem_of_getElem? hxp))
      have KP := Aside0.mk hp
      have KXP := Aside0.mk hxp
      clear hRx hcc hCx hrd hp hxp hdx
      by_cases hxl : x = l
      · have hdec : decide (x = l) = true := decide_eq_true hxl
        have KXL := Aside0.mk hxl
        clear hxl
        go_wp2_with (go_at_call 57; refine (equal_any A2 c2 x A c l _ KCx.out hle2 KD.out hlc KXx.out KL.out).mono ?_; rintro e w' ⟨rfl, rfl⟩)
        go_ret2
        exact ⟨Or.inl ⟨p, by rw [← KXL.out]; exact KXP.out, rfl⟩, 1, rfl⟩
      · have hdec : decide (x = l) = false := decide_eq_false hxl
        have KXL := Aside0.mk hxl
        clear hxl
        go_wp2_with (go_at_call 57; refine (equal_any A2 c2 x A c l _ KCx.out hle2 KD.out hlc KXx.out KL.out).mono ?_; rintro e w' ⟨rfl, rfl⟩)
        go_round
        case rel =>
          refine ⟨k + 1, by omega, by go_num, ⟨fun i hi q hq => ?_⟩⟩
          by_cases hik : i < k
          · exact HN.out i hik q hq
          · obtain rfl : i = k := by omega
            rw [List.getElem?_eq_getElem hlt, KP.out] at hq
            have : q = p := by
              have := Option.some.inj hq
              omega
            subst this
            rw [KXP.out]
            intro h
            exact KXL.out (Option.some.inj h)
        case measure => simp [intOf]; omega
    · go_wp2
      go_ret2
      refine ⟨Or.inr ⟨fun hm => ?_, rfl⟩, 1, rfl⟩
      obtain ⟨p, hp⟩ := List.mem_iff_getElem?.1 hm
      have h2 : (p : Int) ∈ zs := by rw [KZ.out]; exact mem_idx.2 ⟨p, l, rfl, hp, rfl⟩
      obtain ⟨i, hi⟩ := List.mem_iff_getElem?.1 h2
      exact HN.out i (by have := (List.getElem?_eq_some_iff.1 hi).1; omega) p hi hp
end Go.Proofs.Ytgadcnlcldjhpaa.Pool
