/- Contents one by one: the law's walk. -/
import Derived.Test.YtgadcnlcldjhpaaPool9
import Derived.OpenShut
set_option linter.unusedVariables false
set_option linter.unusedSimpArgs false
namespace Go.Proofs.Ytgadcnlcldjhpaa
open Go.RowKit Go.Proofs.YtgadcnlcldjhpaaW.PrintWords Go.Proofs.YtgadcnlcldjhpaaW.PrintLast Go.Proofs.YtgadcnlcldjhpaaW.PrintMore
namespace PoolPlays
/-- What stands behind k contents. -/
def Inv (w0 : World) (g b : Nat) (k : Nat) (v : Value) (n : Nat) (wr : World) : Prop :=
  ∃ (Z : Nat → Prop) (xs : List (List Int)), Pool.St w0 g b Z v wr xs xs ∧ xs.length = n ∧ n ≤ k ∧ (xs.map List.length).sum ≤ 3000 * k
theorem exec_convert {o : Oper} {a : Act} {w : World} (s d : TypeId) (x : Operand) (ho : o.op = .convert s d x) (v u : Value) (hx : a.eval x = v) (hrun : (convert s d v).run Try.prog w = .ok u w) : (execOp a.eval o).run Try.prog w = .ok (.value u) w := by
  unfold execOp
  simp [ho, hx, hrun, Result.andThen]
theorem one_place {xs : List (List Int)} {p q : Nat} {l : List Int} (hnd : xs.Nodup) (h1 : xs[p]? = some l) (h2 : xs[q]? = some l) : p = q := by
  obtain ⟨a1, b1⟩ := List.getElem?_eq_some_iff.1 h1
  obtain ⟨a2, b2⟩ := List.getElem?_eq_some_iff.1 h2
  exact (List.getElem_inj (h₀ := a1) (h₁ := a2) hnd).1 (by rw [b1, b2])
theorem last_place {xs : List (List Int)} {p : Nat} {l : List Int} (h : (xs ++ [l])[p]? = some l) (hm : l ∉ xs) : p = xs.length := by
  obtain ⟨h1, h2⟩ := List.getElem?_eq_some_iff.1 h
  simp at h1
  by_cases hp : p < xs.length
  · rw [List.getElem_append_left hp] at h2
    exact absurd (by rw [← h2]; exact List.getElem_mem _) hm
  · omega
theorem mem_sum {x : List Int} : ∀ {xs : List (List Int)}, x ∈ xs → x.length ≤ (xs.map List.length).sum
  | [], h => by cases h
  | y :: ys, h => by
    rcases List.mem_cons.1 h with rfl | h
    · simp
    · have := mem_sum h
      simp
      omega
theorem byte_cell {W : World} {q j : Nat} {x : Int} (h : ∀ i u, [Value.int .u8 x][i]? = some u → W.cell? ⟨q, j * (Kd.int .u8).sz + i, none⟩ = some u) : W.cell? ⟨q, j, none⟩ = some (.int .u8 x) := by
  have h2 := h 0 _ rfl
  have e : j * (Kd.int .u8).sz + 0 = j := by simp [Kd.int, Kd.scalar]
  rw [e] at h2
  exact h2
theorem byte_frz {W : World} {q j : Nat} (h : ∀ i, W.frozen? ⟨q, j * (Kd.int .u8).sz + i, none⟩ = false) : W.frozen? ⟨q, j, none⟩ = false := by
  have h2 := h 0
  have e : j * (Kd.int .u8).sz + 0 = j := by simp [Kd.int, Kd.scalar]
  rw [e] at h2
  exact h2
set_option maxHeartbeats 8000000 in
set_option maxRecDepth 100000 in
theorem walk (w : World) (A0 : Option Addr) (c0 : Nat) (l0 : List (List Int)) (r0 : Kd.C (Kd.slice 5 (Kd.int .u8)) w A0 l0.length l0) (k0 : l0.length ≤ c0) (g0 : ∀ v ∈ l0, (fun xs => (∀ v ∈ xs, (fun n : Int => (Lit.int .u8 n).wf = true) v) ∧ xs.length * 1 ≤ 140737488351232) v) (m0 : l0.length * 24 ≤ 140737488351232) (A1 : Option Addr) (c1 : Nat) (l1 : List Int) (r1 : Kd.C (Kd.int .u8) w A1 l1.length l1) (k1 : l1.length ≤ c1) (g1 : ∀ v ∈ l1, (fun n : Int => (Lit.int .u8 n).wf = true) v) (m1 : l1.length * 1 ≤ 140737488351232) (a2 : Int) (w2 : (Lit.int .i64 a2).wf = true) :
    Calls Try.prog 13 #[.slice A0 l0.length c0, .slice A1 l1.length c1, .int .i64 a2] w fun e w' => e = .returned (.bool true) ∧ Below w.heap.size w w' := by
  have KR := Aside0.mk r0
  have KR1 := Aside0.mk r1
  have KG : Aside0 (∀ x ∈ l0, ∀ y ∈ x, 0 ≤ y ∧ y < 256) := ⟨fun x hx y hy => by have h := Go.bounds_u8 ((g0 x hx).1 y hy); omega⟩
  have KG1 : Aside0 (∀ y ∈ l1, 0 ≤ y ∧ y < 256) := ⟨fun y hy => by have h := Go.bounds_u8 (g1 y hy); omega⟩
  clear g0 g1 r0 r1 w2
  by_cases hb : Pool.bigB l0 = true
  · go_enter Try.func13, Try.ntmps13
    go_wp2_with (first | (go_at_call 40; refine (Pool.big_any _ _ _ _ KR.out).mono ?_; rintro e w' ⟨rfl, rfl⟩) | (go_at_call 41; refine (Pool.live_any _).mono ?_; rintro e w' ⟨rfl, hbel⟩))
    go_ret
    exact ⟨rfl, hbel⟩
  have hb : Pool.bigB l0 = false := by simpa using hb
  by_cases hx3 : 3000 < l1.length
  · go_enter Try.func13, Try.ntmps13
    go_wp2_with (first | (go_at_call 40; refine (Pool.big_any _ _ _ _ KR.out).mono ?_; rintro e w' ⟨rfl, rfl⟩) | (go_at_call 41; refine (Pool.live_any _).mono ?_; rintro e w' ⟨rfl, hbel⟩))
    go_ret
    exact ⟨rfl, hbel⟩
  have hlen : l0.length ≤ 100 ∧ ∀ x ∈ l0, x.length ≤ 3000 := by
    simp only [Pool.bigB, Bool.or_eq_false_iff, decide_eq_false_iff_not, List.any_eq_false, decide_eq_true_eq] at hb
    exact ⟨by omega, fun x hx => by have := hb.2 x hx; omega⟩
  have hl100 := hlen.1
  have KL := Aside0.mk hlen.2
  clear hlen
  obtain ⟨g, hg⟩ : ∃ g, g = w.heap.size + 1 := ⟨_, rfl⟩
  obtain ⟨b, hb'⟩ : ∃ b, b = w.heap.size := ⟨_, rfl⟩
  have hnew : Calls Try.prog 42 #[] w fun e w' => e = .returned (.pointer (some ⟨g, 0, none⟩)) ∧ Pool.PS w w.heap.size g b (fun k => k ≠ g ∧ k ≠ b) w' [] := by
    rw [hg, hb']
    exact Pool.new_any w
  have KNew := Aside0.mk hnew
  clear hg hb' hnew
  go_enter Try.func13, Try.ntmps13
  go_wp2_with (first | (go_at_call 40; refine (Pool.big_any _ _ _ _ KR.out).mono ?_; rintro e w' ⟨rfl, rfl⟩) | (go_at_call 42; refine KNew.out.mono ?_; rintro e w1 ⟨rfl, H1⟩; have K1 := Aside0.mk H1; clear H1))
  go_loopw [8, 9] (fun v i wr => ∃ (k n : Nat) (A : Option Addr) (c : Nat), k ≤ l0.length ∧ i = .int .i64 k ∧ v = .slice A n c ∧ Aside0 (Inv w g b k (.slice A n c) n wr)) (fun _ i _ => l0.length - (intOf i).toNat)
  case atStart => exact ⟨0, 0, none, 0, by omega, rfl, rfl, ⟨fun _ => False, [], ⟨Pool.PS_wide K1.out (fun q hq => ⟨hq, id⟩), Kd.R_nil _ _ _ _ _, fun _ h => h.elim⟩, rfl, by simp, by simp⟩⟩
  case round =>
    obtain ⟨k, n, A, c, hk, rfl, rfl, HI⟩ := hrel
    by_cases hlt : k < l0.length
    · obtain ⟨Z, xs, hS, hxl, hxk, hxs⟩ := HI.out
      subst hxl
      have hlts := Pool.St_lt hS
      obtain ⟨ad, A2, c2, hA, hc, hc1, hC⟩ := Pool.at_cell KR.out k hlt
      subst hA
      obtain ⟨l, hl⟩ : ∃ l, l0[k] = l := ⟨_, rfl⟩
      rw [hl] at hc hc1 hC
      have hcr := pw_cell_below (below_alloc (Below.refl wr.heap.size wr) (.cells #[] 5)) (pw_cell_below hlts.2.2.1 hc)
      have hlb := KG.out l (by rw [← hl]; exact List.getElem_mem hlt)
      have hl3 := KL.out l (by rw [← hl]; exact List.getElem_mem hlt)
      have KS := Aside0.mk hS
      have KC := Aside0.mk hC
      have Kxs := Aside0.mk hxs
      have Klb := Aside0.mk hlb
      have hsz0 := hlts.2.2.2
      have KBw := Aside0.mk hlts.2.2.1
      have Kcell := Aside0.mk hc
      have KCr := Aside0.mk (Kd.C_alloc (Kd.C_below hC hlts.2.2.1) (.cells #[] 5))
      clear hS hC hxs hlb hlts hl hc HI
      by_cases hm : l ∈ xs
      · go_wp2_with (first | ((with_reducible refine gate_builtin (b := .append) (xs := #[.tmp 45, .tmp 49]) rfl ?_); refine Row.app_rows (w0 := wr) wr.heap.size rfl (.tmp 45) (.tmp 49) rfl (.slice (some ⟨wr.heap.size, 0, none⟩) 0 0) [] l A2 l.length c2 rfl rfl (Row.OwnB.lit wr wr.heap.size #[] [] rfl (Nat.le_refl _) (by decide)) KCr.out (below_alloc (Below.refl _ _) _) (by simp) (by simp; omega) ?_; intro zs A3 c3 w3 hz3 ho3 hlz3 hlz3' hc3 hr3 hb3 hs3 hg3 ha3; clear hr3 hs3 hg3 ha3; have hz : zs = l := (by rw [hz3.out, List.nil_append]); have KSC := Aside0.mk (Pool.St_row KS.out hb3.out ho3.out); subst hz; clear ho3 hlz3 hlz3' hz3) | (go_at_call 43; refine (Pool.add_copy KSC.out Klb.out (by omega) (by omega) (by have := Kxs.out; omega)).mono ?_; rintro e w4 ⟨p, fresh, ys, rfl, hp, hcc, hS4, hsz4⟩; have hcc := hcc.resolve_right (fun h => h.1 hm); obtain ⟨-, rfl, rfl⟩ := hcc; have KS4 := Aside0.mk hS4; have KB4 := Aside0.mk (Pool.PS_lt hS4.1).2.2.1; have Kp := Aside0.mk hp; have hcr4 : w4.cell? (ad.add k) = some (.slice A2 zs.length c2) := pw_cell_below KB4.out Kcell.out; clear hS4 hp) | (go_at_call 46; refine (Pool.ref_add_old A c ys A2 c2 zs w4 (Kd.R_reads' KS4.out.2.1).2.2 (Kd.C_below KC.out KB4.out) (Pool.PS_facts KS4.out.1).2.2.2.2 Klb.out (by omega) hm).mono ?_; rintro e w5 ⟨p', hp', rfl, k5, hk5⟩; have hpp := one_place (Pool.PS_facts KS4.out.1).2.2.2.1 hp' Kp.out; subst hpp; have KS5 := Aside0.mk (Pool.StC_below KS4.out (show Below w4.heap.size w4 w5 by rw [hk5]; exact pw_below_drewN (Below.refl _ _) _)); clear hp' hk5) | (go_at_call 44; refine (Pool.num_any _ _).mono ?_; rintro e w' ⟨rfl, rfl⟩))
        obtain ⟨Z9, K9⟩ : ∃ Z9, Aside0 (Pool.StC w g b Z9 (.slice A ys.length c) (.slice A3 zs.length c3) w5 ys ys zs) := ⟨_, KS5⟩
        have Kfin : Aside0 ((ys).length ≤ k + 1 ∧ ((ys).map List.length).sum ≤ 3000 * (k + 1)) := ⟨by have h := Kxs.out; exact ⟨by omega, by omega⟩⟩
        go_loopw [18] (fun i wr => ∃ j : Nat, j ≤ zs.length ∧ i = .int .i64 j ∧ Aside0 (∃ cs, Pool.StC w g b Z9 (.slice A ys.length c) (.slice A3 zs.length c3) wr ys ys cs)) (fun i _ => zs.length - (intOf i).toNat)
        case atStart => exact ⟨0, by omega, rfl, ⟨zs, K9.out⟩⟩
        case round =>
          obtain ⟨j, hj, rfl, HC⟩ := hrel
          by_cases hltj : j < zs.length
          · obtain ⟨cs, hSC⟩ := HC.out
            have hlcs := (Kd.R_reads' hSC.2.2.2).1
            obtain ⟨q, cap, hv, -, -, -⟩ := Kd.R_form hSC.2.2.2 (by omega)
            injection hv with hA3 _ _
            subst hA3
            obtain ⟨cc, -, hM, hcc, hfz⟩ := Kd.R_elem hSC.2.2.2 (0 : Int) (j : Int) (by omega) (by omega)
            rw [Int.toNat_natCast] at hM hcc hfz
            have hM2 : cc = [.int .u8 (cs.getD j 0)] := hM
            subst hM2
            obtain ⟨x, hxx⟩ : ∃ x, x = cs.getD j 0 := ⟨_, rfl⟩
            have hcj := byte_cell hcc
            have hfj := byte_frz hfz
            rw [← hxx] at hcj
            have KSC9 := Aside0.mk hSC
            clear hSC hcc hfz hM hxx HC hlcs
            go_wp2
            go_round
            case rel => exact ⟨j + 1, by omega, by go_num, ⟨_, Pool.StC_put KSC9.out j _⟩⟩
            case measure => simp [intOf]; omega
          · obtain ⟨cs, hSC⟩ := HC.out
            have hcC := (Kd.R_reads' hSC.2.1).2.2
            have hSl := Kfin.out
            have KSC9 := Aside0.mk hSC
            have KcC := Aside0.mk hcC
            have KBy := Aside0.mk (Pool.bytes_any _ hSC.1)
            have KRB := Aside0.mk (Pool.ref_bytes _ c _ _ hcC (by omega) (by omega))
            have KLe := Aside0.mk (Pool.len_any _ hSC.1)
            obtain ⟨ts, hts⟩ : ∃ ts, ts = ((ys).map List.length).sum := ⟨_, rfl⟩
            rw [← hts] at KBy KRB
            clear hSC hcC HC hSl hts
            go_wp2_with (first | (go_at_call 44; refine (Pool.num_any _ _).mono ?_; rintro e w' ⟨rfl, rfl⟩) | (go_at_call 47; refine KLe.out.mono ?_; rintro e w' ⟨rfl, rfl⟩) | (go_at_call 48; refine KBy.out.mono ?_; rintro e w' ⟨rfl, rfl⟩) | (go_at_call 49; refine KRB.out.mono ?_; rintro e w' ⟨rfl, rfl⟩))
            go_round
            case rel => exact ⟨k + 1, _, _, _, by omega, by go_num, rfl, ⟨Z9, ys, Pool.StC_St KSC9.out, rfl, by have := Kfin.out.1; omega, Kfin.out.2⟩⟩
            case measure => simp [intOf]; omega
      · go_wp2_with (first | ((with_reducible refine gate_builtin (b := .append) (xs := #[.tmp 45, .tmp 49]) rfl ?_); refine Row.app_rows (w0 := wr) wr.heap.size rfl (.tmp 45) (.tmp 49) rfl (.slice (some ⟨wr.heap.size, 0, none⟩) 0 0) [] l A2 l.length c2 rfl rfl (Row.OwnB.lit wr wr.heap.size #[] [] rfl (Nat.le_refl _) (by decide)) KCr.out (below_alloc (Below.refl _ _) _) (by simp) (by simp; omega) ?_; intro zs A3 c3 w3 hz3 ho3 hlz3 hlz3' hc3 hr3 hb3 hs3 hg3 ha3; clear hr3 hs3 hg3 ha3; have hz : zs = l := (by rw [hz3.out, List.nil_append]); have KSC := Aside0.mk (Pool.St_row KS.out hb3.out ho3.out); subst hz; clear ho3 hlz3 hlz3' hz3) | (go_at_call 43; refine (Pool.add_copy KSC.out Klb.out (by omega) (by omega) (by have := Kxs.out; omega)).mono ?_; rintro e w4 ⟨p, fresh, ys, rfl, hp, hcc, hS4, hsz4⟩; have hcc := hcc.resolve_left (fun h => hm h.1); obtain ⟨-, rfl, rfl⟩ := hcc; have KS4 := Aside0.mk hS4; have KB4 := Aside0.mk (Pool.PS_lt hS4.1).2.2.1; have Kp := Aside0.mk hp; have hcr4 : w4.cell? (ad.add k) = some (.slice A2 zs.length c2) := pw_cell_below KB4.out Kcell.out; clear hS4 hp) | (go_at_call 46; refine (Pool.ref_add_new w w.heap.size A c xs Z A2 c2 zs w4 KS4.out.2.1 (fun q hq => (KS4.out.2.2.1 q hq).1.1) (Kd.C_below KC.out KB4.out) (fun x hx => (Pool.PS_facts KS4.out.1).2.2.2.2 x (List.mem_append_left _ hx)) Klb.out (by omega) hm (by have := Kxs.out; omega) KB4.out (Pool.PS_lt KS4.out.1).2.2.2).mono ?_; rintro e w5 ⟨A5, c5, rfl, hR5, hB5, hL5⟩; obtain ⟨n5, hn5⟩ : ∃ n5, n5 = xs.length + 1 := ⟨_, rfl⟩; rw [← hn5] at hR5 ⊢; have Kn5 : Aside0 ((xs ++ [zs]).length = n5) := ⟨by rw [hn5]; simp⟩; clear hn5; have hpp := last_place Kp.out hm; subst hpp; have KS5 := Aside0.mk (Pool.StC_ref KS4.out hL5 hR5); clear hR5 hB5 hL5) | (go_at_call 44; refine (Pool.num_any _ _).mono ?_; rintro e w' ⟨rfl, rfl⟩))
        obtain ⟨Z9, K9⟩ : ∃ Z9, Aside0 (Pool.StC w g b Z9 (.slice A5 n5 c5) (.slice A3 zs.length c3) w5 (xs ++ [zs]) (xs ++ [zs]) zs) := ⟨_, KS5⟩
        have Kfin : Aside0 (((xs ++ [zs])).length ≤ k + 1 ∧ (((xs ++ [zs])).map List.length).sum ≤ 3000 * (k + 1)) := ⟨by have h := Kxs.out; simp; omega⟩
        go_loopw [18] (fun i wr => ∃ j : Nat, j ≤ zs.length ∧ i = .int .i64 j ∧ Aside0 (∃ cs, Pool.StC w g b Z9 (.slice A5 n5 c5) (.slice A3 zs.length c3) wr (xs ++ [zs]) (xs ++ [zs]) cs)) (fun i _ => zs.length - (intOf i).toNat)
        case atStart => exact ⟨0, by omega, rfl, ⟨zs, K9.out⟩⟩
        case round =>
          obtain ⟨j, hj, rfl, HC⟩ := hrel
          by_cases hltj : j < zs.length
          · obtain ⟨cs, hSC⟩ := HC.out
            have hlcs := (Kd.R_reads' hSC.2.2.2).1
            obtain ⟨q, cap, hv, -, -, -⟩ := Kd.R_form hSC.2.2.2 (by omega)
            injection hv with hA3 _ _
            subst hA3
            obtain ⟨cc, -, hM, hcc, hfz⟩ := Kd.R_elem hSC.2.2.2 (0 : Int) (j : Int) (by omega) (by omega)
            rw [Int.toNat_natCast] at hM hcc hfz
            have hM2 : cc = [.int .u8 (cs.getD j 0)] := hM
            subst hM2
            obtain ⟨x, hxx⟩ : ∃ x, x = cs.getD j 0 := ⟨_, rfl⟩
            have hcj := byte_cell hcc
            have hfj := byte_frz hfz
            rw [← hxx] at hcj
            have KSC9 := Aside0.mk hSC
            clear hSC hcc hfz hM hxx HC hlcs
            go_wp2
            go_round
            case rel => exact ⟨j + 1, by omega, by go_num, ⟨_, Pool.StC_put KSC9.out j _⟩⟩
            case measure => simp [intOf]; omega
          · obtain ⟨cs, hSC⟩ := HC.out
            have hcC := (Kd.R_reads' hSC.2.1).2.2
            have hSl := Kfin.out
            have KSC9 := Aside0.mk hSC
            have KcC := Aside0.mk hcC
            have KBy := Aside0.mk (Pool.bytes_any _ hSC.1)
            have KRB := Aside0.mk (Pool.ref_bytes _ c5 _ _ hcC (by omega) (by omega))
            have KLe := Aside0.mk (Pool.len_any _ hSC.1)
            obtain ⟨ts, hts⟩ : ∃ ts, ts = (((xs ++ [zs])).map List.length).sum := ⟨_, rfl⟩
            rw [← hts] at KBy KRB
            rw [Kn5.out] at KRB KLe
            clear hSC hcC HC hSl hts
            go_wp2_with (first | (go_at_call 44; refine (Pool.num_any _ _).mono ?_; rintro e w' ⟨rfl, rfl⟩) | (go_at_call 47; refine KLe.out.mono ?_; rintro e w' ⟨rfl, rfl⟩) | (go_at_call 48; refine KBy.out.mono ?_; rintro e w' ⟨rfl, rfl⟩) | (go_at_call 49; refine KRB.out.mono ?_; rintro e w' ⟨rfl, rfl⟩))
            go_round
            case rel => exact ⟨k + 1, _, _, _, by omega, by go_num, rfl, ⟨Z9, (xs ++ [zs]), Pool.StC_St KSC9.out, Kn5.out, by rw [← Kn5.out]; exact Kfin.out.1, Kfin.out.2⟩⟩
            case measure => simp [intOf]; omega
    · obtain ⟨Z, xs, hS, hxl, hxk, hxs⟩ := HI.out
      subst hxl
      have hlts := Pool.St_lt hS
      have KC1 := Aside0.mk (Kd.C_below KR1.out hlts.2.2.1)
      have hF := Pool.find_any w w.heap.size g b xs A1 c1 l1 _ wr hS.1 KC1.out k1 KG1.out (by omega) (by omega)
      have hRF := fun (q : Nat) => Pool.ref_find A c xs A1 c1 l1 (wr.drewN q) (Kd.C_drewN (Kd.R_reads' hS.2.1).2.2 q) (Kd.C_drewN KC1.out q) (Pool.PS_facts hS.1).2.2.2.2 KG1.out (by omega)
      have KF := Aside0.mk hF
      have KRF := fun (q : Nat) => Aside0.mk (hRF q)
      have KS := Aside0.mk hS
      have hx100 : xs.length ≤ 100 := by omega
      have Kmx : Aside0 (∀ x ∈ xs, x.length ≤ 300000) := ⟨fun x hx => by have := mem_sum hx; omega⟩
      have KSq := fun (q : Nat) => Aside0.mk (Pool.St_below hS (pw_below_drewN (Below.refl wr.heap.size wr) q))
      have KND := Aside0.mk (Pool.PS_facts hS.1).2.2.2.1
      clear hS hF hRF hxs hlts HI KR KG
      by_cases hm : l1 ∈ xs
      · rcases (show a2 < 0 ∨ (0 ≤ a2 ∧ (xs.length : Int) ≤ a2) ∨ (0 ≤ a2 ∧ a2 < xs.length) by omega) with ha | ⟨ha0, ha1⟩ | ⟨ha0, ha1⟩
        · go_wp2_with (first | (go_at_call 50; refine KF.out.mono ?_; rintro e w3 ⟨h, k3, rfl⟩; have h := h.resolve_right (fun h => h.1 hm); obtain ⟨p, hp, rfl⟩ := h; have Kp := Aside0.mk hp; clear hp) | (go_at_call 51; refine (KRF _).out.mono ?_; rintro e w4 ⟨h, k4, rfl⟩; have h := h.resolve_right (fun h => h.1 hm); obtain ⟨p2, hp2, rfl⟩ := h; have hpp := one_place KND.out hp2 Kp.out; subst hpp; have KS4 := KSq (k3 + k4); clear hp2) | (go_at_call 45; refine (Pool.at_err w w.heap.size g b xs _ _ KS4.out.1 a2 (by omega)).mono ?_; rintro e w5 ⟨rfl, rfl⟩; have hw5 := Pool.St_lt KS4.out; have Kw5 := Aside0.mk hw5.2.2.1; have hsz5 := hw5.2.2.2; clear hw5) | (go_at_call 44; refine (Pool.num_any _ _).mono ?_; rintro e w' ⟨rfl, rfl⟩) | (go_at_call 41; refine (Pool.live_any _).mono ?_; rintro e w' ⟨rfl, hbel⟩))
          go_ret
          exact ⟨rfl, below_then Kw5.out hsz5 hbel⟩
        · go_wp2_with (first | (go_at_call 50; refine KF.out.mono ?_; rintro e w3 ⟨h, k3, rfl⟩; have h := h.resolve_right (fun h => h.1 hm); obtain ⟨p, hp, rfl⟩ := h; have Kp := Aside0.mk hp; clear hp) | (go_at_call 51; refine (KRF _).out.mono ?_; rintro e w4 ⟨h, k4, rfl⟩; have h := h.resolve_right (fun h => h.1 hm); obtain ⟨p2, hp2, rfl⟩ := h; have hpp := one_place KND.out hp2 Kp.out; subst hpp; have KS4 := KSq (k3 + k4); clear hp2) | (go_at_call 45; refine (Pool.at_err w w.heap.size g b xs _ _ KS4.out.1 a2 (by omega)).mono ?_; rintro e w5 ⟨rfl, rfl⟩; have hw5 := Pool.St_lt KS4.out; have Kw5 := Aside0.mk hw5.2.2.1; have hsz5 := hw5.2.2.2; clear hw5) | (go_at_call 44; refine (Pool.num_any _ _).mono ?_; rintro e w' ⟨rfl, rfl⟩) | (go_at_call 41; refine (Pool.live_any _).mono ?_; rintro e w' ⟨rfl, hbel⟩))
          go_ret
          exact ⟨rfl, below_then Kw5.out hsz5 hbel⟩
        · obtain ⟨at_, rfl⟩ := Int.eq_ofNat_of_zero_le ha0
          have hat : at_ < xs.length := by omega
          obtain ⟨x, hxx⟩ : ∃ x, xs[at_]? = some x := ⟨_, List.getElem?_eq_getElem hat⟩
          have hx3 := Kmx.out x (List.mem_of_getElem? hxx)
          have Kxx := Aside0.mk hxx
          clear hxx
          go_wp2_with (first | (go_at_call 50; refine KF.out.mono ?_; rintro e w3 ⟨h, k3, rfl⟩; have h := h.resolve_right (fun h => h.1 hm); obtain ⟨p, hp, rfl⟩ := h; have Kp := Aside0.mk hp; clear hp) | (go_at_call 51; refine (KRF _).out.mono ?_; rintro e w4 ⟨h, k4, rfl⟩; have h := h.resolve_right (fun h => h.1 hm); obtain ⟨p2, hp2, rfl⟩ := h; have hpp := one_place KND.out hp2 Kp.out; subst hpp; have KS4 := KSq (k3 + k4); clear hp2) | (go_at_call 45; refine (Pool.at_ok w w.heap.size g b xs _ _ KS4.out.1 (by omega) at_ x Kxx.out (by omega)).mono ?_; rintro e w5 ⟨rfl, hh5, hb5⟩; have K5 := Aside0.mk (Pool.St_row KS4.out hb5 (Kd.R_mono (Pool.own_new hh5 (Nat.le_refl _) (by omega)) (fun _ _ => trivial))); have Kh5 := Aside0.mk hh5; clear hh5 hb5))
          obtain ⟨adx, Ax, cx, hAx, hcx, hcx1, hCx⟩ := Pool.at_cell (Kd.R_reads' K5.out.2.1).2.2 at_ hat
          subst hAx
          have hxe : xs[at_] = x := Option.some.inj ((List.getElem?_eq_getElem hat).symm.trans Kxx.out)
          rw [hxe] at hcx hcx1 hCx
          have Ks1 := Aside0.mk (Kd.C_string (P := Try.prog) (c := x.length) Try.underlying25 Try.underlying5 Try.underlying9 (Kd.C_drew (Pool.cells_C (l := x) Kh5.out (by simp) (by omega))))
          have Ks2 := Aside0.mk (Kd.C_string (P := Try.prog) (c := cx) Try.underlying25 Try.underlying5 Try.underlying9 (Kd.C_drew hCx))
          clear hCx hxe
          refine start_ (n := 14) (S := fun w' => w'.cell? (adx.add at_) = some (.slice Ax x.length cx) ∧ w' = w5.drew) (ds := []) #[false, false, false, false, false, false, false, false, false, false, false, false, false, false] (by kernel_rfl) rfl rfl ⟨(show w5.cell? _ = _ from hcx), rfl⟩ (fun hHeld => ?_)
          refine pure_ (i := 0) (N := some 164) (v := ?_) (a' := ?_) #[true, false, false, false, false, false, false, false, false, false, false, false, false, false] rfl rfl (by kernel_rfl) (fun _ _ _ h => h) (Or.inl ⟨by rfl, ?_⟩) ?_ ?_
          rotate_left
          · intro w'
            go_simp
            with_reducible rfl
          rotate_left
          · simp only [Act.put, List.setIfInBounds_toArray, List.set_cons_zero, List.set_cons_succ, i64_w, i32_w]
            rfl
          refine one_ (i := 1) (N := some 165) #[true, true, false, false, false, false, false, false, false, false, false, false, false, false] rfl rfl (by kernel_rfl) (by decide) (fun K hK => ?_)
          refine goes_ Try.func44 (by kernel_rfl) rfl #[.int .i64 0] (by rfl) rfl rfl (by simp only [List.map_toArray, List.map_cons, List.map_nil]; rfl) ?_
          with_reducible refine (Pool.num_any 0 _).mono ?_
          rintro e w6 ⟨rfl, rfl⟩
          refine ⟨_, rfl, ?_⟩
          refine hK.out _ _ ⟨hHeld.1, hHeld.2⟩ (fun hHeld => ?_)
          clear hK K
          refine norm_ (a' := ?_) ?_ ?_
          rotate_left
          · show Act.put _ (some 165) _ = _
            simp only [Act.put, List.setIfInBounds_toArray, List.set_cons_zero, List.set_cons_succ, i64_w, i32_w]
            rfl
          refine pure_ (i := 2) (N := some 166) (v := ?_) (a' := ?_) #[true, true, true, false, false, false, false, false, false, false, false, false, false, false] rfl rfl (by kernel_rfl) (fun _ _ _ h => h) (Or.inl ⟨by rfl, ?_⟩) ?_ ?_
          rotate_left
          · intro w'
            go_simp
            with_reducible rfl
          rotate_left
          · simp only [Act.put, List.setIfInBounds_toArray, List.set_cons_zero, List.set_cons_succ, i64_w, i32_w]
            rfl
          refine pure_ (i := 3) (N := some 167) (v := ?_) (a' := ?_) #[true, true, true, true, false, false, false, false, false, false, false, false, false, false] rfl rfl (by kernel_rfl) (fun _ _ _ h => h) (Or.inl ⟨by rfl, ?_⟩) ?_ ?_
          rotate_left
          · intro w'
            go_simp
            with_reducible rfl
          rotate_left
          · simp only [Act.put, List.setIfInBounds_toArray, List.set_cons_zero, List.set_cons_succ, i64_w, i32_w]
            rfl
          refine pure_ (i := 4) (N := some 168) (v := ?_) (a' := ?_) #[true, true, true, true, true, false, false, false, false, false, false, false, false, false] rfl rfl (by kernel_rfl) (fun _ _ _ h => h) (Or.inl ⟨by rfl, ?_⟩) ?_ ?_
          rotate_left
          · intro w'
            go_simp
            with_reducible rfl
          rotate_left
          · simp only [Act.put, List.setIfInBounds_toArray, List.set_cons_zero, List.set_cons_succ, i64_w, i32_w]
            rfl
          refine pure_ (i := 6) (N := some 170) (v := ?_) (a' := ?_) #[true, true, true, true, true, false, true, false, false, false, false, false, false, false] rfl rfl (by kernel_rfl) (fun _ _ _ h => h) (Or.inl ⟨by rfl, ?_⟩) ?_ ?_
          rotate_left
          · intro w'
            go_simp
            with_reducible rfl
          rotate_left
          · simp only [Act.put, List.setIfInBounds_toArray, List.set_cons_zero, List.set_cons_succ, i64_w, i32_w]
            rfl
          refine pure_ (i := 7) (N := some 171) (v := ?_) (a' := ?_) #[true, true, true, true, true, false, true, true, false, false, false, false, false, false] rfl rfl (by kernel_rfl) (fun _ _ _ h => h) (Or.inl ⟨by rfl, ?_⟩) ?_ ?_
          rotate_left
          · intro w'
            go_simp
            with_reducible rfl
          rotate_left
          · simp only [Act.put, List.setIfInBounds_toArray, List.set_cons_zero, List.set_cons_succ, i64_w, i32_w]
            rfl
          refine pure_ (i := 8) (N := some 172) (v := ?_) (a' := ?_) #[true, true, true, true, true, false, true, true, true, false, false, false, false, false] rfl rfl (by kernel_rfl) (fun _ _ _ h => h) (Or.inl ⟨by rfl, ?_⟩) ?_ ?_
          rotate_left
          · intro w'
            go_simp
            with_reducible rfl
          rotate_left
          · simp only [Act.put, List.setIfInBounds_toArray, List.set_cons_zero, List.set_cons_succ, i64_w, i32_w]
            rfl
          refine take_ (i := 5) (N := some 169) (v := .string (strOfNums x)) (a' := ?_) #[true, true, true, true, true, true, true, true, true, false, false, false, false, false] rfl rfl (by kernel_rfl) (fun _ _ _ h => h) (Or.inl ⟨by rfl, ?_⟩) hHeld ?_ ?_
          · rintro w' ⟨s0, s1⟩
            subst s1
            exact exec_convert 25 9 (Operand.tmp 168) (by rfl) _ _ (by rfl) Ks1.out
          rotate_left
          · simp only [Act.put, List.setIfInBounds_toArray, List.set_cons_zero, List.set_cons_succ, i64_w, i32_w]
            rfl
          refine take_ (i := 9) (N := some 173) (v := ?_) (a' := ?_) #[true, true, true, true, true, true, true, true, true, true, false, false, false, false] rfl rfl (by kernel_rfl) (fun _ _ _ h => h) (Or.inl ⟨by rfl, ?_⟩) hHeld ?_ ?_
          rotate_left
          · rintro w' ⟨s0, s1⟩
            go_simp
            with_reducible rfl
          rotate_left
          · simp only [Act.put, List.setIfInBounds_toArray, List.set_cons_zero, List.set_cons_succ, i64_w, i32_w]
            rfl
          refine take_ (i := 10) (N := some 174) (v := .string (strOfNums x)) (a' := ?_) #[true, true, true, true, true, true, true, true, true, true, true, false, false, false] rfl rfl (by kernel_rfl) (fun _ _ _ h => h) (Or.inl ⟨by rfl, ?_⟩) hHeld ?_ ?_
          · rintro w' ⟨s0, s1⟩
            subst s1
            exact exec_convert 25 9 (Operand.tmp 173) (by rfl) _ _ (by rfl) Ks2.out
          rotate_left
          · simp only [Act.put, List.setIfInBounds_toArray, List.set_cons_zero, List.set_cons_succ, i64_w, i32_w]
            rfl
          refine pure_ (i := 11) (N := some 175) (v := ?_) (a' := ?_) #[true, true, true, true, true, true, true, true, true, true, true, true, false, false] rfl rfl (by kernel_rfl) (fun _ _ _ h => h) (Or.inl ⟨by rfl, ?_⟩) ?_ ?_
          rotate_left
          · intro w'
            go_simp
            with_reducible rfl
          rotate_left
          · simp only [Act.put, List.setIfInBounds_toArray, List.set_cons_zero, List.set_cons_succ, i64_w, i32_w]
            rfl
          refine pure_ (i := 12) (N := some 176) (v := ?_) (a' := ?_) #[true, true, true, true, true, true, true, true, true, true, true, true, true, false] rfl rfl (by kernel_rfl) (fun _ _ _ h => h) (Or.inl ⟨by rfl, ?_⟩) ?_ ?_
          rotate_left
          · intro w'
            go_simp
            with_reducible rfl
          rotate_left
          · simp only [Act.put, List.setIfInBounds_toArray, List.set_cons_zero, List.set_cons_succ, i64_w, i32_w]
            rfl
          refine pure_ (i := 13) (N := some 24) (v := ?_) (a' := ?_) #[true, true, true, true, true, true, true, true, true, true, true, true, true, true] rfl rfl (by kernel_rfl) (fun _ _ _ h => h) (Or.inl ⟨by rfl, ?_⟩) ?_ ?_
          rotate_left
          · intro w'
            go_simp
            with_reducible rfl
          rotate_left
          · simp only [Act.put, List.setIfInBounds_toArray, List.set_cons_zero, List.set_cons_succ, i64_w, i32_w]
            rfl
          refine done_ (by kernel_rfl) ?_
          have K6 := Aside0.mk (Pool.StC_below K5.out (below_drew (Below.refl w5.heap.size w5)))
          clear hHeld Ks1 Ks2
          go_wp2
          go_loopw [25] (fun i wr2 => ∃ j : Nat, j ≤ x.length ∧ i = .int .i64 j ∧ Aside0 (∃ cs, Pool.StC w g b Z (.slice (some adx) xs.length c) (.slice (some ⟨wr.heap.size, 0, none⟩) x.length x.length) wr2 xs xs cs)) (fun i _ => x.length - (intOf i).toNat)
          case atStart => exact ⟨0, by omega, rfl, ⟨x, K6.out⟩⟩
          case round =>
            obtain ⟨j, hj, rfl, HC⟩ := hrel
            by_cases hltj : j < x.length
            · obtain ⟨cs, hSC⟩ := HC.out
              have hlcs := (Kd.R_reads' hSC.2.2.2).1
              obtain ⟨cc, -, hM, hcc, hfz⟩ := Kd.R_elem hSC.2.2.2 (0 : Int) (j : Int) (by omega) (by omega)
              rw [Int.toNat_natCast] at hM hcc hfz
              have hM2 : cc = [.int .u8 (cs.getD j 0)] := hM
              subst hM2
              obtain ⟨y, hyy⟩ : ∃ y, y = cs.getD j 0 := ⟨_, rfl⟩
              have hcj := byte_cell hcc
              have hfj := byte_frz hfz
              rw [← hyy] at hcj
              have KSC9 := Aside0.mk hSC
              clear hSC hcc hfz hM hyy HC hlcs
              go_wp2
              go_round
              case rel => exact ⟨j + 1, by omega, by go_num, ⟨_, Pool.StC_put KSC9.out j _⟩⟩
              case measure => simp [intOf]; omega
            · obtain ⟨cs, hSC⟩ := HC.out
              have KSC9 := Aside0.mk hSC
              clear hSC HC
              go_wp2_with (go_at_call 45; refine (Pool.at_ok w w.heap.size g b xs _ _ KSC9.out.1 (by omega) at_ x Kxx.out (by omega)).mono ?_; rintro e w7 ⟨rfl, hh7, hb7⟩; have K7 := Aside0.mk (Pool.StC_below KSC9.out hb7); have Kh7 := Aside0.mk hh7; clear hh7 hb7)
              obtain ⟨ady, Ay, cy, hAy, hcy, hcy1, hCy⟩ := Pool.at_cell (Kd.R_reads' K7.out.2.1).2.2 at_ hat
              injection hAy with hAy
              subst hAy
              have hxe : xs[at_] = x := Option.some.inj ((List.getElem?_eq_getElem hat).symm.trans Kxx.out)
              rw [hxe] at hcy hcy1 hCy
              have Ks1 := Aside0.mk (Kd.C_string (P := Try.prog) (c := x.length) Try.underlying25 Try.underlying5 Try.underlying9 (Kd.C_drew (Pool.cells_C (l := x) Kh7.out (by simp) (by omega))))
              have Ks2 := Aside0.mk (Kd.C_string (P := Try.prog) (c := cy) Try.underlying25 Try.underlying5 Try.underlying9 (Kd.C_drew hCy))
              have hw7 := Pool.PS_lt K7.out.1
              have Kw7 := Aside0.mk hw7.2.2.1
              have hsz7 := hw7.2.2.2
              clear hCy hxe hw7
              refine start_ (n := 15) (S := fun w' => w'.cell? (adx.add at_) = some (.slice Ay x.length cy) ∧ w' = w7.drew) (ds := [12]) #[false, false, false, false, false, false, false, false, false, false, false, false, false, false, false] (by kernel_rfl) rfl rfl ⟨(show w7.cell? _ = _ from hcy), rfl⟩ (fun hHeld => ?_)
              refine pure_ (i := 0) (N := some 195) (v := ?_) (a' := ?_) #[true, false, false, false, false, false, false, false, false, false, false, false, false, false, false] rfl rfl (by kernel_rfl) (fun _ _ _ h => h) (Or.inl ⟨by rfl, ?_⟩) ?_ ?_
              rotate_left
              · intro w'
                go_simp
                with_reducible rfl
              rotate_left
              · simp only [Act.put, List.setIfInBounds_toArray, List.set_cons_zero, List.set_cons_succ, i64_w, i32_w]
                rfl
              refine pure_ (i := 1) (N := some 196) (v := ?_) (a' := ?_) #[true, true, false, false, false, false, false, false, false, false, false, false, false, false, false] rfl rfl (by kernel_rfl) (fun _ _ _ h => h) (Or.inl ⟨by rfl, ?_⟩) ?_ ?_
              rotate_left
              · intro w'
                go_simp
                with_reducible rfl
              rotate_left
              · simp only [Act.put, List.setIfInBounds_toArray, List.set_cons_zero, List.set_cons_succ, i64_w, i32_w]
                rfl
              refine pure_ (i := 2) (N := some 197) (v := ?_) (a' := ?_) #[true, true, true, false, false, false, false, false, false, false, false, false, false, false, false] rfl rfl (by kernel_rfl) (fun _ _ _ h => h) (Or.inl ⟨by rfl, ?_⟩) ?_ ?_
              rotate_left
              · intro w'
                go_simp
                with_reducible rfl
              rotate_left
              · simp only [Act.put, List.setIfInBounds_toArray, List.set_cons_zero, List.set_cons_succ, i64_w, i32_w]
                rfl
              refine pure_ (i := 4) (N := some 199) (v := ?_) (a' := ?_) #[true, true, true, false, true, false, false, false, false, false, false, false, false, false, false] rfl rfl (by kernel_rfl) (fun _ _ _ h => h) (Or.inl ⟨by rfl, ?_⟩) ?_ ?_
              rotate_left
              · intro w'
                go_simp
                with_reducible rfl
              rotate_left
              · simp only [Act.put, List.setIfInBounds_toArray, List.set_cons_zero, List.set_cons_succ, i64_w, i32_w]
                rfl
              refine pure_ (i := 5) (N := some 200) (v := ?_) (a' := ?_) #[true, true, true, false, true, true, false, false, false, false, false, false, false, false, false] rfl rfl (by kernel_rfl) (fun _ _ _ h => h) (Or.inl ⟨by rfl, ?_⟩) ?_ ?_
              rotate_left
              · intro w'
                go_simp
                with_reducible rfl
              rotate_left
              · simp only [Act.put, List.setIfInBounds_toArray, List.set_cons_zero, List.set_cons_succ, i64_w, i32_w]
                rfl
              refine pure_ (i := 6) (N := some 201) (v := ?_) (a' := ?_) #[true, true, true, false, true, true, true, false, false, false, false, false, false, false, false] rfl rfl (by kernel_rfl) (fun _ _ _ h => h) (Or.inl ⟨by rfl, ?_⟩) ?_ ?_
              rotate_left
              · intro w'
                go_simp
                with_reducible rfl
              rotate_left
              · simp only [Act.put, List.setIfInBounds_toArray, List.set_cons_zero, List.set_cons_succ, i64_w, i32_w]
                rfl
              refine take_ (i := 3) (N := some 198) (v := .string (strOfNums x)) (a' := ?_) #[true, true, true, true, true, true, true, false, false, false, false, false, false, false, false] rfl rfl (by kernel_rfl) (fun _ _ _ h => h) (Or.inl ⟨by rfl, ?_⟩) hHeld ?_ ?_
              · rintro w' ⟨s0, s1⟩
                subst s1
                exact exec_convert 25 9 (Operand.tmp 197) (by rfl) _ _ (by rfl) Ks1.out
              rotate_left
              · simp only [Act.put, List.setIfInBounds_toArray, List.set_cons_zero, List.set_cons_succ, i64_w, i32_w]
                rfl
              refine take_ (i := 7) (N := some 202) (v := ?_) (a' := ?_) #[true, true, true, true, true, true, true, true, false, false, false, false, false, false, false] rfl rfl (by kernel_rfl) (fun _ _ _ h => h) (Or.inl ⟨by rfl, ?_⟩) hHeld ?_ ?_
              rotate_left
              · rintro w' ⟨s0, s1⟩
                go_simp
                with_reducible rfl
              rotate_left
              · simp only [Act.put, List.setIfInBounds_toArray, List.set_cons_zero, List.set_cons_succ, i64_w, i32_w]
                rfl
              refine take_ (i := 8) (N := some 203) (v := .string (strOfNums x)) (a' := ?_) #[true, true, true, true, true, true, true, true, true, false, false, false, false, false, false] rfl rfl (by kernel_rfl) (fun _ _ _ h => h) (Or.inl ⟨by rfl, ?_⟩) hHeld ?_ ?_
              · rintro w' ⟨s0, s1⟩
                subst s1
                exact exec_convert 25 9 (Operand.tmp 202) (by rfl) _ _ (by rfl) Ks2.out
              rotate_left
              · simp only [Act.put, List.setIfInBounds_toArray, List.set_cons_zero, List.set_cons_succ, i64_w, i32_w]
                rfl
              refine pure_ (i := 9) (N := some 204) (v := ?_) (a' := ?_) #[true, true, true, true, true, true, true, true, true, true, false, false, false, false, false] rfl rfl (by kernel_rfl) (fun _ _ _ h => h) (Or.inl ⟨by rfl, ?_⟩) ?_ ?_
              rotate_left
              · intro w'
                go_simp
                with_reducible rfl
              rotate_left
              · simp only [Act.put, List.setIfInBounds_toArray, List.set_cons_zero, List.set_cons_succ, i64_w, i32_w]
                rfl
              refine pure_ (i := 10) (N := some 205) (v := ?_) (a' := ?_) #[true, true, true, true, true, true, true, true, true, true, true, false, false, false, false] rfl rfl (by kernel_rfl) (fun _ _ _ h => h) (Or.inl ⟨by rfl, ?_⟩) ?_ ?_
              rotate_left
              · intro w'
                go_simp
                with_reducible rfl
              rotate_left
              · simp only [Act.put, List.setIfInBounds_toArray, List.set_cons_zero, List.set_cons_succ, i64_w, i32_w]
                rfl
              refine pure_ (i := 11) (N := some 206) (v := ?_) (a' := ?_) #[true, true, true, true, true, true, true, true, true, true, true, true, false, false, false] rfl rfl (by kernel_rfl) (fun _ _ _ h => h) (Or.inl ⟨by rfl, ?_⟩) ?_ ?_
              rotate_left
              · intro w'
                go_simp
                with_reducible rfl
              rotate_left
              · simp only [Act.put, List.setIfInBounds_toArray, List.set_cons_zero, List.set_cons_succ, i64_w, i32_w]
                rfl
              refine last_ (i := 12) (N := some 207) #[true, true, true, true, true, true, true, true, true, true, true, true, true, false, false] rfl rfl (by kernel_rfl) (by decide) (fun K hK => ?_)
              refine goes_ Try.func41 (by kernel_rfl) rfl #[] (by rfl) rfl rfl (by simp) ?_
              with_reducible refine (Pool.live_any _).mono ?_
              rintro e w8 ⟨rfl, hb8⟩
              refine ⟨_, rfl, ?_⟩
              refine hK.out _ _ ?_
              clear hK K
              refine norm_ (a' := ?_) ?_ ?_
              rotate_left
              · show Act.put _ (some 207) _ = _
                simp only [Act.put, List.setIfInBounds_toArray, List.set_cons_zero, List.set_cons_succ, i64_w, i32_w]
                rfl
              refine pure_ (i := 13) (N := some 208) (v := ?_) (a' := ?_) #[true, true, true, true, true, true, true, true, true, true, true, true, true, true, false] rfl rfl (by kernel_rfl) (fun _ _ _ h => h) (Or.inl ⟨by rfl, ?_⟩) ?_ ?_
              rotate_left
              · intro w'
                go_simp
                with_reducible rfl
              rotate_left
              · simp only [Act.put, List.setIfInBounds_toArray, List.set_cons_zero, List.set_cons_succ, i64_w, i32_w]
                rfl
              refine pure_ (i := 14) (N := some 6) (v := ?_) (a' := ?_) #[true, true, true, true, true, true, true, true, true, true, true, true, true, true, true] rfl rfl (by kernel_rfl) (fun _ _ _ h => h) (Or.inl ⟨by rfl, ?_⟩) ?_ ?_
              rotate_left
              · intro w'
                go_simp
                with_reducible rfl
              rotate_left
              · simp only [Act.put, List.setIfInBounds_toArray, List.set_cons_zero, List.set_cons_succ, i64_w, i32_w]
                rfl
              refine done_ (by kernel_rfl) ?_
              go_wp2
              go_ret
              exact ⟨rfl, below_then (below_drew Kw7.out) hsz7 hb8⟩
      · rcases (show a2 < 0 ∨ (0 ≤ a2 ∧ (xs.length : Int) ≤ a2) ∨ (0 ≤ a2 ∧ a2 < xs.length) by omega) with ha | ⟨ha0, ha1⟩ | ⟨ha0, ha1⟩
        · go_wp2_with (first | (go_at_call 50; refine KF.out.mono ?_; rintro e w3 ⟨h, k3, rfl⟩; have h := h.resolve_left (by rintro ⟨p, hp, -⟩; exact hm (List.mem_of_getElem? hp)); obtain ⟨-, rfl⟩ := h) | (go_at_call 51; refine (KRF _).out.mono ?_; rintro e w4 ⟨h, k4, rfl⟩; have h := h.resolve_left (by rintro ⟨p, hp, -⟩; exact hm (List.mem_of_getElem? hp)); obtain ⟨-, rfl⟩ := h; have KS4 := KSq (k3 + k4)) | (go_at_call 45; refine (Pool.at_err w w.heap.size g b xs _ _ KS4.out.1 a2 (by omega)).mono ?_; rintro e w5 ⟨rfl, rfl⟩; have hw5 := Pool.St_lt KS4.out; have Kw5 := Aside0.mk hw5.2.2.1; have hsz5 := hw5.2.2.2; clear hw5) | (go_at_call 44; refine (Pool.num_any _ _).mono ?_; rintro e w' ⟨rfl, rfl⟩) | (go_at_call 41; refine (Pool.live_any _).mono ?_; rintro e w' ⟨rfl, hbel⟩))
          go_ret
          exact ⟨rfl, below_then Kw5.out hsz5 hbel⟩
        · go_wp2_with (first | (go_at_call 50; refine KF.out.mono ?_; rintro e w3 ⟨h, k3, rfl⟩; have h := h.resolve_left (by rintro ⟨p, hp, -⟩; exact hm (List.mem_of_getElem? hp)); obtain ⟨-, rfl⟩ := h) | (go_at_call 51; refine (KRF _).out.mono ?_; rintro e w4 ⟨h, k4, rfl⟩; have h := h.resolve_left (by rintro ⟨p, hp, -⟩; exact hm (List.mem_of_getElem? hp)); obtain ⟨-, rfl⟩ := h; have KS4 := KSq (k3 + k4)) | (go_at_call 45; refine (Pool.at_err w w.heap.size g b xs _ _ KS4.out.1 a2 (by omega)).mono ?_; rintro e w5 ⟨rfl, rfl⟩; have hw5 := Pool.St_lt KS4.out; have Kw5 := Aside0.mk hw5.2.2.1; have hsz5 := hw5.2.2.2; clear hw5) | (go_at_call 44; refine (Pool.num_any _ _).mono ?_; rintro e w' ⟨rfl, rfl⟩) | (go_at_call 41; refine (Pool.live_any _).mono ?_; rintro e w' ⟨rfl, hbel⟩))
          go_ret
          exact ⟨rfl, below_then Kw5.out hsz5 hbel⟩
        · obtain ⟨at_, rfl⟩ := Int.eq_ofNat_of_zero_le ha0
          have hat : at_ < xs.length := by omega
          obtain ⟨x, hxx⟩ : ∃ x, xs[at_]? = some x := ⟨_, List.getElem?_eq_getElem hat⟩
          have hx3 := Kmx.out x (List.mem_of_getElem? hxx)
          have Kxx := Aside0.mk hxx
          clear hxx
          go_wp2_with (first | (go_at_call 50; refine KF.out.mono ?_; rintro e w3 ⟨h, k3, rfl⟩; have h := h.resolve_left (by rintro ⟨p, hp, -⟩; exact hm (List.mem_of_getElem? hp)); obtain ⟨-, rfl⟩ := h) | (go_at_call 51; refine (KRF _).out.mono ?_; rintro e w4 ⟨h, k4, rfl⟩; have h := h.resolve_left (by rintro ⟨p, hp, -⟩; exact hm (List.mem_of_getElem? hp)); obtain ⟨-, rfl⟩ := h; have KS4 := KSq (k3 + k4)) | (go_at_call 45; refine (Pool.at_ok w w.heap.size g b xs _ _ KS4.out.1 (by omega) at_ x Kxx.out (by omega)).mono ?_; rintro e w5 ⟨rfl, hh5, hb5⟩; have K5 := Aside0.mk (Pool.St_row KS4.out hb5 (Kd.R_mono (Pool.own_new hh5 (Nat.le_refl _) (by omega)) (fun _ _ => trivial))); have Kh5 := Aside0.mk hh5; clear hh5 hb5))
          obtain ⟨adx, Ax, cx, hAx, hcx, hcx1, hCx⟩ := Pool.at_cell (Kd.R_reads' K5.out.2.1).2.2 at_ hat
          subst hAx
          have hxe : xs[at_] = x := Option.some.inj ((List.getElem?_eq_getElem hat).symm.trans Kxx.out)
          rw [hxe] at hcx hcx1 hCx
          have Ks1 := Aside0.mk (Kd.C_string (P := Try.prog) (c := x.length) Try.underlying25 Try.underlying5 Try.underlying9 (Kd.C_drew (Pool.cells_C (l := x) Kh5.out (by simp) (by omega))))
          have Ks2 := Aside0.mk (Kd.C_string (P := Try.prog) (c := cx) Try.underlying25 Try.underlying5 Try.underlying9 (Kd.C_drew hCx))
          clear hCx hxe
          refine start_ (n := 14) (S := fun w' => w'.cell? (adx.add at_) = some (.slice Ax x.length cx) ∧ w' = w5.drew) (ds := []) #[false, false, false, false, false, false, false, false, false, false, false, false, false, false] (by kernel_rfl) rfl rfl ⟨(show w5.cell? _ = _ from hcx), rfl⟩ (fun hHeld => ?_)
          refine pure_ (i := 0) (N := some 164) (v := ?_) (a' := ?_) #[true, false, false, false, false, false, false, false, false, false, false, false, false, false] rfl rfl (by kernel_rfl) (fun _ _ _ h => h) (Or.inl ⟨by rfl, ?_⟩) ?_ ?_
          rotate_left
          · intro w'
            go_simp
            with_reducible rfl
          rotate_left
          · simp only [Act.put, List.setIfInBounds_toArray, List.set_cons_zero, List.set_cons_succ, i64_w, i32_w]
            rfl
          refine one_ (i := 1) (N := some 165) #[true, true, false, false, false, false, false, false, false, false, false, false, false, false] rfl rfl (by kernel_rfl) (by decide) (fun K hK => ?_)
          refine goes_ Try.func44 (by kernel_rfl) rfl #[.int .i64 0] (by rfl) rfl rfl (by simp only [List.map_toArray, List.map_cons, List.map_nil]; rfl) ?_
          with_reducible refine (Pool.num_any 0 _).mono ?_
          rintro e w6 ⟨rfl, rfl⟩
          refine ⟨_, rfl, ?_⟩
          refine hK.out _ _ ⟨hHeld.1, hHeld.2⟩ (fun hHeld => ?_)
          clear hK K
          refine norm_ (a' := ?_) ?_ ?_
          rotate_left
          · show Act.put _ (some 165) _ = _
            simp only [Act.put, List.setIfInBounds_toArray, List.set_cons_zero, List.set_cons_succ, i64_w, i32_w]
            rfl
          refine pure_ (i := 2) (N := some 166) (v := ?_) (a' := ?_) #[true, true, true, false, false, false, false, false, false, false, false, false, false, false] rfl rfl (by kernel_rfl) (fun _ _ _ h => h) (Or.inl ⟨by rfl, ?_⟩) ?_ ?_
          rotate_left
          · intro w'
            go_simp
            with_reducible rfl
          rotate_left
          · simp only [Act.put, List.setIfInBounds_toArray, List.set_cons_zero, List.set_cons_succ, i64_w, i32_w]
            rfl
          refine pure_ (i := 3) (N := some 167) (v := ?_) (a' := ?_) #[true, true, true, true, false, false, false, false, false, false, false, false, false, false] rfl rfl (by kernel_rfl) (fun _ _ _ h => h) (Or.inl ⟨by rfl, ?_⟩) ?_ ?_
          rotate_left
          · intro w'
            go_simp
            with_reducible rfl
          rotate_left
          · simp only [Act.put, List.setIfInBounds_toArray, List.set_cons_zero, List.set_cons_succ, i64_w, i32_w]
            rfl
          refine pure_ (i := 4) (N := some 168) (v := ?_) (a' := ?_) #[true, true, true, true, true, false, false, false, false, false, false, false, false, false] rfl rfl (by kernel_rfl) (fun _ _ _ h => h) (Or.inl ⟨by rfl, ?_⟩) ?_ ?_
          rotate_left
          · intro w'
            go_simp
            with_reducible rfl
          rotate_left
          · simp only [Act.put, List.setIfInBounds_toArray, List.set_cons_zero, List.set_cons_succ, i64_w, i32_w]
            rfl
          refine pure_ (i := 6) (N := some 170) (v := ?_) (a' := ?_) #[true, true, true, true, true, false, true, false, false, false, false, false, false, false] rfl rfl (by kernel_rfl) (fun _ _ _ h => h) (Or.inl ⟨by rfl, ?_⟩) ?_ ?_
          rotate_left
          · intro w'
            go_simp
            with_reducible rfl
          rotate_left
          · simp only [Act.put, List.setIfInBounds_toArray, List.set_cons_zero, List.set_cons_succ, i64_w, i32_w]
            rfl
          refine pure_ (i := 7) (N := some 171) (v := ?_) (a' := ?_) #[true, true, true, true, true, false, true, true, false, false, false, false, false, false] rfl rfl (by kernel_rfl) (fun _ _ _ h => h) (Or.inl ⟨by rfl, ?_⟩) ?_ ?_
          rotate_left
          · intro w'
            go_simp
            with_reducible rfl
          rotate_left
          · simp only [Act.put, List.setIfInBounds_toArray, List.set_cons_zero, List.set_cons_succ, i64_w, i32_w]
            rfl
          refine pure_ (i := 8) (N := some 172) (v := ?_) (a' := ?_) #[true, true, true, true, true, false, true, true, true, false, false, false, false, false] rfl rfl (by kernel_rfl) (fun _ _ _ h => h) (Or.inl ⟨by rfl, ?_⟩) ?_ ?_
          rotate_left
          · intro w'
            go_simp
            with_reducible rfl
          rotate_left
          · simp only [Act.put, List.setIfInBounds_toArray, List.set_cons_zero, List.set_cons_succ, i64_w, i32_w]
            rfl
          refine take_ (i := 5) (N := some 169) (v := .string (strOfNums x)) (a' := ?_) #[true, true, true, true, true, true, true, true, true, false, false, false, false, false] rfl rfl (by kernel_rfl) (fun _ _ _ h => h) (Or.inl ⟨by rfl, ?_⟩) hHeld ?_ ?_
          · rintro w' ⟨s0, s1⟩
            subst s1
            exact exec_convert 25 9 (Operand.tmp 168) (by rfl) _ _ (by rfl) Ks1.out
          rotate_left
          · simp only [Act.put, List.setIfInBounds_toArray, List.set_cons_zero, List.set_cons_succ, i64_w, i32_w]
            rfl
          refine take_ (i := 9) (N := some 173) (v := ?_) (a' := ?_) #[true, true, true, true, true, true, true, true, true, true, false, false, false, false] rfl rfl (by kernel_rfl) (fun _ _ _ h => h) (Or.inl ⟨by rfl, ?_⟩) hHeld ?_ ?_
          rotate_left
          · rintro w' ⟨s0, s1⟩
            go_simp
            with_reducible rfl
          rotate_left
          · simp only [Act.put, List.setIfInBounds_toArray, List.set_cons_zero, List.set_cons_succ, i64_w, i32_w]
            rfl
          refine take_ (i := 10) (N := some 174) (v := .string (strOfNums x)) (a' := ?_) #[true, true, true, true, true, true, true, true, true, true, true, false, false, false] rfl rfl (by kernel_rfl) (fun _ _ _ h => h) (Or.inl ⟨by rfl, ?_⟩) hHeld ?_ ?_
          · rintro w' ⟨s0, s1⟩
            subst s1
            exact exec_convert 25 9 (Operand.tmp 173) (by rfl) _ _ (by rfl) Ks2.out
          rotate_left
          · simp only [Act.put, List.setIfInBounds_toArray, List.set_cons_zero, List.set_cons_succ, i64_w, i32_w]
            rfl
          refine pure_ (i := 11) (N := some 175) (v := ?_) (a' := ?_) #[true, true, true, true, true, true, true, true, true, true, true, true, false, false] rfl rfl (by kernel_rfl) (fun _ _ _ h => h) (Or.inl ⟨by rfl, ?_⟩) ?_ ?_
          rotate_left
          · intro w'
            go_simp
            with_reducible rfl
          rotate_left
          · simp only [Act.put, List.setIfInBounds_toArray, List.set_cons_zero, List.set_cons_succ, i64_w, i32_w]
            rfl
          refine pure_ (i := 12) (N := some 176) (v := ?_) (a' := ?_) #[true, true, true, true, true, true, true, true, true, true, true, true, true, false] rfl rfl (by kernel_rfl) (fun _ _ _ h => h) (Or.inl ⟨by rfl, ?_⟩) ?_ ?_
          rotate_left
          · intro w'
            go_simp
            with_reducible rfl
          rotate_left
          · simp only [Act.put, List.setIfInBounds_toArray, List.set_cons_zero, List.set_cons_succ, i64_w, i32_w]
            rfl
          refine pure_ (i := 13) (N := some 24) (v := ?_) (a' := ?_) #[true, true, true, true, true, true, true, true, true, true, true, true, true, true] rfl rfl (by kernel_rfl) (fun _ _ _ h => h) (Or.inl ⟨by rfl, ?_⟩) ?_ ?_
          rotate_left
          · intro w'
            go_simp
            with_reducible rfl
          rotate_left
          · simp only [Act.put, List.setIfInBounds_toArray, List.set_cons_zero, List.set_cons_succ, i64_w, i32_w]
            rfl
          refine done_ (by kernel_rfl) ?_
          have K6 := Aside0.mk (Pool.StC_below K5.out (below_drew (Below.refl w5.heap.size w5)))
          clear hHeld Ks1 Ks2
          go_wp2
          go_loopw [25] (fun i wr2 => ∃ j : Nat, j ≤ x.length ∧ i = .int .i64 j ∧ Aside0 (∃ cs, Pool.StC w g b Z (.slice (some adx) xs.length c) (.slice (some ⟨wr.heap.size, 0, none⟩) x.length x.length) wr2 xs xs cs)) (fun i _ => x.length - (intOf i).toNat)
          case atStart => exact ⟨0, by omega, rfl, ⟨x, K6.out⟩⟩
          case round =>
            obtain ⟨j, hj, rfl, HC⟩ := hrel
            by_cases hltj : j < x.length
            · obtain ⟨cs, hSC⟩ := HC.out
              have hlcs := (Kd.R_reads' hSC.2.2.2).1
              obtain ⟨cc, -, hM, hcc, hfz⟩ := Kd.R_elem hSC.2.2.2 (0 : Int) (j : Int) (by omega) (by omega)
              rw [Int.toNat_natCast] at hM hcc hfz
              have hM2 : cc = [.int .u8 (cs.getD j 0)] := hM
              subst hM2
              obtain ⟨y, hyy⟩ : ∃ y, y = cs.getD j 0 := ⟨_, rfl⟩
              have hcj := byte_cell hcc
              have hfj := byte_frz hfz
              rw [← hyy] at hcj
              have KSC9 := Aside0.mk hSC
              clear hSC hcc hfz hM hyy HC hlcs
              go_wp2
              go_round
              case rel => exact ⟨j + 1, by omega, by go_num, ⟨_, Pool.StC_put KSC9.out j _⟩⟩
              case measure => simp [intOf]; omega
            · obtain ⟨cs, hSC⟩ := HC.out
              have KSC9 := Aside0.mk hSC
              clear hSC HC
              go_wp2_with (go_at_call 45; refine (Pool.at_ok w w.heap.size g b xs _ _ KSC9.out.1 (by omega) at_ x Kxx.out (by omega)).mono ?_; rintro e w7 ⟨rfl, hh7, hb7⟩; have K7 := Aside0.mk (Pool.StC_below KSC9.out hb7); have Kh7 := Aside0.mk hh7; clear hh7 hb7)
              obtain ⟨ady, Ay, cy, hAy, hcy, hcy1, hCy⟩ := Pool.at_cell (Kd.R_reads' K7.out.2.1).2.2 at_ hat
              injection hAy with hAy
              subst hAy
              have hxe : xs[at_] = x := Option.some.inj ((List.getElem?_eq_getElem hat).symm.trans Kxx.out)
              rw [hxe] at hcy hcy1 hCy
              have Ks1 := Aside0.mk (Kd.C_string (P := Try.prog) (c := x.length) Try.underlying25 Try.underlying5 Try.underlying9 (Kd.C_drew (Pool.cells_C (l := x) Kh7.out (by simp) (by omega))))
              have Ks2 := Aside0.mk (Kd.C_string (P := Try.prog) (c := cy) Try.underlying25 Try.underlying5 Try.underlying9 (Kd.C_drew hCy))
              have hw7 := Pool.PS_lt K7.out.1
              have Kw7 := Aside0.mk hw7.2.2.1
              have hsz7 := hw7.2.2.2
              clear hCy hxe hw7
              refine start_ (n := 15) (S := fun w' => w'.cell? (adx.add at_) = some (.slice Ay x.length cy) ∧ w' = w7.drew) (ds := [12]) #[false, false, false, false, false, false, false, false, false, false, false, false, false, false, false] (by kernel_rfl) rfl rfl ⟨(show w7.cell? _ = _ from hcy), rfl⟩ (fun hHeld => ?_)
              refine pure_ (i := 0) (N := some 195) (v := ?_) (a' := ?_) #[true, false, false, false, false, false, false, false, false, false, false, false, false, false, false] rfl rfl (by kernel_rfl) (fun _ _ _ h => h) (Or.inl ⟨by rfl, ?_⟩) ?_ ?_
              rotate_left
              · intro w'
                go_simp
                with_reducible rfl
              rotate_left
              · simp only [Act.put, List.setIfInBounds_toArray, List.set_cons_zero, List.set_cons_succ, i64_w, i32_w]
                rfl
              refine pure_ (i := 1) (N := some 196) (v := ?_) (a' := ?_) #[true, true, false, false, false, false, false, false, false, false, false, false, false, false, false] rfl rfl (by kernel_rfl) (fun _ _ _ h => h) (Or.inl ⟨by rfl, ?_⟩) ?_ ?_
              rotate_left
              · intro w'
                go_simp
                with_reducible rfl
              rotate_left
              · simp only [Act.put, List.setIfInBounds_toArray, List.set_cons_zero, List.set_cons_succ, i64_w, i32_w]
                rfl
              refine pure_ (i := 2) (N := some 197) (v := ?_) (a' := ?_) #[true, true, true, false, false, false, false, false, false, false, false, false, false, false, false] rfl rfl (by kernel_rfl) (fun _ _ _ h => h) (Or.inl ⟨by rfl, ?_⟩) ?_ ?_
              rotate_left
              · intro w'
                go_simp
                with_reducible rfl
              rotate_left
              · simp only [Act.put, List.setIfInBounds_toArray, List.set_cons_zero, List.set_cons_succ, i64_w, i32_w]
                rfl
              refine pure_ (i := 4) (N := some 199) (v := ?_) (a' := ?_) #[true, true, true, false, true, false, false, false, false, false, false, false, false, false, false] rfl rfl (by kernel_rfl) (fun _ _ _ h => h) (Or.inl ⟨by rfl, ?_⟩) ?_ ?_
              rotate_left
              · intro w'
                go_simp
                with_reducible rfl
              rotate_left
              · simp only [Act.put, List.setIfInBounds_toArray, List.set_cons_zero, List.set_cons_succ, i64_w, i32_w]
                rfl
              refine pure_ (i := 5) (N := some 200) (v := ?_) (a' := ?_) #[true, true, true, false, true, true, false, false, false, false, false, false, false, false, false] rfl rfl (by kernel_rfl) (fun _ _ _ h => h) (Or.inl ⟨by rfl, ?_⟩) ?_ ?_
              rotate_left
              · intro w'
                go_simp
                with_reducible rfl
              rotate_left
              · simp only [Act.put, List.setIfInBounds_toArray, List.set_cons_zero, List.set_cons_succ, i64_w, i32_w]
                rfl
              refine pure_ (i := 6) (N := some 201) (v := ?_) (a' := ?_) #[true, true, true, false, true, true, true, false, false, false, false, false, false, false, false] rfl rfl (by kernel_rfl) (fun _ _ _ h => h) (Or.inl ⟨by rfl, ?_⟩) ?_ ?_
              rotate_left
              · intro w'
                go_simp
                with_reducible rfl
              rotate_left
              · simp only [Act.put, List.setIfInBounds_toArray, List.set_cons_zero, List.set_cons_succ, i64_w, i32_w]
                rfl
              refine take_ (i := 3) (N := some 198) (v := .string (strOfNums x)) (a' := ?_) #[true, true, true, true, true, true, true, false, false, false, false, false, false, false, false] rfl rfl (by kernel_rfl) (fun _ _ _ h => h) (Or.inl ⟨by rfl, ?_⟩) hHeld ?_ ?_
              · rintro w' ⟨s0, s1⟩
                subst s1
                exact exec_convert 25 9 (Operand.tmp 197) (by rfl) _ _ (by rfl) Ks1.out
              rotate_left
              · simp only [Act.put, List.setIfInBounds_toArray, List.set_cons_zero, List.set_cons_succ, i64_w, i32_w]
                rfl
              refine take_ (i := 7) (N := some 202) (v := ?_) (a' := ?_) #[true, true, true, true, true, true, true, true, false, false, false, false, false, false, false] rfl rfl (by kernel_rfl) (fun _ _ _ h => h) (Or.inl ⟨by rfl, ?_⟩) hHeld ?_ ?_
              rotate_left
              · rintro w' ⟨s0, s1⟩
                go_simp
                with_reducible rfl
              rotate_left
              · simp only [Act.put, List.setIfInBounds_toArray, List.set_cons_zero, List.set_cons_succ, i64_w, i32_w]
                rfl
              refine take_ (i := 8) (N := some 203) (v := .string (strOfNums x)) (a' := ?_) #[true, true, true, true, true, true, true, true, true, false, false, false, false, false, false] rfl rfl (by kernel_rfl) (fun _ _ _ h => h) (Or.inl ⟨by rfl, ?_⟩) hHeld ?_ ?_
              · rintro w' ⟨s0, s1⟩
                subst s1
                exact exec_convert 25 9 (Operand.tmp 202) (by rfl) _ _ (by rfl) Ks2.out
              rotate_left
              · simp only [Act.put, List.setIfInBounds_toArray, List.set_cons_zero, List.set_cons_succ, i64_w, i32_w]
                rfl
              refine pure_ (i := 9) (N := some 204) (v := ?_) (a' := ?_) #[true, true, true, true, true, true, true, true, true, true, false, false, false, false, false] rfl rfl (by kernel_rfl) (fun _ _ _ h => h) (Or.inl ⟨by rfl, ?_⟩) ?_ ?_
              rotate_left
              · intro w'
                go_simp
                with_reducible rfl
              rotate_left
              · simp only [Act.put, List.setIfInBounds_toArray, List.set_cons_zero, List.set_cons_succ, i64_w, i32_w]
                rfl
              refine pure_ (i := 10) (N := some 205) (v := ?_) (a' := ?_) #[true, true, true, true, true, true, true, true, true, true, true, false, false, false, false] rfl rfl (by kernel_rfl) (fun _ _ _ h => h) (Or.inl ⟨by rfl, ?_⟩) ?_ ?_
              rotate_left
              · intro w'
                go_simp
                with_reducible rfl
              rotate_left
              · simp only [Act.put, List.setIfInBounds_toArray, List.set_cons_zero, List.set_cons_succ, i64_w, i32_w]
                rfl
              refine pure_ (i := 11) (N := some 206) (v := ?_) (a' := ?_) #[true, true, true, true, true, true, true, true, true, true, true, true, false, false, false] rfl rfl (by kernel_rfl) (fun _ _ _ h => h) (Or.inl ⟨by rfl, ?_⟩) ?_ ?_
              rotate_left
              · intro w'
                go_simp
                with_reducible rfl
              rotate_left
              · simp only [Act.put, List.setIfInBounds_toArray, List.set_cons_zero, List.set_cons_succ, i64_w, i32_w]
                rfl
              refine last_ (i := 12) (N := some 207) #[true, true, true, true, true, true, true, true, true, true, true, true, true, false, false] rfl rfl (by kernel_rfl) (by decide) (fun K hK => ?_)
              refine goes_ Try.func41 (by kernel_rfl) rfl #[] (by rfl) rfl rfl (by simp) ?_
              with_reducible refine (Pool.live_any _).mono ?_
              rintro e w8 ⟨rfl, hb8⟩
              refine ⟨_, rfl, ?_⟩
              refine hK.out _ _ ?_
              clear hK K
              refine norm_ (a' := ?_) ?_ ?_
              rotate_left
              · show Act.put _ (some 207) _ = _
                simp only [Act.put, List.setIfInBounds_toArray, List.set_cons_zero, List.set_cons_succ, i64_w, i32_w]
                rfl
              refine pure_ (i := 13) (N := some 208) (v := ?_) (a' := ?_) #[true, true, true, true, true, true, true, true, true, true, true, true, true, true, false] rfl rfl (by kernel_rfl) (fun _ _ _ h => h) (Or.inl ⟨by rfl, ?_⟩) ?_ ?_
              rotate_left
              · intro w'
                go_simp
                with_reducible rfl
              rotate_left
              · simp only [Act.put, List.setIfInBounds_toArray, List.set_cons_zero, List.set_cons_succ, i64_w, i32_w]
                rfl
              refine pure_ (i := 14) (N := some 6) (v := ?_) (a' := ?_) #[true, true, true, true, true, true, true, true, true, true, true, true, true, true, true] rfl rfl (by kernel_rfl) (fun _ _ _ h => h) (Or.inl ⟨by rfl, ?_⟩) ?_ ?_
              rotate_left
              · intro w'
                go_simp
                with_reducible rfl
              rotate_left
              · simp only [Act.put, List.setIfInBounds_toArray, List.set_cons_zero, List.set_cons_succ, i64_w, i32_w]
                rfl
              refine done_ (by kernel_rfl) ?_
              go_wp2
              go_ret
              exact ⟨rfl, below_then (below_drew Kw7.out) hsz7 hb8⟩
end PoolPlays
end Go.Proofs.Ytgadcnlcldjhpaa
