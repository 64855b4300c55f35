/- The same bytes have one number: the law's walk. -/
import Derived.Test.YtgadcnlcldjhpaaPool6
import Derived.OpenShut
set_option linter.unusedVariables false
set_option linter.unusedSimpArgs false
namespace Go.Proofs.Ytgadcnlcldjhpaa
open Go.RowKit Go.Proofs.YtgadcnlcldjhpaaW.PrintWords Go.Proofs.YtgadcnlcldjhpaaW.PrintLast Go.Proofs.YtgadcnlcldjhpaaW.PrintMore
namespace PoolOnce
/-- What stands behind k contents: the pool, the numbers. -/
def Inv (C : List (List Int)) (w0 : World) (g b : Nat) (k : Nat) (v : Value) (wr : World) : Prop :=
  ∃ (xs : List (List Int)) (ns : List Int), Pool.PS w0 w0.heap.size g b (fun q => (q ≠ g ∧ q ≠ b) ∧ some q ≠ v.ownBlock) wr xs ∧ Kd.R (Kd.int .i64) 3 wr w0.heap.size (fun q => q ≠ g ∧ q ≠ b) v ns ∧ ns.length = k ∧ xs.length ≤ k ∧ (xs.map List.length).sum ≤ 3000 * k ∧
    ∀ j (h : j < C.length), j < k → ∃ p : Nat, ns[j]? = some (p : Int) ∧ xs[p]? = some C[j]
theorem inv_step {C : List (List Int)} {w0 w2 w3 : World} {g b k : Nat} {v v3 : Value} {xs ys : List (List Int)} {ns : List Int} {p : Nat} {l : List Int} (hk : k < C.length) (hl : C[k] = l) (hl3 : l.length ≤ 3000) (hR : Kd.R (Kd.int .i64) 3 w2 w0.heap.size (fun q => q ≠ g ∧ q ≠ b) v ns) (hns : ns.length = k) (hxl : xs.length ≤ k) (hxs : (xs.map List.length).sum ≤ 3000 * k) (hj : ∀ j (h : j < C.length), j < k → ∃ p : Nat, ns[j]? = some (p : Int) ∧ xs[p]? = some C[j])
    (hp : ys[p]? = some l) (hc : (l ∈ xs ∧ ys = xs) ∨ (l ∉ xs ∧ ys = xs ++ [l])) (hP : Pool.PS w0 w0.heap.size g b (fun q => (q ≠ g ∧ q ≠ b) ∧ some q ≠ v.ownBlock) w2 ys) (hR3 : Kd.R (Kd.int .i64) 3 w3 w0.heap.size (fun q => q ≠ g ∧ q ≠ b) v3 (ns ++ [(p : Int)])) (hB3 : Below w0.heap.size w0 w3) (hg3 : w2.grownBy w3 v.ownBlock) (hat : v3.ownBlock = v.ownBlock ∨ ∃ q, v3.ownBlock = some q ∧ w2.heap.size ≤ q) :
    Inv C w0 g b (k + 1) v3 w3 := by
  have hP2 := Pool.PS_frame (Pool.PS_narrow hP) hB3 (fun q hq ho => hg3.block q hq (fun he => by
    rcases ho with ho | rfl | rfl
    · exact ho.1.2 he
    · exact ((hR.1) q he.symm).1 rfl
    · exact ((hR.1) q he.symm).2 rfl))
  refine ⟨ys, ns ++ [(p : Int)], Pool.PS_wide hP2 (fun q hq => ⟨hq.1.1, fun he => ?_⟩), hR3, by simp [hns], ?_, ?_, fun j hjl hjk => ?_⟩
  · rcases hat with h | ⟨q', h, hle⟩
    · exact hq.1.2 (he.trans h)
    · rw [h] at he
      have := Option.some.inj he
      have := hq.2
      omega
  · rcases hc with ⟨-, rfl⟩ | ⟨-, rfl⟩
    · omega
    · simp
      omega
  · rcases hc with ⟨-, rfl⟩ | ⟨-, rfl⟩
    · omega
    · simp
      omega
  · by_cases h : j < k
    · obtain ⟨q, h1, h2⟩ := hj j hjl h
      refine ⟨q, ?_, ?_⟩
      · rw [List.getElem?_append_left (by omega)]
        exact h1
      · rcases hc with ⟨-, rfl⟩ | ⟨-, rfl⟩
        · exact h2
        · rw [List.getElem?_append_left (List.getElem?_eq_some_iff.1 h2).1]
          exact h2
    · obtain rfl : j = k := by omega
      refine ⟨p, ?_, by rw [hl]; exact hp⟩
      rw [List.getElem?_append_right (by omega), hns]
      simp
theorem str_num {xs : List (List Int)} {p p2 : Nat} {l m : List Int} (hnd : xs.Nodup) (h1 : xs[p]? = some l) (h2 : xs[p2]? = some m) (hl : ∀ x ∈ l, 0 ≤ x ∧ x < 256) (hm : ∀ x ∈ m, 0 ≤ x ∧ x < 256) : ((strOfNums l).toList == (strOfNums m).toList) = ((p : Int) == (p2 : Int)) := by
  rw [Pool.str_eq l m hl hm]
  obtain ⟨a1, b1⟩ := List.getElem?_eq_some_iff.1 h1
  obtain ⟨a2, b2⟩ := List.getElem?_eq_some_iff.1 h2
  by_cases h : p = p2
  · subst h
    rw [decide_eq_true (b1.symm.trans b2)]
    simp
  · have hne : l ≠ m := fun he => h ((List.getElem_inj (h₀ := a1) (h₁ := a2) hnd).1 (by rw [b1, b2, he]))
    rw [decide_eq_false hne]
    symm
    simp only [beq_eq_false_iff_ne, ne_eq]
    omega
theorem exec_convert {o : Oper} {a : Act} {w : World} (s d : TypeId) (x : Operand) (ho : o.op = .convert s d x) (v u : Value) (hx : a.eval x = v) (hrun : (convert s d v).run Try.prog w = .ok u w) : (execOp a.eval o).run Try.prog w = .ok (.value u) w := by
  unfold execOp
  simp [ho, hx, hrun, Result.andThen]
theorem keep_row {w1 w2 : World} {base g b : Nat} {v : Value} {ns : List Int} (hR : Kd.R (Kd.int .i64) 3 w1 base (fun q => q ≠ g ∧ q ≠ b) v ns) (hf : ∀ k, ¬ ((k ≠ g ∧ k ≠ b) ∧ some k ≠ v.ownBlock) → k ≠ g → k ≠ b → k < w1.heap.size → w2.heap[k]? = w1.heap[k]?) : Kd.R (Kd.int .i64) 3 w2 base (fun q => q ≠ g ∧ q ≠ b) v ns :=
  Kd.R_mono (Kd.R_step (Kd.R_tight rfl hR) (fun q hq hlt => hf q (fun h => h.2 hq) (hR.1 q hq.symm).1 (hR.1 q hq.symm).2 hlt)) (fun q hq => hR.1 q hq.symm)
set_option maxRecDepth 100000 in
theorem walk (w : World) (A0 : Option Addr) (c0 : Nat) (l0 : List (List Int)) (r0 : Kd.C (Kd.slice 5 (Kd.int .u8)) w A0 l0.length l0) (k0 : l0.length ≤ c0) (g0 : ∀ v ∈ l0, (fun xs => (∀ v ∈ xs, (fun n : Int => (Lit.int .u8 n).wf = true) v) ∧ xs.length * 1 ≤ 140737488351232) v) (m0 : l0.length * 24 ≤ 140737488351232) :
    Calls Try.prog 12 #[.slice A0 l0.length c0] w fun e w' => e = .returned (.bool true) ∧ Below w.heap.size w w' := by
  have KR := Aside0.mk r0
  have KG : Aside0 (∀ x ∈ l0, ∀ y ∈ x, 0 ≤ y ∧ y < 256) := ⟨fun x hx y hy => by have h := Go.bounds_u8 ((g0 x hx).1 y hy); omega⟩
  clear g0
  by_cases hb : Pool.bigB l0 = true
  · go_enter Try.func12, Try.ntmps12
    go_wp2_with (first | (go_at_call 40; refine (Pool.big_any _ _ _ _ KR.out).mono ?_; rintro e w' ⟨rfl, rfl⟩) | (go_at_call 41; refine (Pool.live_any _).mono ?_; rintro e w' ⟨rfl, hbel⟩))
    go_ret
    exact ⟨rfl, hbel⟩
  have hb : Pool.bigB l0 = false := by simpa using hb
  have hlen : l0.length ≤ 100 ∧ ∀ x ∈ l0, x.length ≤ 3000 := by
    simp only [Pool.bigB, Bool.or_eq_false_iff, decide_eq_false_iff_not, List.any_eq_false, decide_eq_true_eq] at hb
    exact ⟨by omega, fun x hx => by have := hb.2 x hx; omega⟩
  have hl100 := hlen.1
  have KL := Aside0.mk hlen.2
  clear hlen
  obtain ⟨g, hg⟩ : ∃ g, g = w.heap.size + 1 := ⟨_, rfl⟩
  obtain ⟨b, hb'⟩ : ∃ b, b = w.heap.size := ⟨_, rfl⟩
  have hnew : Calls Try.prog 42 #[] w fun e w' => e = .returned (.pointer (some ⟨g, 0, none⟩)) ∧ Pool.PS w w.heap.size g b (fun k => k ≠ g ∧ k ≠ b) w' [] := by
    rw [hg, hb']
    exact Pool.new_any w
  have KNew := Aside0.mk hnew
  clear hg hb' hnew
  go_enter Try.func12, Try.ntmps12
  go_wp2_with (first | (go_at_call 40; refine (Pool.big_any _ _ _ _ KR.out).mono ?_; rintro e w' ⟨rfl, rfl⟩) | (go_at_call 42; refine KNew.out.mono ?_; rintro e w1 ⟨rfl, H1⟩; have K1 := Aside0.mk H1; clear H1))
  go_loopw [4, 5] (fun v i wr => ∃ (k : Nat) (A : Option Addr) (c : Nat), k ≤ l0.length ∧ i = .int .i64 k ∧ v = .slice A k c ∧ Aside0 (Inv l0 w g b k (.slice A k c) wr)) (fun _ i _ => l0.length - (intOf i).toNat)
  case atStart => exact ⟨0, none, 0, by omega, rfl, rfl, ⟨[], [], Pool.PS_wide K1.out (fun q hq => ⟨hq, by simp [Value.ownBlock]⟩), Kd.R_nil _ _ _ _ _, rfl, by simp, by simp, fun j _ h => by omega⟩⟩
  case round =>
    obtain ⟨k, A, c, hk, rfl, rfl, HI⟩ := hrel
    by_cases hlt : k < l0.length
    · obtain ⟨xs, ns, hP, hR, hns, hxl, hxs, hj⟩ := HI.out
      have hlts := Pool.PS_lt hP
      obtain ⟨ad, A1, c1, hA, hc, hc1, hC⟩ := Pool.at_cell KR.out k hlt
      subst hA
      obtain ⟨l, hl⟩ : ∃ l, l0[k] = l := ⟨_, rfl⟩
      rw [hl] at hc hc1 hC
      have hcr := pw_cell_below hlts.2.2.1 hc
      have hlb := KG.out l (by rw [← hl]; exact List.getElem_mem hlt)
      have hl3 := KL.out l (by rw [← hl]; exact List.getElem_mem hlt)
      have hown : ∀ q, (Value.slice A k c).ownBlock = some q → q < wr.heap.size := Kd.R_lt hR
      have hadd := Pool.add_law w w.heap.size g b xs A1 c1 l _ wr hP (fun q hq => hq.1) (fun q hq => ⟨⟨by omega, by omega⟩, fun he => by have := hown q he.symm; omega⟩) (fun w' hB _ => Kd.C_below hC hB) hc1 hlb (by omega) (by omega) (by omega)
      have Kadd := Aside0.mk hadd
      have Kl := Aside0.mk hl
      have KP := Aside0.mk hP
      have KRn := Aside0.mk hR
      have Kns := Aside0.mk hns
      have Kxl := Aside0.mk hxl
      have Kxs := Aside0.mk hxs
      have Kj := Aside0.mk hj
      have Klt := Aside0.mk hlts
      clear hadd hl hP hR hns hxl hxs hj hlts hC hc hlb hown
      go_wp2_with (first | (go_at_call 43; refine Kadd.out.mono ?_; rintro e w2 ⟨p, fresh, ys, rfl, hp, hcc, hP2, hsz2, hf2⟩; have Kp := Aside0.mk hp; have Kcc := Aside0.mk hcc; have KP2 := Aside0.mk hP2; have Kf2 := Aside0.mk hf2; clear hp hcc hP2 hf2) | (go_at_call 44; refine (Pool.num_any _ _).mono ?_; rintro e w' ⟨rfl, rfl⟩) | ((with_reducible refine gate_builtin (b := .append) (xs := #[.tmp 38, .tmp 40]) rfl ?_); have hR2 := keep_row KRn.out Kf2.out; have hP2s := (Pool.PS_lt KP2.out); refine Kd.R_append (Kd.int .i64) (w0 := w) w.heap.size rfl (.tmp 38) (.tmp 40) 73 3 (.int .i64 0) 8 rfl Try.underlying73 Pool.info3 rfl (by decide) (by decide) (.slice A k c) ns (p : Int) [.int .i64 (p : Int)] (fun q => q ≠ g ∧ q ≠ b) (fun _ => False) rfl rfl rfl (fun _ h => h.elim) (fun q hq => ⟨by omega, by omega⟩) hR2 hP2s.2.2.1 hP2s.2.2.2 (by rw [Kns.out]; omega) ?_; intro v3 w3 hR3 hB3 hg3 hat3; obtain ⟨A3, c3, hv3⟩ := Kd.R_slice hR3; have hl3' : (ns ++ [(p : Int)]).length = k + 1 := (by rw [List.length_append, Kns.out]; rfl); rw [hl3'] at hv3; subst hv3; have KI3 := Aside0.mk (inv_step (l := l) hlt Kl.out hl3 hR2 Kns.out Kxl.out Kxs.out Kj.out Kp.out (Kcc.out.imp (fun h => ⟨h.1, h.2.2⟩) (fun h => ⟨h.1, h.2.2⟩)) KP2.out hR3 hB3 hg3 hat3); clear hR3 hB3 hg3 hat3 hR2 hP2s hl3'))
      go_round
      case rel => exact ⟨k + 1, A3, c3, by omega, by go_num, by go_num, KI3⟩
      case measure => simp [intOf]; omega
    · obtain rfl : k = l0.length := by omega
      obtain ⟨xs, ns, hP0, hR0, hns, hxl, hxs, hj⟩ := HI.out
      have K0 := Aside0.mk hP0
      have K1' := Aside0.mk hR0
      have Kns := Aside0.mk hns
      have Kj := Aside0.mk hj
      have hxl2 : xs.length ≤ 100 := by omega
      clear hP0 hR0 hns hxs hj HI
      go_wp2
      go_loopw [9] (fun i wr => ∃ (k : Nat), k ≤ l0.length ∧ i = .int .i64 k ∧ Aside0 (Pool.PS w w.heap.size g b (fun q => (q ≠ g ∧ q ≠ b) ∧ some q ≠ (Value.slice A l0.length c).ownBlock) wr xs) ∧ Aside0 (Kd.R (Kd.int .i64) 3 wr w.heap.size (fun q => q ≠ g ∧ q ≠ b) (.slice A l0.length c) ns)) (fun i _ => l0.length - (intOf i).toNat)
      case atStart => exact ⟨0, by omega, rfl, K0, K1'⟩
      case round =>
        clear K0 K1'
        obtain ⟨k, hk2, rfl, HP, HRn⟩ := hrel
        by_cases hlt2 : k < l0.length
        · obtain ⟨p, hnp, hxp⟩ := Kj.out k hlt2 hlt2
          obtain ⟨ad, A1, c1, hA, hc, hc1, hC⟩ := Pool.at_cell KR.out k hlt2
          subst hA
          obtain ⟨l, hl⟩ : ∃ l, l0[k] = l := ⟨_, rfl⟩
          rw [hl] at hc hc1 hC hxp
          have hl3 := KL.out l (by rw [← hl]; exact List.getElem_mem hlt2)
          have hCn := (Kd.R_reads' HRn.out).2.2
          obtain ⟨ad2, e2, hx2⟩ := Kd.at_int hCn (k : Int) (by omega) (by rw [Kns.out]; omega)
          subst e2
          rw [show rd ns (k : Int) = (p : Int) by
            unfold rd
            rw [Int.toNat_natCast, List.getD_eq_getElem?_getD, hnp]; rfl, Int.toNat_natCast] at hx2
          have Kl := Aside0.mk hl
          have KC := Aside0.mk hC
          have Kcell := Aside0.mk hc
          have Kxp := Aside0.mk hxp
          clear hl hC hc hxp hCn hnp
          go_wp2_with (go_at_call 45; refine (Pool.at_ok w w.heap.size g b xs _ _ HP.out (by omega) p l Kxp.out (by omega)).mono ?_; rintro e w2 ⟨rfl, hh2, hb2⟩; have Kh2 := Aside0.mk hh2; have Kb2 := Aside0.mk hb2; clear hh2 hb2)
          have KBw : Aside0 (Below w.heap.size w w2) := ⟨below_then (Pool.PS_lt HP.out).2.2.1 (Pool.PS_lt HP.out).2.2.2 Kb2.out⟩
          have hcell2 : w2.cell? (ad.add k) = some (.slice A1 l.length c1) := pw_cell_below KBw.out Kcell.out
          have hs1 := Kd.C_string (P := Try.prog) (c := l.length) Try.underlying25 Try.underlying5 Try.underlying9 (Kd.C_drew (Pool.cells_C (l := l) Kh2.out (by simp) (by omega)))
          have hs2 := Kd.C_string (P := Try.prog) (c := c1) Try.underlying25 Try.underlying5 Try.underlying9 (Kd.C_drew (Kd.C_below KC.out KBw.out))
          have Ks1 := Aside0.mk hs1
          have Ks2 := Aside0.mk hs2
          clear hs1 hs2
          refine start_ (n := 13) (S := fun w' => w'.cell? (ad.add k) = some (.slice A1 l.length c1) ∧ w' = w2.drew) (ds := []) #[false, false, false, false, false, false, false, false, false, false, false, false, false] (by kernel_rfl) rfl rfl ⟨(show w2.cell? _ = _ from hcell2), rfl⟩ (fun hHeld => ?_)
          refine pure_ (i := 0) (N := some 57) (v := ?_) (a' := ?_) #[true, false, false, false, false, false, false, false, false, false, false, false, false] rfl rfl (by kernel_rfl) (fun _ _ _ h => h) (Or.inl ⟨by rfl, ?_⟩) ?_ ?_
          rotate_left
          · intro w'
            go_simp
            with_reducible rfl
          rotate_left
          · simp only [Act.put, List.setIfInBounds_toArray, List.set_cons_zero, List.set_cons_succ, i64_w, i32_w]
            rfl
          refine one_ (i := 1) (N := some 58) #[true, true, false, false, false, false, false, false, false, false, false, false, false] rfl rfl (by kernel_rfl) (by decide) (fun K hK => ?_)
          refine goes_ Try.func44 (by kernel_rfl) rfl #[.int .i64 0] (by rfl) rfl rfl (by simp only [List.map_toArray, List.map_cons, List.map_nil]; rfl) ?_
          with_reducible refine (Pool.num_any 0 _).mono ?_
          rintro e w3 ⟨rfl, rfl⟩
          refine ⟨_, rfl, ?_⟩
          refine hK.out _ _ ⟨hHeld.1, hHeld.2⟩ (fun hHeld => ?_)
          clear hK K
          refine norm_ (a' := ?_) ?_ ?_
          rotate_left
          · show Act.put _ (some 58) _ = _
            simp only [Act.put, List.setIfInBounds_toArray, List.set_cons_zero, List.set_cons_succ, i64_w, i32_w]
            rfl
          refine pure_ (i := 2) (N := some 59) (v := ?_) (a' := ?_) #[true, true, true, false, false, false, false, false, false, false, false, false, false] rfl rfl (by kernel_rfl) (fun _ _ _ h => h) (Or.inl ⟨by rfl, ?_⟩) ?_ ?_
          rotate_left
          · intro w'
            go_simp
            with_reducible rfl
          rotate_left
          · simp only [Act.put, List.setIfInBounds_toArray, List.set_cons_zero, List.set_cons_succ, i64_w, i32_w]
            rfl
          refine pure_ (i := 3) (N := some 60) (v := ?_) (a' := ?_) #[true, true, true, true, false, false, false, false, false, false, false, false, false] rfl rfl (by kernel_rfl) (fun _ _ _ h => h) (Or.inl ⟨by rfl, ?_⟩) ?_ ?_
          rotate_left
          · intro w'
            go_simp
            with_reducible rfl
          rotate_left
          · simp only [Act.put, List.setIfInBounds_toArray, List.set_cons_zero, List.set_cons_succ, i64_w, i32_w]
            rfl
          refine pure_ (i := 4) (N := some 61) (v := ?_) (a' := ?_) #[true, true, true, true, true, false, false, false, false, false, false, false, false] rfl rfl (by kernel_rfl) (fun _ _ _ h => h) (Or.inl ⟨by rfl, ?_⟩) ?_ ?_
          rotate_left
          · intro w'
            go_simp
            with_reducible rfl
          rotate_left
          · simp only [Act.put, List.setIfInBounds_toArray, List.set_cons_zero, List.set_cons_succ, i64_w, i32_w]
            rfl
          refine pure_ (i := 6) (N := some 63) (v := ?_) (a' := ?_) #[true, true, true, true, true, false, true, false, false, false, false, false, false] rfl rfl (by kernel_rfl) (fun _ _ _ h => h) (Or.inl ⟨by rfl, ?_⟩) ?_ ?_
          rotate_left
          · intro w'
            go_simp
            with_reducible rfl
          rotate_left
          · simp only [Act.put, List.setIfInBounds_toArray, List.set_cons_zero, List.set_cons_succ, i64_w, i32_w]
            rfl
          refine pure_ (i := 7) (N := some 64) (v := ?_) (a' := ?_) #[true, true, true, true, true, false, true, true, false, false, false, false, false] rfl rfl (by kernel_rfl) (fun _ _ _ h => h) (Or.inl ⟨by rfl, ?_⟩) ?_ ?_
          rotate_left
          · intro w'
            go_simp
            with_reducible rfl
          rotate_left
          · simp only [Act.put, List.setIfInBounds_toArray, List.set_cons_zero, List.set_cons_succ, i64_w, i32_w]
            rfl
          refine pure_ (i := 8) (N := some 65) (v := ?_) (a' := ?_) #[true, true, true, true, true, false, true, true, true, false, false, false, false] rfl rfl (by kernel_rfl) (fun _ _ _ h => h) (Or.inl ⟨by rfl, ?_⟩) ?_ ?_
          rotate_left
          · intro w'
            go_simp
            with_reducible rfl
          rotate_left
          · simp only [Act.put, List.setIfInBounds_toArray, List.set_cons_zero, List.set_cons_succ, i64_w, i32_w]
            rfl
          refine take_ (i := 5) (N := some 62) (v := .string (strOfNums l)) (a' := ?_) #[true, true, true, true, true, true, true, true, true, false, false, false, false] rfl rfl (by kernel_rfl) (fun _ _ _ h => h) (Or.inl ⟨by rfl, ?_⟩) hHeld ?_ ?_
          · rintro w' ⟨s0, s1⟩
            subst s1
            exact exec_convert 25 9 (Operand.tmp 61) (by rfl) _ _ (by rfl) Ks1.out
          rotate_left
          · simp only [Act.put, List.setIfInBounds_toArray, List.set_cons_zero, List.set_cons_succ, i64_w, i32_w]
            rfl
          refine take_ (i := 9) (N := some 66) (v := ?_) (a' := ?_) #[true, true, true, true, true, true, true, true, true, true, false, false, false] rfl rfl (by kernel_rfl) (fun _ _ _ h => h) (Or.inl ⟨by rfl, ?_⟩) hHeld ?_ ?_
          rotate_left
          · rintro w' ⟨s0, s1⟩
            go_simp
            with_reducible rfl
          rotate_left
          · simp only [Act.put, List.setIfInBounds_toArray, List.set_cons_zero, List.set_cons_succ, i64_w, i32_w]
            rfl
          refine take_ (i := 10) (N := some 67) (v := .string (strOfNums l)) (a' := ?_) #[true, true, true, true, true, true, true, true, true, true, true, false, false] rfl rfl (by kernel_rfl) (fun _ _ _ h => h) (Or.inl ⟨by rfl, ?_⟩) hHeld ?_ ?_
          · rintro w' ⟨s0, s1⟩
            subst s1
            exact exec_convert 25 9 (Operand.tmp 66) (by rfl) _ _ (by rfl) Ks2.out
          rotate_left
          · simp only [Act.put, List.setIfInBounds_toArray, List.set_cons_zero, List.set_cons_succ, i64_w, i32_w]
            rfl
          refine pure_ (i := 11) (N := some 68) (v := ?_) (a' := ?_) #[true, true, true, true, true, true, true, true, true, true, true, true, false] rfl rfl (by kernel_rfl) (fun _ _ _ h => h) (Or.inl ⟨by rfl, ?_⟩) ?_ ?_
          rotate_left
          · intro w'
            go_simp
            with_reducible rfl
          rotate_left
          · simp only [Act.put, List.setIfInBounds_toArray, List.set_cons_zero, List.set_cons_succ, i64_w, i32_w]
            rfl
          refine pure_ (i := 12) (N := some 69) (v := ?_) (a' := ?_) #[true, true, true, true, true, true, true, true, true, true, true, true, true] rfl rfl (by kernel_rfl) (fun _ _ _ h => h) (Or.inl ⟨by rfl, ?_⟩) ?_ ?_
          rotate_left
          · intro w'
            go_simp
            with_reducible rfl
          rotate_left
          · simp only [Act.put, List.setIfInBounds_toArray, List.set_cons_zero, List.set_cons_succ, i64_w, i32_w]
            rfl
          refine done_ (by kernel_rfl) ?_
          have KP2 := Aside0.mk (Pool.PS_below HP.out Kb2.out)
          have KR2 := Aside0.mk (Kd.R_below HRn.out Kb2.out)
          have hx3 : w2.cell? (ad2.add k) = some (.int .i64 (p : Nat)) := pw_cell_below Kb2.out hx2
          have hsI := fun (q : Nat) => Kd.C_string (P := Try.prog) (c := c1) Try.underlying25 Try.underlying5 Try.underlying9 (Kd.C_drewN (Kd.C_below KC.out KBw.out) q)
          have KsI := Aside0.mk hsI
          have hnd := Aside0.mk ((Pool.PS_facts HP.out).2.2.2.1)
          clear hx2 hsI Ks1 Ks2 hHeld HP HRn
          go_wp2
          go_loopw [12] (fun i wr => ∃ (j q : Nat), j ≤ k ∧ i = .int .i64 j ∧ wr = w2.drewN q) (fun i _ => k - (intOf i).toNat)
          case atStart => exact ⟨0, 1, by omega, rfl, rfl⟩
          case round =>
            obtain ⟨j, q, hj, rfl, rfl⟩ := hrel
            by_cases hlt3 : j < k
            · obtain ⟨p2, hnp2, hxp2⟩ := Kj.out j (by omega) (by omega)
              obtain ⟨ad', A2, c2, hA2, hd, hd1, hD⟩ := Pool.at_cell KR.out j (by omega)
              injection hA2 with hA2
              subst hA2
              obtain ⟨m, hm⟩ : ∃ m, l0[j] = m := ⟨_, rfl⟩
              rw [hm] at hd hd1 hD hxp2
              have hCn := (Kd.R_reads' KR2.out).2.2
              obtain ⟨ad3, e3, hx4⟩ := Kd.at_int hCn (j : Int) (by omega) (by rw [Kns.out]; omega)
              injection e3 with e3
              subst e3
              rw [show rd ns (j : Int) = (p2 : Int) by
                unfold rd
                rw [Int.toNat_natCast, List.getD_eq_getElem?_getD, hnp2]; rfl, Int.toNat_natCast] at hx4
              have hdw : w2.cell? (ad.add j) = some (.slice A2 m.length c2) := pw_cell_below KBw.out hd
              have hs1 := KsI.out
              have hs2 := fun (q : Nat) => Kd.C_string (P := Try.prog) (c := c2) Try.underlying25 Try.underlying5 Try.underlying9 (Kd.C_drewN (Kd.C_below hD KBw.out) q)
              have hlm : ((strOfNums l).toList == (strOfNums m).toList) = ((p : Int) == (p2 : Int)) := str_num hnd.out (Kxp.out) hxp2 (fun y hy => KG.out l (by rw [← Kl.out]; exact List.getElem_mem hlt2) y hy) (fun y hy => KG.out m (by rw [← hm]; exact List.getElem_mem (by omega)) y hy)
              clear hD hd hnp2 hxp2 hCn hm
              go_wp2
              go_quiet (fail)
              go_wp2
              go_round
              case rel => exact ⟨j + 1, _, by omega, by go_num, rfl⟩
              case measure => simp [intOf]; omega
            · go_wp2
              go_round
              case rel => exact ⟨k + 1, by omega, by go_num, ⟨Pool.PS_drewN KP2.out _⟩, ⟨Kd.R_drewN KR2.out _⟩⟩
              case measure => simp [intOf]; omega
        · have hB := (Pool.PS_lt HP.out).2.2
          have KB := Aside0.mk hB.1
          have hsz := hB.2
          clear hB
          go_wp2_with (go_at_call 41; refine (Pool.live_any _).mono ?_; rintro e w' ⟨rfl, hbel⟩)
          go_ret
          exact ⟨rfl, below_then KB.out hsz hbel⟩
end PoolOnce
end Go.Proofs.Ytgadcnlcldjhpaa
