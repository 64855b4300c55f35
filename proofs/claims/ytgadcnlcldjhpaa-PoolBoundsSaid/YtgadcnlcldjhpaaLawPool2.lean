/- As many contents, as many bytes as may be: the law's walk. -/
import Derived.Test.YtgadcnlcldjhpaaPool7
import Derived.OpenShut
set_option linter.unusedVariables false
set_option linter.unusedSimpArgs false
namespace Go.Proofs.Ytgadcnlcldjhpaa
open Go.RowKit Go.Proofs.YtgadcnlcldjhpaaW.PrintWords Go.Proofs.YtgadcnlcldjhpaaW.PrintLast Go.Proofs.YtgadcnlcldjhpaaW.PrintMore
namespace PoolBounds
/-- The j-th content. -/
def ct (k : Int) (j : Nat) : List Int := [(j : Int) % 256, (j : Int) / 256, k]
def cts (k : Int) (m : Nat) : List (List Int) := (List.range m).map (ct k)
theorem ct_inj {k : Int} {i j : Nat} (hi : i < 65536) (hj : j < 65536) (h : ct k i = ct k j) : i = j := by
  unfold ct at h
  injection h with h1 h2
  injection h2 with h2 _
  omega
theorem ct_new (k : Int) (m j : Nat) (hj : j < 65536) (h : m ≤ j) : ct k j ∉ cts k m := by
  intro hm
  obtain ⟨i, hi, he⟩ := List.mem_map.1 hm
  have := List.mem_range.1 hi
  have := ct_inj (by omega) hj he
  omega
theorem cts_len (k : Int) (m : Nat) : (cts k m).length = m := by simp [cts]
theorem cts_sum (k : Int) (m : Nat) : ((cts k m).map List.length).sum = 3 * m := by
  unfold cts
  rw [List.map_map]
  induction m with
  | zero => rfl
  | succ m ih => rw [List.range_succ, List.map_append, List.sum_append, ih]; simp [ct]; omega
theorem cts_snoc (k : Int) (m : Nat) : cts k m ++ [ct k m] = cts k (m + 1) := by
  simp [cts, List.range_succ]
theorem ct_bytes (k : Int) (hk : 0 ≤ k ∧ k < 256) (j : Nat) (hj : j < 65536) : ∀ x ∈ ct k j, 0 ≤ x ∧ x < 256 := by
  intro x hx
  simp only [ct, List.mem_cons, List.not_mem_nil, or_false] at hx
  rcases hx with rfl | rfl | rfl <;> omega
theorem new_at {k : Int} {j p : Nat} {m : Nat} (h : (cts k j ++ [ct k m])[p]? = some (ct k m)) (hm : m < 65536) (hj : j ≤ m) : p = j := by
  obtain ⟨h1, h2⟩ := List.getElem?_eq_some_iff.1 h
  simp [cts_len] at h1
  by_cases hp : p < j
  · rw [List.getElem_append_left (by rw [cts_len]; exact hp)] at h2
    exact absurd (by rw [← h2]; exact List.getElem_mem _) (ct_new k j m hm hj)
  · omega
set_option maxHeartbeats 8000000 in
set_option maxRecDepth 100000 in
theorem many (a0 : Int) (h0 : 16380 ≤ a0) (h1 : a0 ≤ 16390) (a1 : Int) (hk : 0 ≤ a1 ∧ a1 < 256) (w : World) :
    Calls Try.prog 14 #[.int .i64 a0, .int .u8 a1] w fun e w' => e = .returned (.bool true) ∧ Below w.heap.size w w' := by
  obtain ⟨N, rfl⟩ := Int.eq_ofNat_of_zero_le (by omega : 0 ≤ a0)
  obtain ⟨M, hM⟩ : ∃ M : Nat, M = 16384 := ⟨_, rfl⟩
  have hM1 : M ≤ 16384 := by omega
  have hM2 : 16384 ≤ M := by omega
  clear hM
  obtain ⟨g, hg⟩ : ∃ g, g = w.heap.size + 1 := ⟨_, rfl⟩
  obtain ⟨b, hb'⟩ : ∃ b, b = w.heap.size := ⟨_, rfl⟩
  have hnew : Calls Try.prog 42 #[] w fun e w' => e = .returned (.pointer (some ⟨g, 0, none⟩)) ∧ Pool.PS w w.heap.size g b (fun k => k ≠ g ∧ k ≠ b) w' [] := by
    rw [hg, hb']
    exact Pool.new_any w
  have KNew := Aside0.mk hnew
  clear hg hb' hnew
  go_enter Try.func14, Try.ntmps14
  go_wp2_with (go_at_call 42; refine KNew.out.mono ?_; rintro e w1 ⟨rfl, H1⟩; have K1 := Aside0.mk H1; clear H1)
  go_loopw [6] (fun i wr => ∃ j : Nat, j ≤ N ∧ i = .int .i64 j ∧ Aside0 (Pool.PS w w.heap.size g b (fun k => k ≠ g ∧ k ≠ b) wr (cts a1 (min j M)))) (fun i _ => N - (intOf i).toNat)
  case atStart => exact ⟨0, by omega, rfl, K1⟩
  case round =>
    obtain ⟨j, hj, rfl, HP⟩ := hrel
    by_cases hlt : j < N
    · by_cases hm : j < M
      · have hmin : min j M = j := by omega
        have hadd := Pool.add_lit w w.heap.size g b (cts a1 j) #[.int .u8 ((j : Int) % 256), .int .u8 ((j : Int) / 256), .int .u8 a1] (ct a1 j) wr (by rw [hmin] at HP; exact HP.out) rfl (ct_bytes a1 hk j (by omega)) (by simp [ct]) (by rw [cts_len]; omega) (by rw [cts_sum]; simp [ct]; omega)
        have Kadd := Aside0.mk hadd
        have Kmin := Aside0.mk hmin
        clear hadd hmin
        go_wp2_with (first | (go_at_call 43; refine Kadd.out.mono ?_; rintro e w2 ⟨p, fresh, ys, rfl, hp, hc, hP⟩; have hc := hc.resolve_left (fun h => ct_new a1 j j (by omega) (Nat.le_refl _) h.1); obtain ⟨-, rfl, rfl⟩ := hc; have hp0 : p = j := (new_at hp (by omega) (Nat.le_refl _)); rw [hp0]; clear hp0; have K2 := Aside0.mk hP; clear hP hp) | (go_at_call 44; refine (Pool.num_any _ _).mono ?_; rintro e w' ⟨rfl, rfl⟩))
        go_round
        case rel => exact ⟨j + 1, by omega, by go_num, ⟨by rw [show min (j + 1) M = j + 1 by omega, ← cts_snoc]; exact K2.out⟩⟩
        case measure => simp [intOf]; omega
      · have hmin : min j M = M := by omega
        have hadd := Pool.ladd_many w w.heap.size g b (cts a1 M) #[.int .u8 ((j : Int) % 256), .int .u8 ((j : Int) / 256), .int .u8 a1] (ct a1 j) wr (by rw [hmin] at HP; exact HP.out) rfl (ct_bytes a1 hk j (by omega)) (by simp [ct]) (by rw [cts_len]; omega) (ct_new a1 M j (by omega) (by omega)) (by rw [cts_sum]; simp [ct]; omega)
        have Kadd := Aside0.mk hadd
        clear hadd hmin
        go_wp2_with (first | (go_at_call 43; refine Kadd.out.mono ?_; rintro e w2 ⟨rfl, hP⟩; have K2 := Aside0.mk hP; clear hP) | (go_at_call 44; refine (Pool.num_any _ _).mono ?_; rintro e w' ⟨rfl, rfl⟩))
        go_round
        case rel => exact ⟨j + 1, by omega, by go_num, ⟨by rw [show min (j + 1) M = M by omega]; exact K2.out⟩⟩
        case measure => simp [intOf]; omega
    · have hmin : cts a1 (min j M) = ct a1 0 :: (cts a1 (min j M)).tail := by
        rw [show min j M = (min j M - 1) + 1 by omega]
        simp [cts, List.range_succ_eq_map]
      have hmem : ct a1 0 ∈ cts a1 (min j M) := by
        rw [hmin]
        simp
      have hct : ct a1 0 = [0, 0, a1] := rfl
      rw [hct] at hmem
      by_cases hle : min j M < M
      · have hadd := Pool.add_lit w w.heap.size g b (cts a1 (min j M)) #[.int .u8 0, .int .u8 0, .int .u8 a1] [0, 0, a1] wr HP.out rfl (by rw [← hct]; exact ct_bytes a1 hk 0 (by omega)) (by simp) (by rw [cts_len]; omega) (by rw [cts_sum]; simp; omega)
        have Kadd := Aside0.mk hadd
        have Kmem := Aside0.mk hmem
        clear hadd hmin hmem hct
        go_wp2_with (first | (go_at_call 43; refine Kadd.out.mono ?_; rintro e w2 ⟨p, fresh, ys, rfl, hp, hc, hP⟩; have hc := hc.resolve_right (fun h => h.1 Kmem.out); obtain ⟨-, rfl, rfl⟩ := hc; have hw2 := Pool.PS_lt hP; have Kw2 := Aside0.mk hw2.2.2.1; have hsz := hw2.2.2.2; clear hP hp hw2) | (go_at_call 44; refine (Pool.num_any _ _).mono ?_; rintro e w' ⟨rfl, rfl⟩) | (go_at_call 41; refine (Pool.live_any _).mono ?_; rintro e w' ⟨rfl, hbel⟩))
        go_ret
        exact ⟨rfl, below_then Kw2.out hsz hbel⟩
      · have hm2 : min j M = M := by omega
        have hcell : (wr.alloc (.cells #[.int .u8 0, .int .u8 0, .int .u8 a1] 5)).heap[wr.heap.size]? = some (.cells #[.int .u8 0, .int .u8 0, .int .u8 a1] 5 (0, 0)) := heap_alloc_new _ _
        have hadd := Pool.add_old w w.heap.size g b (cts a1 (min j M)) (some ⟨wr.heap.size, 0, none⟩) 3 [0, 0, a1] _ _ (Pool.PS_lit HP.out _) (Pool.cells_C hcell rfl (by simp)) (by simp) (by rw [← hct]; exact ct_bytes a1 hk 0 (by omega)) (by simp) (by rw [cts_len]; omega) hmem
        have Kadd := Aside0.mk hadd
        have KHP := Aside0.mk (Pool.PS_lit HP.out (.cells #[.int .u8 0, .int .u8 0, .int .u8 a1] 5))
        clear hadd hmin hmem hct hcell
        go_wp2_with (first | (go_at_call 43; refine Kadd.out.mono ?_; rintro e w2 ⟨p, hp, rfl, q, hq⟩; have hw2 := Pool.PS_lt (Pool.PS_drewN KHP.out q); rw [← hq] at hw2; have Kw2 := Aside0.mk hw2.2.2.1; have hsz := hw2.2.2.2; clear hp hw2 hq) | (go_at_call 44; refine (Pool.num_any _ _).mono ?_; rintro e w' ⟨rfl, rfl⟩) | (go_at_call 41; refine (Pool.live_any _).mono ?_; rintro e w' ⟨rfl, hbel⟩))
        go_ret
        exact ⟨rfl, below_then Kw2.out hsz hbel⟩
theorem zeros_ne {n m : Nat} (h : n ≠ m) : List.replicate n (0 : Int) ∉ [List.replicate m (0 : Int)] := by
  intro he
  have := congrArg List.length (List.mem_singleton.1 he)
  simp at this
  exact h this
set_option maxHeartbeats 8000000 in
set_option maxRecDepth 100000 in
theorem seven (kk : Nat) (hk : kk < 256) (w : World) :
    Calls Try.prog 14 #[.int .i64 7, .int .u8 kk] w fun e w' => e = .returned (.bool true) ∧ Below w.heap.size w w' := by
  obtain ⟨g, hg⟩ : ∃ g, g = w.heap.size + 1 := ⟨_, rfl⟩
  obtain ⟨b, hb'⟩ : ∃ b, b = w.heap.size := ⟨_, rfl⟩
  have hnew : Calls Try.prog 42 #[] w fun e w' => e = .returned (.pointer (some ⟨g, 0, none⟩)) ∧ Pool.PS w w.heap.size g b (fun k => k ≠ g ∧ k ≠ b) w' [] := by
    rw [hg, hb']
    exact Pool.new_any w
  have KNew := Aside0.mk hnew
  clear hg hb' hnew
  obtain ⟨n1, hn1, hn1a, hn1b⟩ : ∃ n1 : Nat, (8388608 : Int) - (kk : Int) = (n1 : Int) ∧ n1 + kk ≤ 8388608 ∧ 8388608 ≤ n1 + kk := ⟨8388608 - kk, by omega, by omega, by omega⟩
  obtain ⟨n2, hn2, hn2a, hn2b⟩ : ∃ n2 : Nat, (kk : Int) + 1 = (n2 : Int) ∧ n2 ≤ kk + 1 ∧ kk + 1 ≤ n2 := ⟨kk + 1, by omega, by omega, by omega⟩
  have hmk1 := run_make_row' (P := Try.prog) 25 5 (.int .u8 0) 1 Try.underlying25 Row.info8 rfl .i64 .i64 n1 (by omega) (by omega)
  have hmk2 := run_make_row' (P := Try.prog) 25 5 (.int .u8 0) 1 Try.underlying25 Row.info8 rfl .i64 .i64 n2 (by omega) (by omega)
  have hmk3 := run_make_row' (P := Try.prog) 25 5 (.int .u8 0) 1 Try.underlying25 Row.info8 rfl .i64 .i64 kk (by omega) (by omega)
  have tokA : True := trivial
  have tokB : True := trivial
  have tokC : True := trivial
  go_enter Try.func14, Try.ntmps14
  go_wp2_with (first | (go_at_call 42; refine KNew.out.mono ?_; rintro e w1 ⟨rfl, H1⟩; have K1 := Aside0.mk H1; clear H1) | (go_at_call 43; first | (have _t := tokA; refine (Pool.madd_new w w.heap.size g b [] _ n1 n1 _ (Pool.PM_made K1.out n1 (by omega)) (Nat.le_refl _) (by omega) (by simp) (by simp) (by simp; omega)).mono ?_; rintro e w2 ⟨rfl, hP⟩; have K2 := Aside0.mk hP; clear hP tokA) | (have _t := tokB; refine (Pool.madd_long w w.heap.size g b ([] ++ [List.replicate n1 0]) _ n2 n2 _ (Pool.PM_made K2.out n2 (by omega)) (Nat.le_refl _) (by omega) (by simp) (zeros_ne (by omega)) (by simp; omega) (by simp; omega)).mono ?_; rintro e w3 ⟨rfl, hP⟩; have K3 := Aside0.mk hP; clear hP tokB) | (have _t := tokC; refine (Pool.madd_new w w.heap.size g b ([] ++ [List.replicate n1 0]) _ kk kk _ (Pool.PM_made K3.out kk (by omega)) (Nat.le_refl _) (by omega) (by simp) (zeros_ne (by omega)) (by simp; omega)).mono ?_; rintro e w4 ⟨rfl, hP⟩; have hw4 := Pool.PS_lt hP; have Kw4 := Aside0.mk hw4.2.2.1; have hsz := hw4.2.2.2; clear hP hw4 tokC) | (refine (Pool.add_nil none 0 0 _).mono ?_; rintro e w5 ⟨rfl, rfl⟩)) | (go_at_call 45; refine (Pool.at_nil 0 _).mono ?_; rintro e w5 ⟨rfl, rfl⟩) | (go_at_call 47; refine (Pool.len_nil _).mono ?_; rintro e w5 ⟨rfl, rfl⟩) | (go_at_call 48; refine (Pool.bytes_nil _).mono ?_; rintro e w5 ⟨rfl, rfl⟩) | (go_at_call 44; refine (Pool.num_any _ _).mono ?_; rintro e w' ⟨rfl, rfl⟩) | (go_at_call 41; refine (Pool.live_any _).mono ?_; rintro e w' ⟨rfl, hbel⟩))
  go_ret
  exact ⟨rfl, below_then Kw4.out hsz hbel⟩
set_option maxRecDepth 100000 in
theorem other (a0 : Int) (h : a0 < 0 ∨ (0 ≤ a0 ∧ a0 < 16380 ∧ a0 ≠ 7) ∨ 16390 < a0) (a1 : Int) (w : World) :
    Calls Try.prog 14 #[.int .i64 a0, .int .u8 a1] w fun e w' => e = .returned (.bool true) ∧ Below w.heap.size w w' := by
  have KNew := Aside0.mk (Pool.new_any w)
  have hne : (a0 == 7) = false := by simp; omega
  rcases h with h | ⟨h, h2, h3⟩ | h
  all_goals
    have hge : 0 ≤ a0 ∨ a0 < 0 := by omega
    go_enter Try.func14, Try.ntmps14
    go_wp2_with (first | (go_at_call 42; refine KNew.out.mono ?_; rintro e w1 ⟨rfl, H1⟩; have hw1 := Pool.PS_lt H1; have Kw1 := Aside0.mk hw1.2.2.1; have hsz := hw1.2.2.2; clear H1 hw1) | (go_at_call 41; refine (Pool.live_any _).mono ?_; rintro e w' ⟨rfl, hbel⟩))
    go_ret
    exact ⟨rfl, below_then Kw1.out hsz hbel⟩
theorem walk (w : World) (a0 : Int) (w0 : (Lit.int .i64 a0).wf = true) (a1 : Int) (w1 : (Lit.int .u8 a1).wf = true) :
    Calls Try.prog 14 #[.int .i64 a0, .int .u8 a1] w fun e w' => e = .returned (.bool true) ∧ Below w.heap.size w w' := by
  have hb := Go.bounds_u8 w1
  by_cases h7 : a0 = 7
  · subst h7
    obtain ⟨kk, rfl⟩ := Int.eq_ofNat_of_zero_le hb.1
    exact seven kk (by omega) w
  by_cases hr : 16380 ≤ a0 ∧ a0 ≤ 16390
  · exact many a0 hr.1 hr.2 a1 ⟨by omega, by omega⟩ w
  · exact other a0 (by omega) a1 w
end PoolBounds
end Go.Proofs.Ytgadcnlcldjhpaa
