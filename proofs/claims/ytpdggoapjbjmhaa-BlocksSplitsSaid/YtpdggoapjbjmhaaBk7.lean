/- Blocks: Load, the program's and the document's: walks. -/
import Derived.Test.YtpdggoapjbjmhaaBk2
import Derived.Test.YtpdggoapjbjmhaaKN
import Derived.Test.YtpdggoapjbjmhaaLawMa3
import Derived.Test.YtpdggoapjbjmhaaPBlocksLoadsx4
import Derived.OpenShut
set_option linter.unusedVariables false
set_option linter.unusedSimpArgs false
namespace Go.Proofs.Ytpdggoapjbjmhaa.Bk
open Go.RowKit Go.Proofs.Ytpdggoapjbjmhaa.Fd Go.Proofs.Ytpdggoapjbjmhaa.Bg Go.Proofs.Ytpdggoapjbjmhaa.Lz Go.Proofs.Ytpdggoapjbjmhaa.Ma Go.Proofs.YtpdggoapjbjmhaaW.PrintWords Go.Proofs.YtpdggoapjbjmhaaW.PrintLast Go.Proofs.YtpdggoapjbjmhaaW.PrintMore
/-- What stands at a place. -/
def cutx (im : List Int) (a n : Int) : List Int := (im.drop a.toNat).take n.toNat
/-- What Load answers. -/
def ldP (im : List Int) (a word plain : Int) : List Int × Int :=
  if plain < 1 ∨ 1048576 < plain then ([], 1) else
  if word = 0 then (List.replicate plain.toNat 0, 0) else
  if (prt word).2.2 ≠ 0 ∨ ((prt word).2.1 = false ∧ (prt word).1 ≠ plain) then ([], 1) else
  if a < 0 ∨ (im.length : Int) < a + (prt word).1 + 4 then ([], 9) else
  if rdN im (a.toNat + (prt word).1.toNat) 4 ≠ Sum.crc 0 (cutx im a (prt word).1) then ([], 140) else
  if (unp (cutx im a (prt word).1) (prt word).2.1 plain).2 ≠ 0 ∨ ((unp (cutx im a (prt word).1) (prt word).2.1 plain).1.length : Int) ≠ plain then ([], 6) else ((unp (cutx im a (prt word).1) (prt word).2.1 plain).1, 0)
theorem prt_ok {word : Int} (h : (prt word).2.2 = 0) : 1 ≤ (prt word).1 ∧ (prt word).1 ≤ 1048576 := by
  unfold prt at h ⊢
  by_cases c1 : 1 ≤ word ∧ word ≤ 1048576
  · rw [if_pos c1]; exact c1
  · rw [if_neg c1] at h ⊢
    by_cases c2 : 2147483649 ≤ word ∧ word ≤ 2148532224
    · rw [if_pos c2]; show 1 ≤ word - 2147483648 ∧ word - 2147483648 ≤ 1048576; omega
    · rw [if_neg c2] at h; exact absurd h (by decide)
theorem infoU : ∃ x, Try.prog.info? 5 = some x ∧ x.size = 1 := by
  have h : (Try.prog.info? 5).map (·.size) = some 1 := by kernel_rfl
  cases hx : Try.prog.info? 5 with
  | none => rw [hx] at h; simp at h
  | some x => rw [hx] at h; exact ⟨x, rfl, by simpa using h⟩
/-- The bytes from a place on. -/
theorem cut_at (A : Option Addr) (c : Nat) (b : List Int) (p n : Nat) (hq : p + n ≤ b.length) (hc : b.length ≤ c) :
    ∃ (A' : Option Addr) (c' : Nat), n ≤ c' ∧ (∀ W : World, (Instr.slice 37 (.slice A b.length c) (some (.int .i64 (p : Int))) (some (.int .i64 ((p + n : Nat) : Int))) none).run Try.prog W = .ok (.slice A' n c') W) ∧ (∀ w : World, Kd.C (Kd.int .u8) w A b.length b → Kd.C (Kd.int .u8) w A' n ((b.drop p).take n)) := by
  obtain ⟨x, hx, hs⟩ := infoU
  have e : (b.take (p + n)).drop p = (b.drop p).take n := by rw [List.drop_take, show p + n - p = n by omega]
  have el : ((b.drop p).take n).length = n := by rw [List.length_take, List.length_drop]; omega
  obtain ⟨A', h1, h2, h3⟩ := print_mid_of (P := Try.prog) (Value.int .u8) (0 : Int) 37 5 .i64 .i64 Try.underlying37 hx hs A c b (p : Int) ((p + n : Nat) : Int) (by omega) (by omega) (by omega) hc
  simp only [Int.toNat_natCast, e, el] at h1 h2 h3
  exact ⟨A', c - p, h3, h1, fun w hC => Kd.C_of_reads (h1 := fun _ => rfl) (h2 w (Kd.reads_of_C hC))⟩
theorem w64b {x : Int} (h : -9223372036854775808 ≤ x) (h2 : x < 9223372036854775808) : wrap64 x = x := by unfold wrap64; omega
theorem nums_at (s m L t : Nat) (hl : L ≤ 1000000) (hr : s + m + 4 ≤ L) (ht : t = s + m) : (s : Int) + (m : Int) = (t : Int) ∧ wrap64 (t : Int) = (t : Int) ∧ wrap64 ((m : Int) + 4) = (m : Int) + 4 ∧ wrap64 ((L : Int) - (m : Int)) = (L : Int) - (m : Int) ∧ wrap64 ((L : Int) - (m : Int) - 4) = (L : Int) - (m : Int) - 4 ∧ wrap64 ((L : Int) - (s : Int)) = (L : Int) - (s : Int) ∧ decide ((s : Int) < 0) = false ∧ decide ((L : Int) < (m : Int) + 4) = false ∧ decide ((s : Int) > (L : Int) - (m : Int) - 4) = false ∧ decide ((s : Int) > (L : Int)) = false ∧ decide ((m : Int) + 4 > (L : Int) - (s : Int)) = false ∧ (s : Int) ≤ (t : Int) := by
  refine ⟨by omega, w64b (by omega) (by omega), w64b (by omega) (by omega), w64b (by omega) (by omega), w64b (by omega) (by omega), w64b (by omega) (by omega), decide_eq_false (by omega), decide_eq_false (by omega), decide_eq_false (by omega), decide_eq_false (by omega), decide_eq_false (by omega), by omega⟩
theorem get_any (w : World) (l : List Int) (A : Option Addr) (c a : Nat) (hC : Kd.C (Kd.int .u8) w A l.length l) (hc : l.length ≤ c) (hl : isB l) (hb : l.length ≤ 1000000) (h : a + 4 ≤ l.length) : Calls Try.prog 44 #[.slice A l.length c, .int .i64 a, .int .i64 4] w fun e w' => e = .returned (.tuple #[.int .u64 (rdN l a 4), .int .i64 0]) ∧ w = w' := by
  have KW := Aside0.mk (fun w1 => wide_yes 4 (Or.inr (Or.inr (Or.inl rfl))) w1)
  have KI := Aside0.mk (fun w1 => within_any w1 l A c a 4 (by omega) (by omega) (by decide))
  rw [decide_eq_true h] at KI
  obtain ⟨A', c', h4, hsl, hC4⟩ := cut_at A c l a 4 h hc
  have e4 : ((l.drop a).take 4).length = 4 := by rw [List.length_take, List.length_drop]; omega
  have KL := Aside0.mk (load_any w ((l.drop a).take 4) A' c' (by rw [e4]; exact hC4 w hC) (fun x hx => hl x (List.mem_of_mem_drop (List.mem_of_mem_take hx))) (by omega))
  rw [e4] at KL
  obtain ⟨t, ht⟩ : ∃ t, t = a + 4 := ⟨_, rfl⟩
  have e1 : (a : Int) + 4 = (t : Int) := by omega
  rw [← ht] at hsl
  have ht2 : t ≤ 1000000 := by omega
  clear hC hl h hC4 e4 ht
  go_enter Try.func44, Try.ntmps44
  go_wp2_with (first
    | (go_at_call 59; refine (KW.out _).mono ?_; rintro e w' ⟨rfl, rfl⟩)
    | (go_at_call 60; refine (KI.out _).mono ?_; rintro e w' ⟨rfl, rfl⟩)
    | (go_at_call 61; refine KL.out.mono ?_; rintro e w' ⟨rfl, rfl⟩))
  go_ret2
  exact ⟨rfl, rfl⟩
theorem load_l0 (l : List Int) (hl : ∀ x ∈ l, 0 ≤ x ∧ x < 256) (at_ w : Nat) (hw : w ≤ 8) (hm : at_ + w ≤ l.length) (hb : l.length ≤ 140737488351232) : ∀ j k : Nat, j ≤ w → j < k → PBlocksLoads.portmanteauref01_Load.l0 k l (at_ : Int) ((rdN l (at_ + j) (w - j) : Nat) : Int) ((j : Int) - 1) = some ((rdN l at_ w : Nat) : Int)
  | 0, k + 1, hj, hk => by rw [PBlocksLoads.portmanteauref01_Load.l0, if_neg (by omega)]; rfl
  | j + 1, k + 1, hj, hk => by
    have hx := hl l[at_ + j] (List.getElem_mem _)
    have hr : rd l ((at_ + j : Nat) : Int) = l[at_ + j] := by
      unfold rd
      rw [Int.toNat_natCast, List.getD_eq_getElem?_getD, List.getElem?_eq_getElem (by omega)]
      rfl
    have ei : wrap64 ((at_ : Int) + (((j + 1 : Nat) : Int) - 1)) = ((at_ + j : Nat) : Int) := by unfold wrap64; omega
    have ej : wrap64 (((j + 1 : Nat) : Int) - 1 - 1) = (j : Int) - 1 := by unfold wrap64; omega
    have hd : (l.drop (at_ + j)).take (w - j) = l[at_ + j] :: (l.drop (at_ + (j + 1))).take (w - (j + 1)) := by
      rw [List.drop_eq_getElem_cons (by omega), show w - j = (w - (j + 1)) + 1 by omega, List.take_succ_cons]; rfl
    have hv : rdN l (at_ + j) (w - j) = (l[at_ + j]).toNat + 256 * rdN l (at_ + (j + 1)) (w - (j + 1)) := by
      unfold rdN
      rw [hd]; rfl
    have hlt : rdN l (at_ + j) (w - j) < 18446744073709551616 := Nat.lt_of_lt_of_le (rdN_lt hl (at_ + j) (w - j) (by omega)) (pow_le8 (show w - j ≤ 8 by omega))
    have ev : IntKind.u64.wrap ((IntKind.u64.wrap (((rdN l (at_ + (j + 1)) (w - (j + 1)) : Nat) : Int) * 256)) + (IntKind.u64.wrap (rd l ((at_ + j : Nat) : Int)))) = ((rdN l (at_ + j) (w - j) : Nat) : Int) := by
      rw [hr, u64_small (((rdN l (at_ + (j + 1)) (w - (j + 1)) : Nat) : Int) * 256) (by omega) (by omega), u64_small l[at_ + j] hx.1 (by omega), u64_small _ (by omega) (by omega)]
      omega
    rw [PBlocksLoads.portmanteauref01_Load.l0, if_pos (by omega), ei, if_pos (by omega), if_pos (by omega), ev, ej]
    exact load_l0 l hl at_ w hw hm hb j k (by omega) (by omega)
theorem load_f (l : List Int) (hl : ∀ x ∈ l, 0 ≤ x ∧ x < 256) (at_ w : Nat) (hw : w ≤ 8) (hm : at_ + w ≤ l.length) (hb : l.length ≤ 140737488351232) (k : Nat) (hk : 9 ≤ k) : PBlocksLoads.portmanteauref01_Load.f k l (at_ : Int) (w : Int) = some ((rdN l at_ w : Nat) : Int) := by
  have h := load_l0 l hl at_ w hw hm hb w k (by omega) (by omega)
  rw [Nat.sub_self] at h
  unfold PBlocksLoads.portmanteauref01_Load.f
  rw [show wrap64 ((w : Int) - 1) = (w : Int) - 1 by unfold wrap64; omega]
  exact h
theorem rload_same (w : World) (l : List Int) (A : Option Addr) (c a n : Nat) (hC : Kd.C (Kd.int .u8) w A l.length l) (hc : l.length ≤ c) (hl : isB l) (hb : l.length ≤ 1000000) (hn : n ≤ 8) (hm : a + n ≤ l.length) : Calls Try.prog 41 #[.slice A l.length c, .int .i64 a, .int .i64 n] w fun e w' => e = .returned (.int .u64 (rdN l a n)) ∧ Below w.heap.size w w' :=
  (PBlocksLoads.portmanteauref01_Load.calls 20 A c l a n (rdN l a n) w hC hc (load_f l hl a n hn hm (by omega) 20 (by decide))).mono fun e w' ⟨he, ⟨nd, h⟩⟩ => ⟨he, by rw [h]; exact pw_below_drewN (Below.refl _ _) _⟩
theorem load_plain_p (w : World) (im : List Int) (A : Option Addr) (c : Nat) (a word plain : Int) (lo hi : Bool) (hlo : decide (plain < 1) = lo) (hhi : decide (plain > 1048576) = hi) (ho : lo = true ∨ (lo = false ∧ hi = true)) : Calls Try.prog 26 #[.slice A im.length c, .int .i64 a, .int .i64 word, .int .i64 plain] w fun e w' => e = .returned (.tuple #[.slice none 0 0, .int .i64 1]) ∧ w = w' := by
  rcases ho with rfl | ⟨rfl, rfl⟩
  all_goals
    go_enter Try.func26, Try.ntmps26
    go_wp2
    go_ret2
    exact ⟨rfl, rfl⟩
theorem load_zero_p (w : World) (im : List Int) (A : Option Addr) (c : Nat) (a : Int) (n : Nat) (h1 : 1 ≤ n) (h2 : n ≤ 1048576) : Calls Try.prog 26 #[.slice A im.length c, .int .i64 a, .int .i64 0, .int .i64 n] w fun e w' => ∃ v, e = .returned (.tuple #[v, .int .i64 0]) ∧ Row.OwnB w' w.heap.size v (List.replicate n 0) ∧ Below w.heap.size w w' := by
  have hd1 : decide ((n : Int) < 1) = false := decide_eq_false (by omega)
  have hd2 : decide ((n : Int) > 1048576) = false := decide_eq_false (by omega)
  go_enter Try.func26, Try.ntmps26
  go_wp2_with ((with_reducible refine gate_dst (N := 26) rfl ?_); apply Aside0.out)
  refine ⟨?_⟩
  refine Kd.R_make (Kd.int .u8) (w0 := w) w.heap.size 5 rfl (N := 26) rfl 37 _ _ rfl (n : Int) rfl rfl Try.underlying37 (.int .u8 0) 1 Row.info8 rfl (by decide) (by omega) 0 (ok := fun _ => True) (okp := fun _ => True) rfl (fun _ hk => hk) trivial (by omega) (by simp; omega) (Below.refl _ _) (Nat.le_refl _) ?_
  intro v1 w1 hR hB hg hbl
  rw [Int.toNat_natCast] at hR
  have KO : Aside0 (Row.OwnB w1 w.heap.size v1 (List.replicate n 0)) := ⟨hR⟩
  have KB := Aside0.mk hB
  obtain ⟨A1, c1, rfl, -, -⟩ := KO.out.slice
  clear hR hB hg hbl
  go_wp2
  go_ret2
  have hO2 := KO.out
  rw [List.length_replicate] at hO2
  exact ⟨_, rfl, hO2, KB.out⟩
theorem load_err_p (w : World) (im : List Int) (A : Option Addr) (c : Nat) (a word plain : Int) (h1 : 1 ≤ plain) (h2 : plain ≤ 1048576)(hw0 : word ≠ 0) (hw1 : -9223372036854775808 ≤ word) (hw2 : word ≤ 9223372036854775807) (n : Int) (p : Bool) (hp : prt word = (n, p, 1)) : Calls Try.prog 26 #[.slice A im.length c, .int .i64 a, .int .i64 word, .int .i64 plain] w fun e w' => e = .returned (.tuple #[.slice none 0 0, .int .i64 1]) ∧ Below w.heap.size w w' := by
  have KP := Aside0.mk (fun w1 => parts_any word hw1 hw2 w1)
  rw [hp] at KP
  have hd1 : decide (plain < 1) = false := decide_eq_false (by omega)
  have hd2 : decide (plain > 1048576) = false := decide_eq_false (by omega)
  have hz : (word == 0) = false := by simp [hw0]
  clear hp h1 h2 hw0 hw1 hw2
  go_enter Try.func26, Try.ntmps26
  go_wp2_with (go_at_call 15; apply Aside0.out)
  refine ⟨?_⟩
  refine (KP.out _).mono ?_
  rintro e w1 ⟨rfl, hB1⟩
  have KB1 := Aside0.mk hB1
  clear hB1
  go_wp2
  go_ret2
  exact ⟨rfl, KB1.out⟩
theorem load_size_p (w : World) (im : List Int) (A : Option Addr) (c : Nat) (a word plain : Int) (h1 : 1 ≤ plain) (h2 : plain ≤ 1048576)(hw0 : word ≠ 0) (hw1 : -9223372036854775808 ≤ word) (hw2 : word ≤ 9223372036854775807) (n : Int) (hp : prt word = (n, false, 0)) (hn : n ≠ plain) : Calls Try.prog 26 #[.slice A im.length c, .int .i64 a, .int .i64 word, .int .i64 plain] w fun e w' => e = .returned (.tuple #[.slice none 0 0, .int .i64 1]) ∧ Below w.heap.size w w' := by
  have KP := Aside0.mk (fun w1 => parts_any word hw1 hw2 w1)
  rw [hp] at KP
  have hd1 : decide (plain < 1) = false := decide_eq_false (by omega)
  have hd2 : decide (plain > 1048576) = false := decide_eq_false (by omega)
  have hz : (word == 0) = false := by simp [hw0]
  have hne : (n != plain) = true := by simp [hn]
  clear hp h1 h2 hw0 hw1 hw2 hn
  go_enter Try.func26, Try.ntmps26
  go_wp2_with (go_at_call 15; apply Aside0.out)
  refine ⟨?_⟩
  refine (KP.out _).mono ?_
  rintro e w1 ⟨rfl, hB1⟩
  have KB1 := Aside0.mk hB1
  clear hB1
  go_wp2
  go_ret2
  exact ⟨rfl, KB1.out⟩
set_option maxHeartbeats 1000000 in
theorem load_range_p (w : World) (im : List Int) (A : Option Addr) (c : Nat) (a word plain : Int) (h1 : 1 ≤ plain) (h2 : plain ≤ 1048576)(hw0 : word ≠ 0) (hw1 : -9223372036854775808 ≤ word) (hw2 : word ≤ 9223372036854775807) (n : Int) (p : Bool) (hp : prt word = (n, p, 0)) (hn : p = true ∨ (p = false ∧ n = plain)) (hl : im.length ≤ 1000000) (ha1 : -9223372036854775808 ≤ a) (ha2 : a ≤ 9223372036854775807) (hr : a < 0 ∨ (im.length : Int) < a + n + 4) : Calls Try.prog 26 #[.slice A im.length c, .int .i64 a, .int .i64 word, .int .i64 plain] w fun e w' => e = .returned (.tuple #[.slice none 0 0, .int .i64 9]) ∧ Below w.heap.size w w' := by
  have KP := Aside0.mk (fun w1 => parts_any word hw1 hw2 w1)
  rw [hp] at KP
  have hd1 : decide (plain < 1) = false := decide_eq_false (by omega)
  have hd2 : decide (plain > 1048576) = false := decide_eq_false (by omega)
  have hz : (word == 0) = false := by simp [hw0]
  obtain ⟨hn1, hn2⟩ := prt_ok (word := word) (by rw [hp])
  rw [hp] at hn1 hn2
  have hn1 : 1 ≤ n := hn1
  have hn2 : n ≤ 1048576 := hn2
  have hne : p = false → (n != plain) = false := fun hpf => by
    rcases hn with hn | ⟨-, hn⟩
    · rw [hpf] at hn; cases hn
    · simp [hn]
  obtain ⟨L, hL⟩ : ∃ L : Nat, L = im.length := ⟨_, rfl⟩
  rw [← hL] at hl hr ⊢
  have KL := Aside0.mk hL
  have hq1 : wrap64 (n + 4) = n + 4 := by unfold wrap64; omega
  have hq2 : wrap64 ((L : Int) - n) = (L : Int) - n := by unfold wrap64; omega
  have hq3 : wrap64 ((L : Int) - n - 4) = (L : Int) - n - 4 := by unfold wrap64; omega
  clear hL hp hw0 hw1 hw2 h1 h2 hn
  cases hb1 : decide (a < 0) with
  | true =>
    clear hr hq1 hq2 hq3
    cases p with
    | true =>
      go_enter Try.func26, Try.ntmps26
      go_wp2_with (go_at_call 15; apply Aside0.out)
      refine ⟨?_⟩
      refine (KP.out _).mono ?_
      rintro e w1 ⟨rfl, hB1⟩
      have KB1 := Aside0.mk hB1
      clear hB1
      go_wp2
      go_ret2
      exact ⟨rfl, KB1.out⟩
    | false =>
      have hne := hne rfl
      go_enter Try.func26, Try.ntmps26
      go_wp2_with (go_at_call 15; apply Aside0.out)
      refine ⟨?_⟩
      refine (KP.out _).mono ?_
      rintro e w1 ⟨rfl, hB1⟩
      have KB1 := Aside0.mk hB1
      clear hB1
      go_wp2
      go_ret2
      exact ⟨rfl, KB1.out⟩
  | false =>
    cases hb2 : decide ((L : Int) < n + 4) with
    | true =>
      cases p with
      | true =>
        go_enter Try.func26, Try.ntmps26
        go_wp2_with (go_at_call 15; apply Aside0.out)
        refine ⟨?_⟩
        refine (KP.out _).mono ?_
        rintro e w1 ⟨rfl, hB1⟩
        have KB1 := Aside0.mk hB1
        clear hB1
        go_wp2
        go_ret2
        exact ⟨rfl, KB1.out⟩
      | false =>
        have hne := hne rfl
        go_enter Try.func26, Try.ntmps26
        go_wp2_with (go_at_call 15; apply Aside0.out)
        refine ⟨?_⟩
        refine (KP.out _).mono ?_
        rintro e w1 ⟨rfl, hB1⟩
        have KB1 := Aside0.mk hB1
        clear hB1
        go_wp2
        go_ret2
        exact ⟨rfl, KB1.out⟩
    | false =>
      have hb3 : decide (a > (L : Int) - n - 4) = true := decide_eq_true (by have := of_decide_eq_false hb1; have := of_decide_eq_false hb2; omega)
      cases p with
      | true =>
        go_enter Try.func26, Try.ntmps26
        go_wp2_with (go_at_call 15; apply Aside0.out)
        refine ⟨?_⟩
        refine (KP.out _).mono ?_
        rintro e w1 ⟨rfl, hB1⟩
        have KB1 := Aside0.mk hB1
        clear hB1
        go_wp2
        go_ret2
        exact ⟨rfl, KB1.out⟩
      | false =>
        have hne := hne rfl
        go_enter Try.func26, Try.ntmps26
        go_wp2_with (go_at_call 15; apply Aside0.out)
        refine ⟨?_⟩
        refine (KP.out _).mono ?_
        rintro e w1 ⟨rfl, hB1⟩
        have KB1 := Aside0.mk hB1
        clear hB1
        go_wp2
        go_ret2
        exact ⟨rfl, KB1.out⟩
theorem load_plain_r (w : World) (im : List Int) (A : Option Addr) (c : Nat) (a word plain : Int) (lo hi : Bool) (hlo : decide (plain < 1) = lo) (hhi : decide (plain > 1048576) = hi) (ho : lo = true ∨ (lo = false ∧ hi = true)) : Calls Try.prog 24 #[.slice A im.length c, .int .i64 a, .int .i64 word, .int .i64 plain] w fun e w' => e = .returned (.tuple #[.slice none 0 0, .int .i64 1]) ∧ w = w' := by
  rcases ho with rfl | ⟨rfl, rfl⟩
  all_goals
    go_enter Try.func24, Try.ntmps24
    go_wp2
    go_ret2
    exact ⟨rfl, rfl⟩
theorem load_zero_r (w : World) (im : List Int) (A : Option Addr) (c : Nat) (a : Int) (n : Nat) (h1 : 1 ≤ n) (h2 : n ≤ 1048576) : Calls Try.prog 24 #[.slice A im.length c, .int .i64 a, .int .i64 0, .int .i64 n] w fun e w' => ∃ v, e = .returned (.tuple #[v, .int .i64 0]) ∧ Row.OwnB w' w.heap.size v (List.replicate n 0) ∧ Below w.heap.size w w' := by
  have hd1 : decide ((n : Int) < 1) = false := decide_eq_false (by omega)
  have hd2 : decide ((n : Int) > 1048576) = false := decide_eq_false (by omega)
  go_enter Try.func24, Try.ntmps24
  go_wp2_with ((with_reducible refine gate_dst (N := 24) rfl ?_); apply Aside0.out)
  refine ⟨?_⟩
  refine Kd.R_make (Kd.int .u8) (w0 := w) w.heap.size 5 rfl (N := 24) rfl 37 _ _ rfl (n : Int) rfl rfl Try.underlying37 (.int .u8 0) 1 Row.info8 rfl (by decide) (by omega) 0 (ok := fun _ => True) (okp := fun _ => True) rfl (fun _ hk => hk) trivial (by omega) (by simp; omega) (Below.refl _ _) (Nat.le_refl _) ?_
  intro v1 w1 hR hB hg hbl
  rw [Int.toNat_natCast] at hR
  have KO : Aside0 (Row.OwnB w1 w.heap.size v1 (List.replicate n 0)) := ⟨hR⟩
  have KB := Aside0.mk hB
  obtain ⟨A1, c1, rfl, -, -⟩ := KO.out.slice
  clear hR hB hg hbl
  go_wp2
  go_ret2
  have hO2 := KO.out
  rw [List.length_replicate] at hO2
  exact ⟨_, rfl, hO2, KB.out⟩
theorem load_err_r (w : World) (im : List Int) (A : Option Addr) (c : Nat) (a word plain : Int) (h1 : 1 ≤ plain) (h2 : plain ≤ 1048576)(hw0 : word ≠ 0) (hw1 : -9223372036854775808 ≤ word) (hw2 : word ≤ 9223372036854775807) (n : Int) (p : Bool) (hp : prt word = (n, p, 1)) : Calls Try.prog 24 #[.slice A im.length c, .int .i64 a, .int .i64 word, .int .i64 plain] w fun e w' => e = .returned (.tuple #[.slice none 0 0, .int .i64 1]) ∧ Below w.heap.size w w' := by
  have KP := Aside0.mk (fun w1 => rparts_any word hw1 hw2 w1)
  rw [hp] at KP
  have hd1 : decide (plain < 1) = false := decide_eq_false (by omega)
  have hd2 : decide (plain > 1048576) = false := decide_eq_false (by omega)
  have hz : (word == 0) = false := by simp [hw0]
  clear hp h1 h2 hw0 hw1 hw2
  go_enter Try.func24, Try.ntmps24
  go_wp2_with (go_at_call 16; apply Aside0.out)
  refine ⟨?_⟩
  refine (KP.out _).mono ?_
  rintro e w1 ⟨rfl, hB1⟩
  have KB1 := Aside0.mk hB1
  clear hB1
  go_wp2
  go_ret2
  exact ⟨rfl, KB1.out⟩
theorem load_size_r (w : World) (im : List Int) (A : Option Addr) (c : Nat) (a word plain : Int) (h1 : 1 ≤ plain) (h2 : plain ≤ 1048576)(hw0 : word ≠ 0) (hw1 : -9223372036854775808 ≤ word) (hw2 : word ≤ 9223372036854775807) (n : Int) (hp : prt word = (n, false, 0)) (hn : n ≠ plain) : Calls Try.prog 24 #[.slice A im.length c, .int .i64 a, .int .i64 word, .int .i64 plain] w fun e w' => e = .returned (.tuple #[.slice none 0 0, .int .i64 1]) ∧ Below w.heap.size w w' := by
  have KP := Aside0.mk (fun w1 => rparts_any word hw1 hw2 w1)
  rw [hp] at KP
  have hd1 : decide (plain < 1) = false := decide_eq_false (by omega)
  have hd2 : decide (plain > 1048576) = false := decide_eq_false (by omega)
  have hz : (word == 0) = false := by simp [hw0]
  have hne : (n != plain) = true := by simp [hn]
  clear hp h1 h2 hw0 hw1 hw2 hn
  go_enter Try.func24, Try.ntmps24
  go_wp2_with (go_at_call 16; apply Aside0.out)
  refine ⟨?_⟩
  refine (KP.out _).mono ?_
  rintro e w1 ⟨rfl, hB1⟩
  have KB1 := Aside0.mk hB1
  clear hB1
  go_wp2
  go_ret2
  exact ⟨rfl, KB1.out⟩
set_option maxHeartbeats 1000000 in
theorem load_range_r (w : World) (im : List Int) (A : Option Addr) (c : Nat) (a word plain : Int) (h1 : 1 ≤ plain) (h2 : plain ≤ 1048576)(hw0 : word ≠ 0) (hw1 : -9223372036854775808 ≤ word) (hw2 : word ≤ 9223372036854775807) (n : Int) (p : Bool) (hp : prt word = (n, p, 0)) (hn : p = true ∨ (p = false ∧ n = plain)) (hl : im.length ≤ 1000000) (ha1 : -9223372036854775808 ≤ a) (ha2 : a ≤ 9223372036854775807) (hr : a < 0 ∨ (im.length : Int) < a + n + 4) : Calls Try.prog 24 #[.slice A im.length c, .int .i64 a, .int .i64 word, .int .i64 plain] w fun e w' => e = .returned (.tuple #[.slice none 0 0, .int .i64 9]) ∧ Below w.heap.size w w' := by
  have KP := Aside0.mk (fun w1 => rparts_any word hw1 hw2 w1)
  rw [hp] at KP
  have hd1 : decide (plain < 1) = false := decide_eq_false (by omega)
  have hd2 : decide (plain > 1048576) = false := decide_eq_false (by omega)
  have hz : (word == 0) = false := by simp [hw0]
  obtain ⟨hn1, hn2⟩ := prt_ok (word := word) (by rw [hp])
  rw [hp] at hn1 hn2
  have hn1 : 1 ≤ n := hn1
  have hn2 : n ≤ 1048576 := hn2
  have hne : p = false → (n != plain) = false := fun hpf => by
    rcases hn with hn | ⟨-, hn⟩
    · rw [hpf] at hn; cases hn
    · simp [hn]
  obtain ⟨L, hL⟩ : ∃ L : Nat, L = im.length := ⟨_, rfl⟩
  rw [← hL] at hl hr ⊢
  have KL := Aside0.mk hL
  have hq1 : wrap64 (n + 4) = n + 4 := by unfold wrap64; omega
  clear hL hp hw0 hw1 hw2 h1 h2 hn
  cases hb1 : decide (a < 0) with
  | true =>
    clear hr hq1
    cases p with
    | true =>
      go_enter Try.func24, Try.ntmps24
      go_wp2_with (go_at_call 16; apply Aside0.out)
      refine ⟨?_⟩
      refine (KP.out _).mono ?_
      rintro e w1 ⟨rfl, hB1⟩
      have KB1 := Aside0.mk hB1
      clear hB1
      go_wp2
      go_ret2
      exact ⟨rfl, KB1.out⟩
    | false =>
      have hne := hne rfl
      go_enter Try.func24, Try.ntmps24
      go_wp2_with (go_at_call 16; apply Aside0.out)
      refine ⟨?_⟩
      refine (KP.out _).mono ?_
      rintro e w1 ⟨rfl, hB1⟩
      have KB1 := Aside0.mk hB1
      clear hB1
      go_wp2
      go_ret2
      exact ⟨rfl, KB1.out⟩
  | false =>
    cases hb2 : decide (a > (L : Int)) with
    | true =>
      cases p with
      | true =>
        go_enter Try.func24, Try.ntmps24
        go_wp2_with (go_at_call 16; apply Aside0.out)
        refine ⟨?_⟩
        refine (KP.out _).mono ?_
        rintro e w1 ⟨rfl, hB1⟩
        have KB1 := Aside0.mk hB1
        clear hB1
        go_wp2
        go_ret2
        exact ⟨rfl, KB1.out⟩
      | false =>
        have hne := hne rfl
        go_enter Try.func24, Try.ntmps24
        go_wp2_with (go_at_call 16; apply Aside0.out)
        refine ⟨?_⟩
        refine (KP.out _).mono ?_
        rintro e w1 ⟨rfl, hB1⟩
        have KB1 := Aside0.mk hB1
        clear hB1
        go_wp2
        go_ret2
        exact ⟨rfl, KB1.out⟩
    | false =>
      have hb4 := of_decide_eq_false hb1
      have hb5 := of_decide_eq_false hb2
      have hq2 : wrap64 ((L : Int) - a) = (L : Int) - a := by unfold wrap64; omega
      have hb3 : decide (n + 4 > (L : Int) - a) = true := decide_eq_true (by omega)
      clear hr hb4 hb5
      cases p with
      | true =>
        go_enter Try.func24, Try.ntmps24
        go_wp2_with (go_at_call 16; apply Aside0.out)
        refine ⟨?_⟩
        refine (KP.out _).mono ?_
        rintro e w1 ⟨rfl, hB1⟩
        have KB1 := Aside0.mk hB1
        clear hB1
        go_wp2
        go_ret2
        exact ⟨rfl, KB1.out⟩
      | false =>
        have hne := hne rfl
        go_enter Try.func24, Try.ntmps24
        go_wp2_with (go_at_call 16; apply Aside0.out)
        refine ⟨?_⟩
        refine (KP.out _).mono ?_
        rintro e w1 ⟨rfl, hB1⟩
        have KB1 := Aside0.mk hB1
        clear hB1
        go_wp2
        go_ret2
        exact ⟨rfl, KB1.out⟩
set_option maxHeartbeats 4000000 in
theorem load_sumtrue_p (w : World) (im : List Int) (A : Option Addr) (c : Nat) (s m : Nat) (word plain : Int) (hC : Kd.C (Kd.int .u8) w A im.length im) (hc : im.length ≤ c) (him : isB im) (h1 : 1 ≤ plain) (h2 : plain ≤ 1048576) (hw0 : word ≠ 0) (hw1 : -9223372036854775808 ≤ word) (hw2 : word ≤ 9223372036854775807) (hp : prt word = ((m : Int), true, 0)) (hl : im.length ≤ 1000000) (hr : s + m + 4 ≤ im.length) (y z : Nat) (hy : y = rdN im (s + m) 4) (hz : z = Sum.crc 0 ((im.drop s).take m)) (U : List Int) (ue : Int) (ku : ∀ (w1 : World) (A1 : Option Addr) (c1 : Nat), Below w.heap.size w w1 → Kd.C (Kd.int .u8) w1 A1 m ((im.drop s).take m) → m ≤ c1 → Calls Try.prog 46 #[.slice A1 m c1, .bool true, .int .i64 plain] w1 fun e w' => (∃ v, e = .returned (.tuple #[v, .int .i64 ue]) ∧ Row.OwnB w' w1.heap.size v U) ∧ Below w1.heap.size w1 w') (hyz : y ≠ z) :
    Calls Try.prog 26 #[.slice A im.length c, .int .i64 s, .int .i64 word, .int .i64 plain] w fun e w' => e = .returned (.tuple #[.slice none 0 0, .int .i64 140]) ∧ Below w.heap.size w w' := by
  have Ky := Aside0.mk hy
  have Kz := Aside0.mk hz
  clear hy hz
  have KP := Aside0.mk (fun w1 => parts_any word hw1 hw2 w1)
  rw [hp] at KP
  have hd1 : decide (plain < 1) = false := decide_eq_false (by omega)
  have hd2 : decide (plain > 1048576) = false := decide_eq_false (by omega)
  have hzz : (word == 0) = false := by simp [hw0]
  obtain ⟨A', c', hmc, hsl, hCx⟩ := cut_at A c im s m (by omega) hc
  have KCx : Aside0 (∀ w1, Below w.heap.size w w1 → Kd.C (Kd.int .u8) w1 A' m ((im.drop s).take m)) := ⟨fun w1 hb => hCx w1 (Kd.C_below hC hb)⟩
  have hix : isB ((im.drop s).take m) := fun x hx => him x (List.mem_of_mem_drop (List.mem_of_mem_take hx))
  have hxl : ((im.drop s).take m).length = m := by rw [List.length_take, List.length_drop]; omega
  have hy2 : y < 4294967296 := by rw [Ky.out]; exact rdN_lt him (s + m) 4 (by omega)
  have hz2 : z < 4294967296 := by rw [Kz.out]; exact crc_lt _
  have hyz2 : ((y : Int) != (z : Int)) = true := by simp; omega
  have hcv : IntKind.u64.wrap (z : Int) = (z : Int) := u64_small _ (by omega) (by omega)
  have KU := Aside0.mk ku
  have KG : Aside0 (∀ w1, Below w.heap.size w w1 → Calls Try.prog 44 #[.slice A im.length c, .int .i64 ((s + m : Nat) : Int), .int .i64 4] w1 fun e w' => e = .returned (.tuple #[.int .u64 y, .int .i64 0]) ∧ w1 = w') := ⟨fun w1 hb => by rw [Ky.out]; exact get_any w1 im A c (s + m) (Kd.C_below hC hb) hc him hl hr⟩
  have KX : Aside0 (∀ w1, Kd.C (Kd.int .u8) w1 A' m ((im.drop s).take m) → Calls Try.prog 45 #[.pointer none, .slice A' m c'] w1 fun e w' => e = .returned (.int .u32 z) ∧ w1 = w') := ⟨fun w1 hb => by
    have h := Sum.crc_nil A' c' ((im.drop s).take m) w1 (by rw [hxl]; exact hb) (by omega) hix
    rw [hxl, ← Kz.out] at h
    exact h⟩
  obtain ⟨L, hL⟩ : ∃ L : Nat, L = im.length := ⟨_, rfl⟩
  obtain ⟨t, ht⟩ : ∃ t : Nat, t = s + m := ⟨_, rfl⟩
  rw [← hL] at hsl KG hl hr ⊢
  rw [← ht] at hsl KG
  obtain ⟨e1, e2, q1, q2, q3, q4, hb1, hb2, hb3, hb4, hb5, st1⟩ := nums_at s m L t hl hr ht
  clear q4 hb4 hb5
  clear hL ht hp hw0 hw1 hw2 hC him hCx hix hxl hyz hr ku Ky Kz
  go_enter Try.func26, Try.ntmps26
  go_wp2_with (go_at_call 15; apply Aside0.out)
  refine ⟨?_⟩
  refine (KP.out _).mono ?_
  rintro e w1 ⟨rfl, hB1⟩
  have KB1 := Aside0.mk hB1
  clear hB1
  go_wp2_with (first | (go_at_call 44; refine (KG.out _ KB1.out).mono ?_; rintro e w' ⟨rfl, rfl⟩) | (go_at_call 45; refine (KX.out _ (KCx.out _ KB1.out)).mono ?_; rintro e w' ⟨rfl, rfl⟩))
  go_ret2
  exact ⟨rfl, KB1.out⟩
set_option maxHeartbeats 4000000 in
theorem load_sumfalse_p (w : World) (im : List Int) (A : Option Addr) (c : Nat) (s m : Nat) (word plain : Int) (hC : Kd.C (Kd.int .u8) w A im.length im) (hc : im.length ≤ c) (him : isB im) (h1 : 1 ≤ plain) (h2 : plain ≤ 1048576) (hw0 : word ≠ 0) (hw1 : -9223372036854775808 ≤ word) (hw2 : word ≤ 9223372036854775807) (hp : prt word = ((m : Int), false, 0)) (hn : (m : Int) = plain) (hl : im.length ≤ 1000000) (hr : s + m + 4 ≤ im.length) (y z : Nat) (hy : y = rdN im (s + m) 4) (hz : z = Sum.crc 0 ((im.drop s).take m)) (U : List Int) (ue : Int) (ku : ∀ (w1 : World) (A1 : Option Addr) (c1 : Nat), Below w.heap.size w w1 → Kd.C (Kd.int .u8) w1 A1 m ((im.drop s).take m) → m ≤ c1 → Calls Try.prog 46 #[.slice A1 m c1, .bool false, .int .i64 plain] w1 fun e w' => (∃ v, e = .returned (.tuple #[v, .int .i64 ue]) ∧ Row.OwnB w' w1.heap.size v U) ∧ Below w1.heap.size w1 w') (hyz : y ≠ z) :
    Calls Try.prog 26 #[.slice A im.length c, .int .i64 s, .int .i64 word, .int .i64 plain] w fun e w' => e = .returned (.tuple #[.slice none 0 0, .int .i64 140]) ∧ Below w.heap.size w w' := by
  have Ky := Aside0.mk hy
  have Kz := Aside0.mk hz
  clear hy hz
  have KP := Aside0.mk (fun w1 => parts_any word hw1 hw2 w1)
  rw [hp] at KP
  have hd1 : decide (plain < 1) = false := decide_eq_false (by omega)
  have hd2 : decide (plain > 1048576) = false := decide_eq_false (by omega)
  have hzz : (word == 0) = false := by simp [hw0]
  obtain ⟨A', c', hmc, hsl, hCx⟩ := cut_at A c im s m (by omega) hc
  have KCx : Aside0 (∀ w1, Below w.heap.size w w1 → Kd.C (Kd.int .u8) w1 A' m ((im.drop s).take m)) := ⟨fun w1 hb => hCx w1 (Kd.C_below hC hb)⟩
  have hix : isB ((im.drop s).take m) := fun x hx => him x (List.mem_of_mem_drop (List.mem_of_mem_take hx))
  have hxl : ((im.drop s).take m).length = m := by rw [List.length_take, List.length_drop]; omega
  have hy2 : y < 4294967296 := by rw [Ky.out]; exact rdN_lt him (s + m) 4 (by omega)
  have hz2 : z < 4294967296 := by rw [Kz.out]; exact crc_lt _
  have hyz2 : ((y : Int) != (z : Int)) = true := by simp; omega
  have hcv : IntKind.u64.wrap (z : Int) = (z : Int) := u64_small _ (by omega) (by omega)
  have KU := Aside0.mk ku
  have KG : Aside0 (∀ w1, Below w.heap.size w w1 → Calls Try.prog 44 #[.slice A im.length c, .int .i64 ((s + m : Nat) : Int), .int .i64 4] w1 fun e w' => e = .returned (.tuple #[.int .u64 y, .int .i64 0]) ∧ w1 = w') := ⟨fun w1 hb => by rw [Ky.out]; exact get_any w1 im A c (s + m) (Kd.C_below hC hb) hc him hl hr⟩
  have KX : Aside0 (∀ w1, Kd.C (Kd.int .u8) w1 A' m ((im.drop s).take m) → Calls Try.prog 45 #[.pointer none, .slice A' m c'] w1 fun e w' => e = .returned (.int .u32 z) ∧ w1 = w') := ⟨fun w1 hb => by
    have h := Sum.crc_nil A' c' ((im.drop s).take m) w1 (by rw [hxl]; exact hb) (by omega) hix
    rw [hxl, ← Kz.out] at h
    exact h⟩
  obtain ⟨L, hL⟩ : ∃ L : Nat, L = im.length := ⟨_, rfl⟩
  obtain ⟨t, ht⟩ : ∃ t : Nat, t = s + m := ⟨_, rfl⟩
  rw [← hL] at hsl KG hl hr ⊢
  rw [← ht] at hsl KG
  obtain ⟨e1, e2, q1, q2, q3, q4, hb1, hb2, hb3, hb4, hb5, st1⟩ := nums_at s m L t hl hr ht
  clear q4 hb4 hb5
  have hne : ((m : Int) != plain) = false := by simp [hn]
  clear hL ht hp hw0 hw1 hw2 hC him hCx hix hxl hyz hr ku Ky Kz hn
  go_enter Try.func26, Try.ntmps26
  go_wp2_with (go_at_call 15; apply Aside0.out)
  refine ⟨?_⟩
  refine (KP.out _).mono ?_
  rintro e w1 ⟨rfl, hB1⟩
  have KB1 := Aside0.mk hB1
  clear hB1
  go_wp2_with (first | (go_at_call 44; refine (KG.out _ KB1.out).mono ?_; rintro e w' ⟨rfl, rfl⟩) | (go_at_call 45; refine (KX.out _ (KCx.out _ KB1.out)).mono ?_; rintro e w' ⟨rfl, rfl⟩))
  go_ret2
  exact ⟨rfl, KB1.out⟩
set_option maxHeartbeats 4000000 in
theorem load_formtrue_p (w : World) (im : List Int) (A : Option Addr) (c : Nat) (s m : Nat) (word plain : Int) (hC : Kd.C (Kd.int .u8) w A im.length im) (hc : im.length ≤ c) (him : isB im) (h1 : 1 ≤ plain) (h2 : plain ≤ 1048576) (hw0 : word ≠ 0) (hw1 : -9223372036854775808 ≤ word) (hw2 : word ≤ 9223372036854775807) (hp : prt word = ((m : Int), true, 0)) (hl : im.length ≤ 1000000) (hr : s + m + 4 ≤ im.length) (y z : Nat) (hy : y = rdN im (s + m) 4) (hz : z = Sum.crc 0 ((im.drop s).take m)) (U : List Int) (ue : Int) (ku : ∀ (w1 : World) (A1 : Option Addr) (c1 : Nat), Below w.heap.size w w1 → Kd.C (Kd.int .u8) w1 A1 m ((im.drop s).take m) → m ≤ c1 → Calls Try.prog 46 #[.slice A1 m c1, .bool true, .int .i64 plain] w1 fun e w' => (∃ v, e = .returned (.tuple #[v, .int .i64 ue]) ∧ Row.OwnB w' w1.heap.size v U) ∧ Below w1.heap.size w1 w') (hyz : y = z) (hu : ue ≠ 0 ∨ (U.length : Int) ≠ plain) :
    Calls Try.prog 26 #[.slice A im.length c, .int .i64 s, .int .i64 word, .int .i64 plain] w fun e w' => e = .returned (.tuple #[.slice none 0 0, .int .i64 6]) ∧ Below w.heap.size w w' := by
  have Ky := Aside0.mk hy
  have Kz := Aside0.mk hz
  clear hy hz
  have KP := Aside0.mk (fun w1 => parts_any word hw1 hw2 w1)
  rw [hp] at KP
  have hd1 : decide (plain < 1) = false := decide_eq_false (by omega)
  have hd2 : decide (plain > 1048576) = false := decide_eq_false (by omega)
  have hzz : (word == 0) = false := by simp [hw0]
  obtain ⟨A', c', hmc, hsl, hCx⟩ := cut_at A c im s m (by omega) hc
  have KCx : Aside0 (∀ w1, Below w.heap.size w w1 → Kd.C (Kd.int .u8) w1 A' m ((im.drop s).take m)) := ⟨fun w1 hb => hCx w1 (Kd.C_below hC hb)⟩
  have hix : isB ((im.drop s).take m) := fun x hx => him x (List.mem_of_mem_drop (List.mem_of_mem_take hx))
  have hxl : ((im.drop s).take m).length = m := by rw [List.length_take, List.length_drop]; omega
  have hy2 : y < 4294967296 := by rw [Ky.out]; exact rdN_lt him (s + m) 4 (by omega)
  have hz2 : z < 4294967296 := by rw [Kz.out]; exact crc_lt _
  have hyz2 : ((y : Int) != (z : Int)) = false := by simp [hyz]
  have hcv : IntKind.u64.wrap (z : Int) = (z : Int) := u64_small _ (by omega) (by omega)
  have KU := Aside0.mk ku
  have KG : Aside0 (∀ w1, Below w.heap.size w w1 → Calls Try.prog 44 #[.slice A im.length c, .int .i64 ((s + m : Nat) : Int), .int .i64 4] w1 fun e w' => e = .returned (.tuple #[.int .u64 y, .int .i64 0]) ∧ w1 = w') := ⟨fun w1 hb => by rw [Ky.out]; exact get_any w1 im A c (s + m) (Kd.C_below hC hb) hc him hl hr⟩
  have KX : Aside0 (∀ w1, Kd.C (Kd.int .u8) w1 A' m ((im.drop s).take m) → Calls Try.prog 45 #[.pointer none, .slice A' m c'] w1 fun e w' => e = .returned (.int .u32 z) ∧ w1 = w') := ⟨fun w1 hb => by
    have h := Sum.crc_nil A' c' ((im.drop s).take m) w1 (by rw [hxl]; exact hb) (by omega) hix
    rw [hxl, ← Kz.out] at h
    exact h⟩
  obtain ⟨L, hL⟩ : ∃ L : Nat, L = im.length := ⟨_, rfl⟩
  obtain ⟨t, ht⟩ : ∃ t : Nat, t = s + m := ⟨_, rfl⟩
  rw [← hL] at hsl KG hl hr ⊢
  rw [← ht] at hsl KG
  obtain ⟨e1, e2, q1, q2, q3, q4, hb1, hb2, hb3, hb4, hb5, st1⟩ := nums_at s m L t hl hr ht
  clear q4 hb4 hb5
  clear hL ht hp hw0 hw1 hw2 hC him hCx hix hxl hyz hr ku Ky Kz
  go_enter Try.func26, Try.ntmps26
  go_wp2_with (go_at_call 15; apply Aside0.out)
  refine ⟨?_⟩
  refine (KP.out _).mono ?_
  rintro e w1 ⟨rfl, hB1⟩
  have KB1 := Aside0.mk hB1
  clear hB1
  go_wp2_with (first | (go_at_call 44; refine (KG.out _ KB1.out).mono ?_; rintro e w' ⟨rfl, rfl⟩) | (go_at_call 45; refine (KX.out _ (KCx.out _ KB1.out)).mono ?_; rintro e w' ⟨rfl, rfl⟩) | (go_at_call 46; apply Aside0.out))
  refine ⟨?_⟩
  refine (KU.out _ _ _ KB1.out (KCx.out _ KB1.out) hmc).mono ?_
  rintro e w2 ⟨⟨v, rfl, hO⟩, hB2⟩
  have KB2 := Aside0.mk (below_then KB1.out KB1.out.size hB2)
  have KO := Aside0.mk (hO.lower KB1.out.size)
  obtain ⟨A5, c5, rfl, -, -⟩ := hO.slice
  clear hB2 hO
  by_cases hue : ue = 0
  · subst hue
    have hq : ((U.length : Int) != plain) = true := by
      rcases hu with hu | hu
      · exact absurd rfl hu
      · simp [hu]
    clear hu
    go_wp2
    go_ret2
    exact ⟨rfl, KB2.out⟩
  · have hq : (ue != 0) = true := by simp [hue]
    clear hu
    go_wp2
    go_ret2
    exact ⟨rfl, KB2.out⟩
set_option maxHeartbeats 4000000 in
theorem load_formfalse_p (w : World) (im : List Int) (A : Option Addr) (c : Nat) (s m : Nat) (word plain : Int) (hC : Kd.C (Kd.int .u8) w A im.length im) (hc : im.length ≤ c) (him : isB im) (h1 : 1 ≤ plain) (h2 : plain ≤ 1048576) (hw0 : word ≠ 0) (hw1 : -9223372036854775808 ≤ word) (hw2 : word ≤ 9223372036854775807) (hp : prt word = ((m : Int), false, 0)) (hn : (m : Int) = plain) (hl : im.length ≤ 1000000) (hr : s + m + 4 ≤ im.length) (y z : Nat) (hy : y = rdN im (s + m) 4) (hz : z = Sum.crc 0 ((im.drop s).take m)) (U : List Int) (ue : Int) (ku : ∀ (w1 : World) (A1 : Option Addr) (c1 : Nat), Below w.heap.size w w1 → Kd.C (Kd.int .u8) w1 A1 m ((im.drop s).take m) → m ≤ c1 → Calls Try.prog 46 #[.slice A1 m c1, .bool false, .int .i64 plain] w1 fun e w' => (∃ v, e = .returned (.tuple #[v, .int .i64 ue]) ∧ Row.OwnB w' w1.heap.size v U) ∧ Below w1.heap.size w1 w') (hyz : y = z) (hu : ue ≠ 0 ∨ (U.length : Int) ≠ plain) :
    Calls Try.prog 26 #[.slice A im.length c, .int .i64 s, .int .i64 word, .int .i64 plain] w fun e w' => e = .returned (.tuple #[.slice none 0 0, .int .i64 6]) ∧ Below w.heap.size w w' := by
  have Ky := Aside0.mk hy
  have Kz := Aside0.mk hz
  clear hy hz
  have KP := Aside0.mk (fun w1 => parts_any word hw1 hw2 w1)
  rw [hp] at KP
  have hd1 : decide (plain < 1) = false := decide_eq_false (by omega)
  have hd2 : decide (plain > 1048576) = false := decide_eq_false (by omega)
  have hzz : (word == 0) = false := by simp [hw0]
  obtain ⟨A', c', hmc, hsl, hCx⟩ := cut_at A c im s m (by omega) hc
  have KCx : Aside0 (∀ w1, Below w.heap.size w w1 → Kd.C (Kd.int .u8) w1 A' m ((im.drop s).take m)) := ⟨fun w1 hb => hCx w1 (Kd.C_below hC hb)⟩
  have hix : isB ((im.drop s).take m) := fun x hx => him x (List.mem_of_mem_drop (List.mem_of_mem_take hx))
  have hxl : ((im.drop s).take m).length = m := by rw [List.length_take, List.length_drop]; omega
  have hy2 : y < 4294967296 := by rw [Ky.out]; exact rdN_lt him (s + m) 4 (by omega)
  have hz2 : z < 4294967296 := by rw [Kz.out]; exact crc_lt _
  have hyz2 : ((y : Int) != (z : Int)) = false := by simp [hyz]
  have hcv : IntKind.u64.wrap (z : Int) = (z : Int) := u64_small _ (by omega) (by omega)
  have KU := Aside0.mk ku
  have KG : Aside0 (∀ w1, Below w.heap.size w w1 → Calls Try.prog 44 #[.slice A im.length c, .int .i64 ((s + m : Nat) : Int), .int .i64 4] w1 fun e w' => e = .returned (.tuple #[.int .u64 y, .int .i64 0]) ∧ w1 = w') := ⟨fun w1 hb => by rw [Ky.out]; exact get_any w1 im A c (s + m) (Kd.C_below hC hb) hc him hl hr⟩
  have KX : Aside0 (∀ w1, Kd.C (Kd.int .u8) w1 A' m ((im.drop s).take m) → Calls Try.prog 45 #[.pointer none, .slice A' m c'] w1 fun e w' => e = .returned (.int .u32 z) ∧ w1 = w') := ⟨fun w1 hb => by
    have h := Sum.crc_nil A' c' ((im.drop s).take m) w1 (by rw [hxl]; exact hb) (by omega) hix
    rw [hxl, ← Kz.out] at h
    exact h⟩
  obtain ⟨L, hL⟩ : ∃ L : Nat, L = im.length := ⟨_, rfl⟩
  obtain ⟨t, ht⟩ : ∃ t : Nat, t = s + m := ⟨_, rfl⟩
  rw [← hL] at hsl KG hl hr ⊢
  rw [← ht] at hsl KG
  obtain ⟨e1, e2, q1, q2, q3, q4, hb1, hb2, hb3, hb4, hb5, st1⟩ := nums_at s m L t hl hr ht
  clear q4 hb4 hb5
  have hne : ((m : Int) != plain) = false := by simp [hn]
  clear hL ht hp hw0 hw1 hw2 hC him hCx hix hxl hyz hr ku Ky Kz hn
  go_enter Try.func26, Try.ntmps26
  go_wp2_with (go_at_call 15; apply Aside0.out)
  refine ⟨?_⟩
  refine (KP.out _).mono ?_
  rintro e w1 ⟨rfl, hB1⟩
  have KB1 := Aside0.mk hB1
  clear hB1
  go_wp2_with (first | (go_at_call 44; refine (KG.out _ KB1.out).mono ?_; rintro e w' ⟨rfl, rfl⟩) | (go_at_call 45; refine (KX.out _ (KCx.out _ KB1.out)).mono ?_; rintro e w' ⟨rfl, rfl⟩) | (go_at_call 46; apply Aside0.out))
  refine ⟨?_⟩
  refine (KU.out _ _ _ KB1.out (KCx.out _ KB1.out) hmc).mono ?_
  rintro e w2 ⟨⟨v, rfl, hO⟩, hB2⟩
  have KB2 := Aside0.mk (below_then KB1.out KB1.out.size hB2)
  have KO := Aside0.mk (hO.lower KB1.out.size)
  obtain ⟨A5, c5, rfl, -, -⟩ := hO.slice
  clear hB2 hO
  by_cases hue : ue = 0
  · subst hue
    have hq : ((U.length : Int) != plain) = true := by
      rcases hu with hu | hu
      · exact absurd rfl hu
      · simp [hu]
    clear hu
    go_wp2
    go_ret2
    exact ⟨rfl, KB2.out⟩
  · have hq : (ue != 0) = true := by simp [hue]
    clear hu
    go_wp2
    go_ret2
    exact ⟨rfl, KB2.out⟩
set_option maxHeartbeats 4000000 in
theorem load_oktrue_p (w : World) (im : List Int) (A : Option Addr) (c : Nat) (s m : Nat) (word plain : Int) (hC : Kd.C (Kd.int .u8) w A im.length im) (hc : im.length ≤ c) (him : isB im) (h1 : 1 ≤ plain) (h2 : plain ≤ 1048576) (hw0 : word ≠ 0) (hw1 : -9223372036854775808 ≤ word) (hw2 : word ≤ 9223372036854775807) (hp : prt word = ((m : Int), true, 0)) (hl : im.length ≤ 1000000) (hr : s + m + 4 ≤ im.length) (y z : Nat) (hy : y = rdN im (s + m) 4) (hz : z = Sum.crc 0 ((im.drop s).take m)) (U : List Int) (ue : Int) (ku : ∀ (w1 : World) (A1 : Option Addr) (c1 : Nat), Below w.heap.size w w1 → Kd.C (Kd.int .u8) w1 A1 m ((im.drop s).take m) → m ≤ c1 → Calls Try.prog 46 #[.slice A1 m c1, .bool true, .int .i64 plain] w1 fun e w' => (∃ v, e = .returned (.tuple #[v, .int .i64 ue]) ∧ Row.OwnB w' w1.heap.size v U) ∧ Below w1.heap.size w1 w') (hyz : y = z) (hu : ue = 0) (hul : (U.length : Int) = plain) :
    Calls Try.prog 26 #[.slice A im.length c, .int .i64 s, .int .i64 word, .int .i64 plain] w fun e w' => ∃ v, e = .returned (.tuple #[v, .int .i64 0]) ∧ Row.OwnB w' w.heap.size v U ∧ Below w.heap.size w w' := by
  have Ky := Aside0.mk hy
  have Kz := Aside0.mk hz
  clear hy hz
  have KP := Aside0.mk (fun w1 => parts_any word hw1 hw2 w1)
  rw [hp] at KP
  have hd1 : decide (plain < 1) = false := decide_eq_false (by omega)
  have hd2 : decide (plain > 1048576) = false := decide_eq_false (by omega)
  have hzz : (word == 0) = false := by simp [hw0]
  obtain ⟨A', c', hmc, hsl, hCx⟩ := cut_at A c im s m (by omega) hc
  have KCx : Aside0 (∀ w1, Below w.heap.size w w1 → Kd.C (Kd.int .u8) w1 A' m ((im.drop s).take m)) := ⟨fun w1 hb => hCx w1 (Kd.C_below hC hb)⟩
  have hix : isB ((im.drop s).take m) := fun x hx => him x (List.mem_of_mem_drop (List.mem_of_mem_take hx))
  have hxl : ((im.drop s).take m).length = m := by rw [List.length_take, List.length_drop]; omega
  have hy2 : y < 4294967296 := by rw [Ky.out]; exact rdN_lt him (s + m) 4 (by omega)
  have hz2 : z < 4294967296 := by rw [Kz.out]; exact crc_lt _
  have hyz2 : ((y : Int) != (z : Int)) = false := by simp [hyz]
  have hcv : IntKind.u64.wrap (z : Int) = (z : Int) := u64_small _ (by omega) (by omega)
  have KU := Aside0.mk ku
  have KG : Aside0 (∀ w1, Below w.heap.size w w1 → Calls Try.prog 44 #[.slice A im.length c, .int .i64 ((s + m : Nat) : Int), .int .i64 4] w1 fun e w' => e = .returned (.tuple #[.int .u64 y, .int .i64 0]) ∧ w1 = w') := ⟨fun w1 hb => by rw [Ky.out]; exact get_any w1 im A c (s + m) (Kd.C_below hC hb) hc him hl hr⟩
  have KX : Aside0 (∀ w1, Kd.C (Kd.int .u8) w1 A' m ((im.drop s).take m) → Calls Try.prog 45 #[.pointer none, .slice A' m c'] w1 fun e w' => e = .returned (.int .u32 z) ∧ w1 = w') := ⟨fun w1 hb => by
    have h := Sum.crc_nil A' c' ((im.drop s).take m) w1 (by rw [hxl]; exact hb) (by omega) hix
    rw [hxl, ← Kz.out] at h
    exact h⟩
  obtain ⟨L, hL⟩ : ∃ L : Nat, L = im.length := ⟨_, rfl⟩
  obtain ⟨t, ht⟩ : ∃ t : Nat, t = s + m := ⟨_, rfl⟩
  rw [← hL] at hsl KG hl hr ⊢
  rw [← ht] at hsl KG
  obtain ⟨e1, e2, q1, q2, q3, q4, hb1, hb2, hb3, hb4, hb5, st1⟩ := nums_at s m L t hl hr ht
  clear q4 hb4 hb5
  clear hL ht hp hw0 hw1 hw2 hC him hCx hix hxl hyz hr ku Ky Kz
  go_enter Try.func26, Try.ntmps26
  go_wp2_with (go_at_call 15; apply Aside0.out)
  refine ⟨?_⟩
  refine (KP.out _).mono ?_
  rintro e w1 ⟨rfl, hB1⟩
  have KB1 := Aside0.mk hB1
  clear hB1
  go_wp2_with (first | (go_at_call 44; refine (KG.out _ KB1.out).mono ?_; rintro e w' ⟨rfl, rfl⟩) | (go_at_call 45; refine (KX.out _ (KCx.out _ KB1.out)).mono ?_; rintro e w' ⟨rfl, rfl⟩) | (go_at_call 46; apply Aside0.out))
  refine ⟨?_⟩
  refine (KU.out _ _ _ KB1.out (KCx.out _ KB1.out) hmc).mono ?_
  rintro e w2 ⟨⟨v, rfl, hO⟩, hB2⟩
  have KB2 := Aside0.mk (below_then KB1.out KB1.out.size hB2)
  have KO := Aside0.mk (hO.lower KB1.out.size)
  obtain ⟨A5, c5, rfl, -, -⟩ := hO.slice
  clear hB2 hO
  subst hu
  have hq : ((U.length : Int) != plain) = false := by simp [hul]
  go_wp2
  go_ret2
  exact ⟨_, rfl, KO.out, KB2.out⟩
set_option maxHeartbeats 4000000 in
theorem load_okfalse_p (w : World) (im : List Int) (A : Option Addr) (c : Nat) (s m : Nat) (word plain : Int) (hC : Kd.C (Kd.int .u8) w A im.length im) (hc : im.length ≤ c) (him : isB im) (h1 : 1 ≤ plain) (h2 : plain ≤ 1048576) (hw0 : word ≠ 0) (hw1 : -9223372036854775808 ≤ word) (hw2 : word ≤ 9223372036854775807) (hp : prt word = ((m : Int), false, 0)) (hn : (m : Int) = plain) (hl : im.length ≤ 1000000) (hr : s + m + 4 ≤ im.length) (y z : Nat) (hy : y = rdN im (s + m) 4) (hz : z = Sum.crc 0 ((im.drop s).take m)) (U : List Int) (ue : Int) (ku : ∀ (w1 : World) (A1 : Option Addr) (c1 : Nat), Below w.heap.size w w1 → Kd.C (Kd.int .u8) w1 A1 m ((im.drop s).take m) → m ≤ c1 → Calls Try.prog 46 #[.slice A1 m c1, .bool false, .int .i64 plain] w1 fun e w' => (∃ v, e = .returned (.tuple #[v, .int .i64 ue]) ∧ Row.OwnB w' w1.heap.size v U) ∧ Below w1.heap.size w1 w') (hyz : y = z) (hu : ue = 0) (hul : (U.length : Int) = plain) :
    Calls Try.prog 26 #[.slice A im.length c, .int .i64 s, .int .i64 word, .int .i64 plain] w fun e w' => ∃ v, e = .returned (.tuple #[v, .int .i64 0]) ∧ Row.OwnB w' w.heap.size v U ∧ Below w.heap.size w w' := by
  have Ky := Aside0.mk hy
  have Kz := Aside0.mk hz
  clear hy hz
  have KP := Aside0.mk (fun w1 => parts_any word hw1 hw2 w1)
  rw [hp] at KP
  have hd1 : decide (plain < 1) = false := decide_eq_false (by omega)
  have hd2 : decide (plain > 1048576) = false := decide_eq_false (by omega)
  have hzz : (word == 0) = false := by simp [hw0]
  obtain ⟨A', c', hmc, hsl, hCx⟩ := cut_at A c im s m (by omega) hc
  have KCx : Aside0 (∀ w1, Below w.heap.size w w1 → Kd.C (Kd.int .u8) w1 A' m ((im.drop s).take m)) := ⟨fun w1 hb => hCx w1 (Kd.C_below hC hb)⟩
  have hix : isB ((im.drop s).take m) := fun x hx => him x (List.mem_of_mem_drop (List.mem_of_mem_take hx))
  have hxl : ((im.drop s).take m).length = m := by rw [List.length_take, List.length_drop]; omega
  have hy2 : y < 4294967296 := by rw [Ky.out]; exact rdN_lt him (s + m) 4 (by omega)
  have hz2 : z < 4294967296 := by rw [Kz.out]; exact crc_lt _
  have hyz2 : ((y : Int) != (z : Int)) = false := by simp [hyz]
  have hcv : IntKind.u64.wrap (z : Int) = (z : Int) := u64_small _ (by omega) (by omega)
  have KU := Aside0.mk ku
  have KG : Aside0 (∀ w1, Below w.heap.size w w1 → Calls Try.prog 44 #[.slice A im.length c, .int .i64 ((s + m : Nat) : Int), .int .i64 4] w1 fun e w' => e = .returned (.tuple #[.int .u64 y, .int .i64 0]) ∧ w1 = w') := ⟨fun w1 hb => by rw [Ky.out]; exact get_any w1 im A c (s + m) (Kd.C_below hC hb) hc him hl hr⟩
  have KX : Aside0 (∀ w1, Kd.C (Kd.int .u8) w1 A' m ((im.drop s).take m) → Calls Try.prog 45 #[.pointer none, .slice A' m c'] w1 fun e w' => e = .returned (.int .u32 z) ∧ w1 = w') := ⟨fun w1 hb => by
    have h := Sum.crc_nil A' c' ((im.drop s).take m) w1 (by rw [hxl]; exact hb) (by omega) hix
    rw [hxl, ← Kz.out] at h
    exact h⟩
  obtain ⟨L, hL⟩ : ∃ L : Nat, L = im.length := ⟨_, rfl⟩
  obtain ⟨t, ht⟩ : ∃ t : Nat, t = s + m := ⟨_, rfl⟩
  rw [← hL] at hsl KG hl hr ⊢
  rw [← ht] at hsl KG
  obtain ⟨e1, e2, q1, q2, q3, q4, hb1, hb2, hb3, hb4, hb5, st1⟩ := nums_at s m L t hl hr ht
  clear q4 hb4 hb5
  have hne : ((m : Int) != plain) = false := by simp [hn]
  clear hL ht hp hw0 hw1 hw2 hC him hCx hix hxl hyz hr ku Ky Kz hn
  go_enter Try.func26, Try.ntmps26
  go_wp2_with (go_at_call 15; apply Aside0.out)
  refine ⟨?_⟩
  refine (KP.out _).mono ?_
  rintro e w1 ⟨rfl, hB1⟩
  have KB1 := Aside0.mk hB1
  clear hB1
  go_wp2_with (first | (go_at_call 44; refine (KG.out _ KB1.out).mono ?_; rintro e w' ⟨rfl, rfl⟩) | (go_at_call 45; refine (KX.out _ (KCx.out _ KB1.out)).mono ?_; rintro e w' ⟨rfl, rfl⟩) | (go_at_call 46; apply Aside0.out))
  refine ⟨?_⟩
  refine (KU.out _ _ _ KB1.out (KCx.out _ KB1.out) hmc).mono ?_
  rintro e w2 ⟨⟨v, rfl, hO⟩, hB2⟩
  have KB2 := Aside0.mk (below_then KB1.out KB1.out.size hB2)
  have KO := Aside0.mk (hO.lower KB1.out.size)
  obtain ⟨A5, c5, rfl, -, -⟩ := hO.slice
  clear hB2 hO
  subst hu
  have hq : ((U.length : Int) != plain) = false := by simp [hul]
  go_wp2
  go_ret2
  exact ⟨_, rfl, KO.out, KB2.out⟩
set_option maxHeartbeats 4000000 in
theorem load_sumtrue_r (w : World) (im : List Int) (A : Option Addr) (c : Nat) (s m : Nat) (word plain : Int) (hC : Kd.C (Kd.int .u8) w A im.length im) (hc : im.length ≤ c) (him : isB im) (h1 : 1 ≤ plain) (h2 : plain ≤ 1048576) (hw0 : word ≠ 0) (hw1 : -9223372036854775808 ≤ word) (hw2 : word ≤ 9223372036854775807) (hp : prt word = ((m : Int), true, 0)) (hl : im.length ≤ 1000000) (hr : s + m + 4 ≤ im.length) (y z : Nat) (hy : y = rdN im (s + m) 4) (hz : z = Sum.crc 0 ((im.drop s).take m)) (U : List Int) (ue : Int) (ku : ∀ (w1 : World) (A1 : Option Addr) (c1 : Nat), Below w.heap.size w w1 → Kd.C (Kd.int .u8) w1 A1 m ((im.drop s).take m) → m ≤ c1 → Calls Try.prog 43 #[.slice A1 m c1, .bool true, .int .i64 plain] w1 fun e w' => (∃ A1 c1, e = .returned (.tuple #[.slice A1 U.length c1, .int .i64 ue]) ∧ Kd.C (Kd.int .u8) w' A1 U.length U) ∧ Below w1.heap.size w1 w') (hyz : y ≠ z) :
    Calls Try.prog 24 #[.slice A im.length c, .int .i64 s, .int .i64 word, .int .i64 plain] w fun e w' => e = .returned (.tuple #[.slice none 0 0, .int .i64 140]) ∧ Below w.heap.size w w' := by
  have Ky := Aside0.mk hy
  have Kz := Aside0.mk hz
  clear hy hz
  have KP := Aside0.mk (fun w1 => rparts_any word hw1 hw2 w1)
  rw [hp] at KP
  have hd1 : decide (plain < 1) = false := decide_eq_false (by omega)
  have hd2 : decide (plain > 1048576) = false := decide_eq_false (by omega)
  have hzz : (word == 0) = false := by simp [hw0]
  obtain ⟨A', c', hmc, hsl, hCx⟩ := cut_at A c im s m (by omega) hc
  have KCx : Aside0 (∀ w1, Below w.heap.size w w1 → Kd.C (Kd.int .u8) w1 A' m ((im.drop s).take m)) := ⟨fun w1 hb => hCx w1 (Kd.C_below hC hb)⟩
  have hix : isB ((im.drop s).take m) := fun x hx => him x (List.mem_of_mem_drop (List.mem_of_mem_take hx))
  have hxl : ((im.drop s).take m).length = m := by rw [List.length_take, List.length_drop]; omega
  have hy2 : y < 4294967296 := by rw [Ky.out]; exact rdN_lt him (s + m) 4 (by omega)
  have hz2 : z < 4294967296 := by rw [Kz.out]; exact crc_lt _
  have hyz2 : ((y : Int) != (z : Int)) = true := by simp; omega
  have hcv : IntKind.u64.wrap (z : Int) = (z : Int) := u64_small _ (by omega) (by omega)
  have KU := Aside0.mk ku
  have KG : Aside0 (∀ w1, Below w.heap.size w w1 → Calls Try.prog 41 #[.slice A im.length c, .int .i64 ((s + m : Nat) : Int), .int .i64 4] w1 fun e w' => e = .returned (.int .u64 y) ∧ Below w1.heap.size w1 w') := ⟨fun w1 hb => by rw [Ky.out]; exact rload_same w1 im A c (s + m) 4 (Kd.C_below hC hb) hc him hl (by decide) hr⟩
  have KX : Aside0 (∀ w1, Kd.C (Kd.int .u8) w1 A' m ((im.drop s).take m) → Calls Try.prog 42 #[.int .u32 0, .slice A' m c'] w1 fun e w' => e = .returned (.int .u32 z) ∧ w1 = w') := ⟨fun w1 hb => by
    have h := Sum.refCrc_any 0 (by decide) A' c' ((im.drop s).take m) w1 (by rw [hxl]; exact hb) (by omega) hix
    rw [hxl, ← Kz.out] at h
    exact h⟩
  obtain ⟨L, hL⟩ : ∃ L : Nat, L = im.length := ⟨_, rfl⟩
  obtain ⟨t, ht⟩ : ∃ t : Nat, t = s + m := ⟨_, rfl⟩
  rw [← hL] at hsl KG hl hr ⊢
  rw [← ht] at hsl KG
  obtain ⟨e1, e2, q1, q2, q3, q4, hb1, hb2, hb3, hb4, hb5, st1⟩ := nums_at s m L t hl hr ht
  obtain ⟨a, ha⟩ : ∃ a : Int, a = (s : Int) := ⟨_, rfl⟩
  rw [← ha] at hsl e1 q4 hb1 hb4 hb5 st1 ⊢
  clear ha q2 q3 hb2 hb3
  clear hL ht hp hw0 hw1 hw2 hC him hCx hix hxl hyz hr ku Ky Kz
  go_enter Try.func24, Try.ntmps24
  go_wp2_with (go_at_call 16; apply Aside0.out)
  refine ⟨?_⟩
  refine (KP.out _).mono ?_
  rintro e w1 ⟨rfl, hB1⟩
  have KB1 := Aside0.mk hB1
  clear hB1
  go_wp2_with (first | (go_at_call 41; refine (KG.out _ KB1.out).mono ?_; rintro e w1b ⟨rfl, hbG⟩; replace KB1 := Aside0.mk (below_then KB1.out KB1.out.size hbG); clear hbG) | (go_at_call 42; refine (KX.out _ (KCx.out _ KB1.out)).mono ?_; rintro e w' ⟨rfl, rfl⟩))
  go_ret2
  exact ⟨rfl, KB1.out⟩
set_option maxHeartbeats 4000000 in
theorem load_sumfalse_r (w : World) (im : List Int) (A : Option Addr) (c : Nat) (s m : Nat) (word plain : Int) (hC : Kd.C (Kd.int .u8) w A im.length im) (hc : im.length ≤ c) (him : isB im) (h1 : 1 ≤ plain) (h2 : plain ≤ 1048576) (hw0 : word ≠ 0) (hw1 : -9223372036854775808 ≤ word) (hw2 : word ≤ 9223372036854775807) (hp : prt word = ((m : Int), false, 0)) (hn : (m : Int) = plain) (hl : im.length ≤ 1000000) (hr : s + m + 4 ≤ im.length) (y z : Nat) (hy : y = rdN im (s + m) 4) (hz : z = Sum.crc 0 ((im.drop s).take m)) (U : List Int) (ue : Int) (ku : ∀ (w1 : World) (A1 : Option Addr) (c1 : Nat), Below w.heap.size w w1 → Kd.C (Kd.int .u8) w1 A1 m ((im.drop s).take m) → m ≤ c1 → Calls Try.prog 43 #[.slice A1 m c1, .bool false, .int .i64 plain] w1 fun e w' => (∃ A1 c1, e = .returned (.tuple #[.slice A1 U.length c1, .int .i64 ue]) ∧ Kd.C (Kd.int .u8) w' A1 U.length U) ∧ Below w1.heap.size w1 w') (hyz : y ≠ z) :
    Calls Try.prog 24 #[.slice A im.length c, .int .i64 s, .int .i64 word, .int .i64 plain] w fun e w' => e = .returned (.tuple #[.slice none 0 0, .int .i64 140]) ∧ Below w.heap.size w w' := by
  have Ky := Aside0.mk hy
  have Kz := Aside0.mk hz
  clear hy hz
  have KP := Aside0.mk (fun w1 => rparts_any word hw1 hw2 w1)
  rw [hp] at KP
  have hd1 : decide (plain < 1) = false := decide_eq_false (by omega)
  have hd2 : decide (plain > 1048576) = false := decide_eq_false (by omega)
  have hzz : (word == 0) = false := by simp [hw0]
  obtain ⟨A', c', hmc, hsl, hCx⟩ := cut_at A c im s m (by omega) hc
  have KCx : Aside0 (∀ w1, Below w.heap.size w w1 → Kd.C (Kd.int .u8) w1 A' m ((im.drop s).take m)) := ⟨fun w1 hb => hCx w1 (Kd.C_below hC hb)⟩
  have hix : isB ((im.drop s).take m) := fun x hx => him x (List.mem_of_mem_drop (List.mem_of_mem_take hx))
  have hxl : ((im.drop s).take m).length = m := by rw [List.length_take, List.length_drop]; omega
  have hy2 : y < 4294967296 := by rw [Ky.out]; exact rdN_lt him (s + m) 4 (by omega)
  have hz2 : z < 4294967296 := by rw [Kz.out]; exact crc_lt _
  have hyz2 : ((y : Int) != (z : Int)) = true := by simp; omega
  have hcv : IntKind.u64.wrap (z : Int) = (z : Int) := u64_small _ (by omega) (by omega)
  have KU := Aside0.mk ku
  have KG : Aside0 (∀ w1, Below w.heap.size w w1 → Calls Try.prog 41 #[.slice A im.length c, .int .i64 ((s + m : Nat) : Int), .int .i64 4] w1 fun e w' => e = .returned (.int .u64 y) ∧ Below w1.heap.size w1 w') := ⟨fun w1 hb => by rw [Ky.out]; exact rload_same w1 im A c (s + m) 4 (Kd.C_below hC hb) hc him hl (by decide) hr⟩
  have KX : Aside0 (∀ w1, Kd.C (Kd.int .u8) w1 A' m ((im.drop s).take m) → Calls Try.prog 42 #[.int .u32 0, .slice A' m c'] w1 fun e w' => e = .returned (.int .u32 z) ∧ w1 = w') := ⟨fun w1 hb => by
    have h := Sum.refCrc_any 0 (by decide) A' c' ((im.drop s).take m) w1 (by rw [hxl]; exact hb) (by omega) hix
    rw [hxl, ← Kz.out] at h
    exact h⟩
  obtain ⟨L, hL⟩ : ∃ L : Nat, L = im.length := ⟨_, rfl⟩
  obtain ⟨t, ht⟩ : ∃ t : Nat, t = s + m := ⟨_, rfl⟩
  rw [← hL] at hsl KG hl hr ⊢
  rw [← ht] at hsl KG
  obtain ⟨e1, e2, q1, q2, q3, q4, hb1, hb2, hb3, hb4, hb5, st1⟩ := nums_at s m L t hl hr ht
  obtain ⟨a, ha⟩ : ∃ a : Int, a = (s : Int) := ⟨_, rfl⟩
  rw [← ha] at hsl e1 q4 hb1 hb4 hb5 st1 ⊢
  clear ha q2 q3 hb2 hb3
  have hne : ((m : Int) != plain) = false := by simp [hn]
  clear hL ht hp hw0 hw1 hw2 hC him hCx hix hxl hyz hr ku Ky Kz hn
  go_enter Try.func24, Try.ntmps24
  go_wp2_with (go_at_call 16; apply Aside0.out)
  refine ⟨?_⟩
  refine (KP.out _).mono ?_
  rintro e w1 ⟨rfl, hB1⟩
  have KB1 := Aside0.mk hB1
  clear hB1
  go_wp2_with (first | (go_at_call 41; refine (KG.out _ KB1.out).mono ?_; rintro e w1b ⟨rfl, hbG⟩; replace KB1 := Aside0.mk (below_then KB1.out KB1.out.size hbG); clear hbG) | (go_at_call 42; refine (KX.out _ (KCx.out _ KB1.out)).mono ?_; rintro e w' ⟨rfl, rfl⟩))
  go_ret2
  exact ⟨rfl, KB1.out⟩
set_option maxHeartbeats 4000000 in
theorem load_formtrue_r (w : World) (im : List Int) (A : Option Addr) (c : Nat) (s m : Nat) (word plain : Int) (hC : Kd.C (Kd.int .u8) w A im.length im) (hc : im.length ≤ c) (him : isB im) (h1 : 1 ≤ plain) (h2 : plain ≤ 1048576) (hw0 : word ≠ 0) (hw1 : -9223372036854775808 ≤ word) (hw2 : word ≤ 9223372036854775807) (hp : prt word = ((m : Int), true, 0)) (hl : im.length ≤ 1000000) (hr : s + m + 4 ≤ im.length) (y z : Nat) (hy : y = rdN im (s + m) 4) (hz : z = Sum.crc 0 ((im.drop s).take m)) (U : List Int) (ue : Int) (ku : ∀ (w1 : World) (A1 : Option Addr) (c1 : Nat), Below w.heap.size w w1 → Kd.C (Kd.int .u8) w1 A1 m ((im.drop s).take m) → m ≤ c1 → Calls Try.prog 43 #[.slice A1 m c1, .bool true, .int .i64 plain] w1 fun e w' => (∃ A1 c1, e = .returned (.tuple #[.slice A1 U.length c1, .int .i64 ue]) ∧ Kd.C (Kd.int .u8) w' A1 U.length U) ∧ Below w1.heap.size w1 w') (hyz : y = z) (hu : ue ≠ 0 ∨ (U.length : Int) ≠ plain) :
    Calls Try.prog 24 #[.slice A im.length c, .int .i64 s, .int .i64 word, .int .i64 plain] w fun e w' => e = .returned (.tuple #[.slice none 0 0, .int .i64 6]) ∧ Below w.heap.size w w' := by
  have Ky := Aside0.mk hy
  have Kz := Aside0.mk hz
  clear hy hz
  have KP := Aside0.mk (fun w1 => rparts_any word hw1 hw2 w1)
  rw [hp] at KP
  have hd1 : decide (plain < 1) = false := decide_eq_false (by omega)
  have hd2 : decide (plain > 1048576) = false := decide_eq_false (by omega)
  have hzz : (word == 0) = false := by simp [hw0]
  obtain ⟨A', c', hmc, hsl, hCx⟩ := cut_at A c im s m (by omega) hc
  have KCx : Aside0 (∀ w1, Below w.heap.size w w1 → Kd.C (Kd.int .u8) w1 A' m ((im.drop s).take m)) := ⟨fun w1 hb => hCx w1 (Kd.C_below hC hb)⟩
  have hix : isB ((im.drop s).take m) := fun x hx => him x (List.mem_of_mem_drop (List.mem_of_mem_take hx))
  have hxl : ((im.drop s).take m).length = m := by rw [List.length_take, List.length_drop]; omega
  have hy2 : y < 4294967296 := by rw [Ky.out]; exact rdN_lt him (s + m) 4 (by omega)
  have hz2 : z < 4294967296 := by rw [Kz.out]; exact crc_lt _
  have hyz2 : ((y : Int) != (z : Int)) = false := by simp [hyz]
  have hcv : IntKind.u64.wrap (z : Int) = (z : Int) := u64_small _ (by omega) (by omega)
  have KU := Aside0.mk ku
  have KG : Aside0 (∀ w1, Below w.heap.size w w1 → Calls Try.prog 41 #[.slice A im.length c, .int .i64 ((s + m : Nat) : Int), .int .i64 4] w1 fun e w' => e = .returned (.int .u64 y) ∧ Below w1.heap.size w1 w') := ⟨fun w1 hb => by rw [Ky.out]; exact rload_same w1 im A c (s + m) 4 (Kd.C_below hC hb) hc him hl (by decide) hr⟩
  have KX : Aside0 (∀ w1, Kd.C (Kd.int .u8) w1 A' m ((im.drop s).take m) → Calls Try.prog 42 #[.int .u32 0, .slice A' m c'] w1 fun e w' => e = .returned (.int .u32 z) ∧ w1 = w') := ⟨fun w1 hb => by
    have h := Sum.refCrc_any 0 (by decide) A' c' ((im.drop s).take m) w1 (by rw [hxl]; exact hb) (by omega) hix
    rw [hxl, ← Kz.out] at h
    exact h⟩
  obtain ⟨L, hL⟩ : ∃ L : Nat, L = im.length := ⟨_, rfl⟩
  obtain ⟨t, ht⟩ : ∃ t : Nat, t = s + m := ⟨_, rfl⟩
  rw [← hL] at hsl KG hl hr ⊢
  rw [← ht] at hsl KG
  obtain ⟨e1, e2, q1, q2, q3, q4, hb1, hb2, hb3, hb4, hb5, st1⟩ := nums_at s m L t hl hr ht
  obtain ⟨a, ha⟩ : ∃ a : Int, a = (s : Int) := ⟨_, rfl⟩
  rw [← ha] at hsl e1 q4 hb1 hb4 hb5 st1 ⊢
  clear ha q2 q3 hb2 hb3
  clear hL ht hp hw0 hw1 hw2 hC him hCx hix hxl hyz hr ku Ky Kz
  go_enter Try.func24, Try.ntmps24
  go_wp2_with (go_at_call 16; apply Aside0.out)
  refine ⟨?_⟩
  refine (KP.out _).mono ?_
  rintro e w1 ⟨rfl, hB1⟩
  have KB1 := Aside0.mk hB1
  clear hB1
  go_wp2_with (first | (go_at_call 41; refine (KG.out _ KB1.out).mono ?_; rintro e w1b ⟨rfl, hbG⟩; replace KB1 := Aside0.mk (below_then KB1.out KB1.out.size hbG); clear hbG) | (go_at_call 42; refine (KX.out _ (KCx.out _ KB1.out)).mono ?_; rintro e w' ⟨rfl, rfl⟩) | (go_at_call 43; apply Aside0.out))
  refine ⟨?_⟩
  refine (KU.out _ _ _ KB1.out (KCx.out _ KB1.out) hmc).mono ?_
  rintro e w2 ⟨⟨A5, c5, rfl, hO⟩, hB2⟩
  have KB2 := Aside0.mk (below_then KB1.out KB1.out.size hB2)
  have KO := Aside0.mk hO
  clear hB2 hO
  by_cases hue : ue = 0
  · subst hue
    have hq : ((U.length : Int) != plain) = true := by
      rcases hu with hu | hu
      · exact absurd rfl hu
      · simp [hu]
    clear hu
    go_wp2
    go_ret2
    exact ⟨rfl, KB2.out⟩
  · have hq : (ue != 0) = true := by simp [hue]
    clear hu
    go_wp2
    go_ret2
    exact ⟨rfl, KB2.out⟩
set_option maxHeartbeats 4000000 in
theorem load_formfalse_r (w : World) (im : List Int) (A : Option Addr) (c : Nat) (s m : Nat) (word plain : Int) (hC : Kd.C (Kd.int .u8) w A im.length im) (hc : im.length ≤ c) (him : isB im) (h1 : 1 ≤ plain) (h2 : plain ≤ 1048576) (hw0 : word ≠ 0) (hw1 : -9223372036854775808 ≤ word) (hw2 : word ≤ 9223372036854775807) (hp : prt word = ((m : Int), false, 0)) (hn : (m : Int) = plain) (hl : im.length ≤ 1000000) (hr : s + m + 4 ≤ im.length) (y z : Nat) (hy : y = rdN im (s + m) 4) (hz : z = Sum.crc 0 ((im.drop s).take m)) (U : List Int) (ue : Int) (ku : ∀ (w1 : World) (A1 : Option Addr) (c1 : Nat), Below w.heap.size w w1 → Kd.C (Kd.int .u8) w1 A1 m ((im.drop s).take m) → m ≤ c1 → Calls Try.prog 43 #[.slice A1 m c1, .bool false, .int .i64 plain] w1 fun e w' => (∃ A1 c1, e = .returned (.tuple #[.slice A1 U.length c1, .int .i64 ue]) ∧ Kd.C (Kd.int .u8) w' A1 U.length U) ∧ Below w1.heap.size w1 w') (hyz : y = z) (hu : ue ≠ 0 ∨ (U.length : Int) ≠ plain) :
    Calls Try.prog 24 #[.slice A im.length c, .int .i64 s, .int .i64 word, .int .i64 plain] w fun e w' => e = .returned (.tuple #[.slice none 0 0, .int .i64 6]) ∧ Below w.heap.size w w' := by
  have Ky := Aside0.mk hy
  have Kz := Aside0.mk hz
  clear hy hz
  have KP := Aside0.mk (fun w1 => rparts_any word hw1 hw2 w1)
  rw [hp] at KP
  have hd1 : decide (plain < 1) = false := decide_eq_false (by omega)
  have hd2 : decide (plain > 1048576) = false := decide_eq_false (by omega)
  have hzz : (word == 0) = false := by simp [hw0]
  obtain ⟨A', c', hmc, hsl, hCx⟩ := cut_at A c im s m (by omega) hc
  have KCx : Aside0 (∀ w1, Below w.heap.size w w1 → Kd.C (Kd.int .u8) w1 A' m ((im.drop s).take m)) := ⟨fun w1 hb => hCx w1 (Kd.C_below hC hb)⟩
  have hix : isB ((im.drop s).take m) := fun x hx => him x (List.mem_of_mem_drop (List.mem_of_mem_take hx))
  have hxl : ((im.drop s).take m).length = m := by rw [List.length_take, List.length_drop]; omega
  have hy2 : y < 4294967296 := by rw [Ky.out]; exact rdN_lt him (s + m) 4 (by omega)
  have hz2 : z < 4294967296 := by rw [Kz.out]; exact crc_lt _
  have hyz2 : ((y : Int) != (z : Int)) = false := by simp [hyz]
  have hcv : IntKind.u64.wrap (z : Int) = (z : Int) := u64_small _ (by omega) (by omega)
  have KU := Aside0.mk ku
  have KG : Aside0 (∀ w1, Below w.heap.size w w1 → Calls Try.prog 41 #[.slice A im.length c, .int .i64 ((s + m : Nat) : Int), .int .i64 4] w1 fun e w' => e = .returned (.int .u64 y) ∧ Below w1.heap.size w1 w') := ⟨fun w1 hb => by rw [Ky.out]; exact rload_same w1 im A c (s + m) 4 (Kd.C_below hC hb) hc him hl (by decide) hr⟩
  have KX : Aside0 (∀ w1, Kd.C (Kd.int .u8) w1 A' m ((im.drop s).take m) → Calls Try.prog 42 #[.int .u32 0, .slice A' m c'] w1 fun e w' => e = .returned (.int .u32 z) ∧ w1 = w') := ⟨fun w1 hb => by
    have h := Sum.refCrc_any 0 (by decide) A' c' ((im.drop s).take m) w1 (by rw [hxl]; exact hb) (by omega) hix
    rw [hxl, ← Kz.out] at h
    exact h⟩
  obtain ⟨L, hL⟩ : ∃ L : Nat, L = im.length := ⟨_, rfl⟩
  obtain ⟨t, ht⟩ : ∃ t : Nat, t = s + m := ⟨_, rfl⟩
  rw [← hL] at hsl KG hl hr ⊢
  rw [← ht] at hsl KG
  obtain ⟨e1, e2, q1, q2, q3, q4, hb1, hb2, hb3, hb4, hb5, st1⟩ := nums_at s m L t hl hr ht
  obtain ⟨a, ha⟩ : ∃ a : Int, a = (s : Int) := ⟨_, rfl⟩
  rw [← ha] at hsl e1 q4 hb1 hb4 hb5 st1 ⊢
  clear ha q2 q3 hb2 hb3
  have hne : ((m : Int) != plain) = false := by simp [hn]
  clear hL ht hp hw0 hw1 hw2 hC him hCx hix hxl hyz hr ku Ky Kz hn
  go_enter Try.func24, Try.ntmps24
  go_wp2_with (go_at_call 16; apply Aside0.out)
  refine ⟨?_⟩
  refine (KP.out _).mono ?_
  rintro e w1 ⟨rfl, hB1⟩
  have KB1 := Aside0.mk hB1
  clear hB1
  go_wp2_with (first | (go_at_call 41; refine (KG.out _ KB1.out).mono ?_; rintro e w1b ⟨rfl, hbG⟩; replace KB1 := Aside0.mk (below_then KB1.out KB1.out.size hbG); clear hbG) | (go_at_call 42; refine (KX.out _ (KCx.out _ KB1.out)).mono ?_; rintro e w' ⟨rfl, rfl⟩) | (go_at_call 43; apply Aside0.out))
  refine ⟨?_⟩
  refine (KU.out _ _ _ KB1.out (KCx.out _ KB1.out) hmc).mono ?_
  rintro e w2 ⟨⟨A5, c5, rfl, hO⟩, hB2⟩
  have KB2 := Aside0.mk (below_then KB1.out KB1.out.size hB2)
  have KO := Aside0.mk hO
  clear hB2 hO
  by_cases hue : ue = 0
  · subst hue
    have hq : ((U.length : Int) != plain) = true := by
      rcases hu with hu | hu
      · exact absurd rfl hu
      · simp [hu]
    clear hu
    go_wp2
    go_ret2
    exact ⟨rfl, KB2.out⟩
  · have hq : (ue != 0) = true := by simp [hue]
    clear hu
    go_wp2
    go_ret2
    exact ⟨rfl, KB2.out⟩
set_option maxHeartbeats 4000000 in
theorem load_oktrue_r (w : World) (im : List Int) (A : Option Addr) (c : Nat) (s m : Nat) (word plain : Int) (hC : Kd.C (Kd.int .u8) w A im.length im) (hc : im.length ≤ c) (him : isB im) (h1 : 1 ≤ plain) (h2 : plain ≤ 1048576) (hw0 : word ≠ 0) (hw1 : -9223372036854775808 ≤ word) (hw2 : word ≤ 9223372036854775807) (hp : prt word = ((m : Int), true, 0)) (hl : im.length ≤ 1000000) (hr : s + m + 4 ≤ im.length) (y z : Nat) (hy : y = rdN im (s + m) 4) (hz : z = Sum.crc 0 ((im.drop s).take m)) (U : List Int) (ue : Int) (ku : ∀ (w1 : World) (A1 : Option Addr) (c1 : Nat), Below w.heap.size w w1 → Kd.C (Kd.int .u8) w1 A1 m ((im.drop s).take m) → m ≤ c1 → Calls Try.prog 43 #[.slice A1 m c1, .bool true, .int .i64 plain] w1 fun e w' => (∃ A1 c1, e = .returned (.tuple #[.slice A1 U.length c1, .int .i64 ue]) ∧ Kd.C (Kd.int .u8) w' A1 U.length U) ∧ Below w1.heap.size w1 w') (hyz : y = z) (hu : ue = 0) (hul : (U.length : Int) = plain) :
    Calls Try.prog 24 #[.slice A im.length c, .int .i64 s, .int .i64 word, .int .i64 plain] w fun e w' => ∃ A1 c1, e = .returned (.tuple #[.slice A1 U.length c1, .int .i64 0]) ∧ Kd.C (Kd.int .u8) w' A1 U.length U ∧ Below w.heap.size w w' := by
  have Ky := Aside0.mk hy
  have Kz := Aside0.mk hz
  clear hy hz
  have KP := Aside0.mk (fun w1 => rparts_any word hw1 hw2 w1)
  rw [hp] at KP
  have hd1 : decide (plain < 1) = false := decide_eq_false (by omega)
  have hd2 : decide (plain > 1048576) = false := decide_eq_false (by omega)
  have hzz : (word == 0) = false := by simp [hw0]
  obtain ⟨A', c', hmc, hsl, hCx⟩ := cut_at A c im s m (by omega) hc
  have KCx : Aside0 (∀ w1, Below w.heap.size w w1 → Kd.C (Kd.int .u8) w1 A' m ((im.drop s).take m)) := ⟨fun w1 hb => hCx w1 (Kd.C_below hC hb)⟩
  have hix : isB ((im.drop s).take m) := fun x hx => him x (List.mem_of_mem_drop (List.mem_of_mem_take hx))
  have hxl : ((im.drop s).take m).length = m := by rw [List.length_take, List.length_drop]; omega
  have hy2 : y < 4294967296 := by rw [Ky.out]; exact rdN_lt him (s + m) 4 (by omega)
  have hz2 : z < 4294967296 := by rw [Kz.out]; exact crc_lt _
  have hyz2 : ((y : Int) != (z : Int)) = false := by simp [hyz]
  have hcv : IntKind.u64.wrap (z : Int) = (z : Int) := u64_small _ (by omega) (by omega)
  have KU := Aside0.mk ku
  have KG : Aside0 (∀ w1, Below w.heap.size w w1 → Calls Try.prog 41 #[.slice A im.length c, .int .i64 ((s + m : Nat) : Int), .int .i64 4] w1 fun e w' => e = .returned (.int .u64 y) ∧ Below w1.heap.size w1 w') := ⟨fun w1 hb => by rw [Ky.out]; exact rload_same w1 im A c (s + m) 4 (Kd.C_below hC hb) hc him hl (by decide) hr⟩
  have KX : Aside0 (∀ w1, Kd.C (Kd.int .u8) w1 A' m ((im.drop s).take m) → Calls Try.prog 42 #[.int .u32 0, .slice A' m c'] w1 fun e w' => e = .returned (.int .u32 z) ∧ w1 = w') := ⟨fun w1 hb => by
    have h := Sum.refCrc_any 0 (by decide) A' c' ((im.drop s).take m) w1 (by rw [hxl]; exact hb) (by omega) hix
    rw [hxl, ← Kz.out] at h
    exact h⟩
  obtain ⟨L, hL⟩ : ∃ L : Nat, L = im.length := ⟨_, rfl⟩
  obtain ⟨t, ht⟩ : ∃ t : Nat, t = s + m := ⟨_, rfl⟩
  rw [← hL] at hsl KG hl hr ⊢
  rw [← ht] at hsl KG
  obtain ⟨e1, e2, q1, q2, q3, q4, hb1, hb2, hb3, hb4, hb5, st1⟩ := nums_at s m L t hl hr ht
  obtain ⟨a, ha⟩ : ∃ a : Int, a = (s : Int) := ⟨_, rfl⟩
  rw [← ha] at hsl e1 q4 hb1 hb4 hb5 st1 ⊢
  clear ha q2 q3 hb2 hb3
  clear hL ht hp hw0 hw1 hw2 hC him hCx hix hxl hyz hr ku Ky Kz
  go_enter Try.func24, Try.ntmps24
  go_wp2_with (go_at_call 16; apply Aside0.out)
  refine ⟨?_⟩
  refine (KP.out _).mono ?_
  rintro e w1 ⟨rfl, hB1⟩
  have KB1 := Aside0.mk hB1
  clear hB1
  go_wp2_with (first | (go_at_call 41; refine (KG.out _ KB1.out).mono ?_; rintro e w1b ⟨rfl, hbG⟩; replace KB1 := Aside0.mk (below_then KB1.out KB1.out.size hbG); clear hbG) | (go_at_call 42; refine (KX.out _ (KCx.out _ KB1.out)).mono ?_; rintro e w' ⟨rfl, rfl⟩) | (go_at_call 43; apply Aside0.out))
  refine ⟨?_⟩
  refine (KU.out _ _ _ KB1.out (KCx.out _ KB1.out) hmc).mono ?_
  rintro e w2 ⟨⟨A5, c5, rfl, hO⟩, hB2⟩
  have KB2 := Aside0.mk (below_then KB1.out KB1.out.size hB2)
  have KO := Aside0.mk hO
  clear hB2 hO
  subst hu
  have hq : ((U.length : Int) != plain) = false := by simp [hul]
  go_wp2
  go_ret2
  exact ⟨_, _, rfl, KO.out, KB2.out⟩
set_option maxHeartbeats 4000000 in
theorem load_okfalse_r (w : World) (im : List Int) (A : Option Addr) (c : Nat) (s m : Nat) (word plain : Int) (hC : Kd.C (Kd.int .u8) w A im.length im) (hc : im.length ≤ c) (him : isB im) (h1 : 1 ≤ plain) (h2 : plain ≤ 1048576) (hw0 : word ≠ 0) (hw1 : -9223372036854775808 ≤ word) (hw2 : word ≤ 9223372036854775807) (hp : prt word = ((m : Int), false, 0)) (hn : (m : Int) = plain) (hl : im.length ≤ 1000000) (hr : s + m + 4 ≤ im.length) (y z : Nat) (hy : y = rdN im (s + m) 4) (hz : z = Sum.crc 0 ((im.drop s).take m)) (U : List Int) (ue : Int) (ku : ∀ (w1 : World) (A1 : Option Addr) (c1 : Nat), Below w.heap.size w w1 → Kd.C (Kd.int .u8) w1 A1 m ((im.drop s).take m) → m ≤ c1 → Calls Try.prog 43 #[.slice A1 m c1, .bool false, .int .i64 plain] w1 fun e w' => (∃ A1 c1, e = .returned (.tuple #[.slice A1 U.length c1, .int .i64 ue]) ∧ Kd.C (Kd.int .u8) w' A1 U.length U) ∧ Below w1.heap.size w1 w') (hyz : y = z) (hu : ue = 0) (hul : (U.length : Int) = plain) :
    Calls Try.prog 24 #[.slice A im.length c, .int .i64 s, .int .i64 word, .int .i64 plain] w fun e w' => ∃ A1 c1, e = .returned (.tuple #[.slice A1 U.length c1, .int .i64 0]) ∧ Kd.C (Kd.int .u8) w' A1 U.length U ∧ Below w.heap.size w w' := by
  have Ky := Aside0.mk hy
  have Kz := Aside0.mk hz
  clear hy hz
  have KP := Aside0.mk (fun w1 => rparts_any word hw1 hw2 w1)
  rw [hp] at KP
  have hd1 : decide (plain < 1) = false := decide_eq_false (by omega)
  have hd2 : decide (plain > 1048576) = false := decide_eq_false (by omega)
  have hzz : (word == 0) = false := by simp [hw0]
  obtain ⟨A', c', hmc, hsl, hCx⟩ := cut_at A c im s m (by omega) hc
  have KCx : Aside0 (∀ w1, Below w.heap.size w w1 → Kd.C (Kd.int .u8) w1 A' m ((im.drop s).take m)) := ⟨fun w1 hb => hCx w1 (Kd.C_below hC hb)⟩
  have hix : isB ((im.drop s).take m) := fun x hx => him x (List.mem_of_mem_drop (List.mem_of_mem_take hx))
  have hxl : ((im.drop s).take m).length = m := by rw [List.length_take, List.length_drop]; omega
  have hy2 : y < 4294967296 := by rw [Ky.out]; exact rdN_lt him (s + m) 4 (by omega)
  have hz2 : z < 4294967296 := by rw [Kz.out]; exact crc_lt _
  have hyz2 : ((y : Int) != (z : Int)) = false := by simp [hyz]
  have hcv : IntKind.u64.wrap (z : Int) = (z : Int) := u64_small _ (by omega) (by omega)
  have KU := Aside0.mk ku
  have KG : Aside0 (∀ w1, Below w.heap.size w w1 → Calls Try.prog 41 #[.slice A im.length c, .int .i64 ((s + m : Nat) : Int), .int .i64 4] w1 fun e w' => e = .returned (.int .u64 y) ∧ Below w1.heap.size w1 w') := ⟨fun w1 hb => by rw [Ky.out]; exact rload_same w1 im A c (s + m) 4 (Kd.C_below hC hb) hc him hl (by decide) hr⟩
  have KX : Aside0 (∀ w1, Kd.C (Kd.int .u8) w1 A' m ((im.drop s).take m) → Calls Try.prog 42 #[.int .u32 0, .slice A' m c'] w1 fun e w' => e = .returned (.int .u32 z) ∧ w1 = w') := ⟨fun w1 hb => by
    have h := Sum.refCrc_any 0 (by decide) A' c' ((im.drop s).take m) w1 (by rw [hxl]; exact hb) (by omega) hix
    rw [hxl, ← Kz.out] at h
    exact h⟩
  obtain ⟨L, hL⟩ : ∃ L : Nat, L = im.length := ⟨_, rfl⟩
  obtain ⟨t, ht⟩ : ∃ t : Nat, t = s + m := ⟨_, rfl⟩
  rw [← hL] at hsl KG hl hr ⊢
  rw [← ht] at hsl KG
  obtain ⟨e1, e2, q1, q2, q3, q4, hb1, hb2, hb3, hb4, hb5, st1⟩ := nums_at s m L t hl hr ht
  obtain ⟨a, ha⟩ : ∃ a : Int, a = (s : Int) := ⟨_, rfl⟩
  rw [← ha] at hsl e1 q4 hb1 hb4 hb5 st1 ⊢
  clear ha q2 q3 hb2 hb3
  have hne : ((m : Int) != plain) = false := by simp [hn]
  clear hL ht hp hw0 hw1 hw2 hC him hCx hix hxl hyz hr ku Ky Kz hn
  go_enter Try.func24, Try.ntmps24
  go_wp2_with (go_at_call 16; apply Aside0.out)
  refine ⟨?_⟩
  refine (KP.out _).mono ?_
  rintro e w1 ⟨rfl, hB1⟩
  have KB1 := Aside0.mk hB1
  clear hB1
  go_wp2_with (first | (go_at_call 41; refine (KG.out _ KB1.out).mono ?_; rintro e w1b ⟨rfl, hbG⟩; replace KB1 := Aside0.mk (below_then KB1.out KB1.out.size hbG); clear hbG) | (go_at_call 42; refine (KX.out _ (KCx.out _ KB1.out)).mono ?_; rintro e w' ⟨rfl, rfl⟩) | (go_at_call 43; apply Aside0.out))
  refine ⟨?_⟩
  refine (KU.out _ _ _ KB1.out (KCx.out _ KB1.out) hmc).mono ?_
  rintro e w2 ⟨⟨A5, c5, rfl, hO⟩, hB2⟩
  have KB2 := Aside0.mk (below_then KB1.out KB1.out.size hB2)
  have KO := Aside0.mk hO
  clear hB2 hO
  subst hu
  have hq : ((U.length : Int) != plain) = false := by simp [hul]
  go_wp2
  go_ret2
  exact ⟨_, _, rfl, KO.out, KB2.out⟩
end Go.Proofs.Ytpdggoapjbjmhaa.Bk
