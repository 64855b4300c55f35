/- Contents, once: the document's answer. -/
import Derived.Test.YtgadcnlcldjhpaaPool7
set_option linter.unusedVariables false
set_option linter.unusedSimpArgs false
namespace Go.Proofs.Ytgadcnlcldjhpaa.Pool
open Go.RowKit Go.Proofs.YtgadcnlcldjhpaaW.PrintWords Go.Proofs.YtgadcnlcldjhpaaW.PrintLast Go.Proofs.YtgadcnlcldjhpaaW.PrintMore
theorem ref_find (A : Option Addr) (c : Nat) (C : List (List Int)) (B : Option Addr) (d : Nat) (l : List Int) (w : World) (hC : Kd.C dB w A C.length C) (hl : Kd.C (Kd.int .u8) w B l.length l) (hCb : ∀ x ∈ C, ∀ y ∈ x, 0 ≤ y ∧ y < 256) (hlb : ∀ y ∈ l, 0 ≤ y ∧ y < 256) (hn : C.length ≤ 1000000) :
    Calls Try.prog 51 #[.slice A C.length c, .slice B l.length d] w fun e w' => ((∃ p : Nat, C[p]? = some l ∧ e = .returned (.int .i64 p)) ∨ (l ∉ C ∧ e = .returned (.int .i64 (-1)))) ∧ ∃ k, w' = w.drewN k := by
  have KC := Aside0.mk hC
  have KCb := Aside0.mk hCb
  have KLb := Aside0.mk hlb
  have hs1 := fun (q : Nat) => Kd.C_string (P := Try.prog) (c := d) Try.underlying25 Try.underlying5 Try.underlying9 (Kd.C_drewN hl q)
  clear hC hCb hlb hl
  go_enter Try.func51, Try.ntmps51
  go_wp2
  go_loopw [5] (fun i wr => ∃ k q : Nat, k ≤ C.length ∧ i = .int .i64 k ∧ wr = w.drewN q ∧ Aside0 (∀ j, j < k → C[j]? ≠ some l)) (fun i _ => C.length - (intOf i).toNat)
  case atStart => exact ⟨0, 0, by omega, rfl, rfl, ⟨fun j h => by omega⟩⟩
  case round =>
    obtain ⟨k, q, hk, rfl, rfl, HN⟩ := hrel
    by_cases hlt : k < C.length
    · obtain ⟨ad, A0, c0, rfl, hc, -, hx⟩ := at_cell KC.out k hlt
      obtain ⟨x, hxx⟩ : ∃ x, C[k] = x := ⟨_, rfl⟩
      rw [hxx] at hc hx
      have hs2 := fun (q : Nat) => Kd.C_string (P := Try.prog) (c := c0) Try.underlying25 Try.underlying5 Try.underlying9 (Kd.C_drewN hx q)
      have hxb := KCb.out x (by rw [← hxx]; exact List.getElem_mem hlt)
      have hst := str_eq x l hxb KLb.out
      have hCk : C[k]? = some x := by rw [List.getElem?_eq_getElem hlt, hxx]
      have KCk := Aside0.mk hCk
      clear hx hxb hxx hCk
      by_cases hxl : x = l
      · have hdec : ((strOfNums x).toList == (strOfNums l).toList) = true := by rw [hst, decide_eq_true hxl]
        have KXL := Aside0.mk hxl
        clear hst hxl
        go_wp2
        go_quiet (fail)
        go_wp2
        go_ret
        exact ⟨Or.inl ⟨k, by rw [KCk.out, KXL.out], rfl⟩, q + nq, by simp⟩
      · have hdec : ((strOfNums x).toList == (strOfNums l).toList) = false := by rw [hst, decide_eq_false hxl]
        have KXL := Aside0.mk hxl
        clear hst hxl
        go_wp2
        go_quiet (fail)
        go_wp2
        go_round
        case rel =>
          refine ⟨k + 1, _, by omega, by go_num, rfl, ⟨fun j hj => ?_⟩⟩
          by_cases h : j < k
          · exact HN.out j h
          · obtain rfl : j = k := by omega
            rw [KCk.out]
            intro he
            exact KXL.out (Option.some.inj he)
        case measure => simp [intOf]; omega
    · go_wp2
      go_ret
      refine ⟨Or.inr ⟨fun hm => ?_, rfl⟩, _, rfl⟩
      obtain ⟨j, hj⟩ := List.mem_iff_getElem?.1 hm
      exact HN.out j (by have := (List.getElem?_eq_some_iff.1 hj).1; omega) hj
theorem sum_take (C : List (List Int)) (k : Nat) (hk : k < C.length) : ((C.take (k + 1)).map List.length).sum = ((C.take k).map List.length).sum + C[k].length := by
  rw [List.take_succ_eq_append_getElem hk, List.map_append, List.sum_append]
  simp
theorem sum_le (C : List (List Int)) (k : Nat) : ((C.take k).map List.length).sum ≤ (C.map List.length).sum := by
  conv => rhs; rw [← List.take_append_drop k C, List.map_append, List.sum_append]
  omega
theorem ref_bytes (A : Option Addr) (c : Nat) (C : List (List Int)) (w : World) (hC : Kd.C dB w A C.length C) (hn : C.length ≤ 1000000) (hs : (C.map List.length).sum ≤ 100000000) :
    Calls Try.prog 49 #[.slice A C.length c] w fun e w' => e = .returned (.int .i64 ((C.map List.length).sum : Nat)) ∧ w = w' := by
  have KC := Aside0.mk hC
  clear hC
  go_enter Try.func49, Try.ntmps49
  go_wp2
  go_loop [3, 4] (fun s i => ∃ k t : Nat, k ≤ C.length ∧ i = .int .i64 k ∧ s = .int .i64 t ∧ t ≤ 100000000 ∧ Aside0 (t = ((C.take k).map List.length).sum)) (fun _ i => C.length - (intOf i).toNat)
  case atStart => exact ⟨0, 0, by omega, rfl, rfl, by omega, ⟨by simp⟩⟩
  case round =>
    obtain ⟨k, t, hk, rfl, rfl, ht, HT⟩ := hrel
    by_cases hlt : k < C.length
    · obtain ⟨ad, A0, c0, rfl, hc, -, -⟩ := at_cell KC.out k hlt
      have hst := sum_take C k hlt
      have hle := sum_le C (k + 1)
      obtain ⟨n, hn'⟩ : ∃ n, C[k].length = n := ⟨_, rfl⟩
      rw [hn'] at hc hst
      have htn : t + n ≤ 100000000 := by
        have := HT.out
        omega
      have KST := Aside0.mk hst
      clear hst hle hn'
      go_wp2
      go_round
      case rel => exact ⟨k + 1, t + n, by omega, by go_num, by go_num, htn, ⟨by rw [KST.out, HT.out]⟩⟩
      case measure => simp [intOf]; omega
    · obtain rfl : k = C.length := by omega
      have h := HT.out
      rw [List.take_length] at h
      subst h
      go_wp2
      go_ret
      exact ⟨rfl, rfl⟩
/-- An empty literal of rows. -/
theorem rows_lit (W : World) (base : Nat) (ok : Nat → Prop) (hb : base ≤ W.heap.size) (hok : ok W.heap.size) : Kd.R dB 25 (W.alloc (.cells #[] 25)) base ok (.slice (some ⟨W.heap.size, 0, none⟩) 0 0) [] := by
  refine ⟨fun k hk => ?_, [], ?_, Reps.none _ _⟩
  · have : k = W.heap.size := by simpa [Value.ownBlock] using hk.symm
    rw [this]
    exact hok
  · exact World.ownsRow_lit (base := base) (e := 25) (size := 1) W #[] 0 hb (by decide) rfl
set_option maxHeartbeats 4000000 in
set_option maxRecDepth 100000 in
/-- The document's Add: what is there. -/
theorem ref_add_old (A : Option Addr) (c : Nat) (C : List (List Int)) (B : Option Addr) (d : Nat) (l : List Int) (w : World) (hC : Kd.C dB w A C.length C) (hl : Kd.C (Kd.int .u8) w B l.length l) (hCb : ∀ x ∈ C, ∀ y ∈ x, 0 ≤ y ∧ y < 256) (hlb : ∀ y ∈ l, 0 ≤ y ∧ y < 256) (hn : C.length ≤ 1000000) (hm : l ∈ C) :
    Calls Try.prog 46 #[.slice A C.length c, .slice B l.length d] w fun e w' => ∃ p : Nat, C[p]? = some l ∧ e = .returned (.tuple #[.slice A C.length c, .int .i64 p, .bool false, .int .i64 0]) ∧ ∃ k, w' = w.drewN k := by
  have KF := Aside0.mk (ref_find A c C B d l w hC hl hCb hlb hn)
  clear hC hl hCb hlb
  go_enter Try.func46, Try.ntmps46
  go_wp2_with (go_at_call 51; refine KF.out.mono ?_; rintro e w1 ⟨h, k, rfl⟩; have h := h.resolve_right (fun h => h.1 hm); obtain ⟨p, hp, rfl⟩ := h)
  refine bodyPost_ret (results_list (rs := [.tmp 4, .tmp 5, .tmp 6, .tmp 7]) rfl (by simp) (.tmp (.tmp (.tmp (.tmp .nil))))) rfl ?_
  exact ⟨p, hp, rfl, k, rfl⟩
theorem rows_read {W : World} {base n c : Nat} {Z : Nat → Prop} {A : Option Addr} {C : List (List Int)} (h : Kd.R dB 25 W base Z (.slice A n c) C) : ReadsRow (dB.M W base Z) dB.sz W A n C := by
  obtain ⟨A', c', hv, -, hr⟩ := (OwnRow.imp_ h.2 (fun _ _ hp => dB.M_mono (fun k hk => hk.1) hp)).reads
  injection hv with h1 h2 h3
  subst h1
  subst h2
  exact hr
theorem own_ge {A : Option Addr} {n c B b0 : Nat} {u : Value} (h : (Value.slice A n c).ownBlock = u.ownBlock ∨ ∃ b, (Value.slice A n c).ownBlock = some b ∧ b0 ≤ b) (hu : ∀ q, u.ownBlock = some q → B ≤ q := by intro q hq; simp [Value.ownBlock] at hq; omega) (hb : B ≤ b0 := by simp) : ∀ q, (Value.slice A n c).ownBlock = some q → B ≤ q := by
  intro q hq
  rcases h with h | ⟨b, h, hle⟩
  · exact hu q (h ▸ hq)
  · rw [h] at hq
    have := Option.some.inj hq
    omega
theorem grown_below {w w1 w2 : World} {B : Nat} {row : Option Nat} (h : Below B w w1) (hg : w1.grownBy w2 row) (hB : B ≤ w1.heap.size) (hr : ∀ j, row = some j → B ≤ j) : Below B w w2 := h.grown hg hB hr
set_option maxHeartbeats 4000000 in
set_option maxRecDepth 100000 in
/-- The document's Add: what is new. -/
theorem ref_add_new (w0 : World) (base : Nat) (A : Option Addr) (c : Nat) (C : List (List Int)) (Z : Nat → Prop) (B : Option Addr) (d : Nat) (l : List Int) (w : World) (hR : Kd.R dB 25 w base Z (.slice A C.length c) C) (hZ : ∀ k, Z k → k < w.heap.size) (hl : Kd.C (Kd.int .u8) w B l.length l) (hCb : ∀ x ∈ C, ∀ y ∈ x, 0 ≤ y ∧ y < 256) (hlb : ∀ y ∈ l, 0 ≤ y ∧ y < 256) (hn : C.length < 16384) (hm : l ∉ C) (hs : (C.map List.length).sum + l.length ≤ 8388608) (hB : Below base w0 w) (hbase : base ≤ w.heap.size) :
    Calls Try.prog 46 #[.slice A C.length c, .slice B l.length d] w fun e w' => ∃ (A' : Option Addr) (c' : Nat), e = .returned (.tuple #[.slice A' (C.length + 1) c', .int .i64 C.length, .bool true, .int .i64 0]) ∧ Kd.R dB 25 w' base (fun k => Z k ∨ w.heap.size ≤ k) (.slice A' (C.length + 1) c') (C ++ [l]) ∧ Below base w0 w' ∧ Below w.heap.size w w' := by
  have hC := (Kd.R_reads' hR).2.2
  have KF := Aside0.mk (ref_find A c C B d l w hC hl hCb hlb (by omega))
  have KB := fun (q : Nat) => Aside0.mk (ref_bytes A c C (w.drewN q) (Kd.C_drewN hC q) (by omega) (by omega))
  have KR := Aside0.mk hR
  have Kl := Aside0.mk hl
  have KBw := Aside0.mk hB
  have KZ := Aside0.mk hZ
  obtain ⟨t, ht⟩ : ∃ t, t = (C.map List.length).sum := ⟨_, rfl⟩
  rw [← ht] at hs KB
  clear hR hC hl hCb hlb hB ht hZ
  go_enter Try.func46, Try.ntmps46
  go_wp2_with (first | (go_at_call 51; refine KF.out.mono ?_; rintro e w1 ⟨h, k, rfl⟩; have h := h.resolve_left (by rintro ⟨p, hp, -⟩; exact hm (List.mem_of_getElem? hp)); obtain ⟨-, rfl⟩ := h) | (go_at_call 49; refine (KB _).out.mono ?_; rintro e w2 ⟨rfl, rfl⟩) | ((with_reducible refine gate_builtin (b := .append) (xs := #[.tmp 27, .tmp 28]) rfl ?_); refine Kd.R_append_rows dB (Rr := dB.M ((w.drewN k).alloc (.cells #[] 25)) base Z) (w0 := w0) base rfl (.tmp 27) (.tmp 28) 69 25 (.slice none 0 0) 24 rfl Try.underlying69 info25 rfl (by decide) (by decide) (.slice (some ⟨w.heap.size, 0, none⟩) 0 0) [] C A C.length c (fun q => Z q ∨ w.heap.size ≤ q) Z rfl rfl (rows_lit (w.drewN k) base _ hbase (Or.inr (Nat.le_refl _))) (rows_read (Kd.R_alloc (Kd.R_drewN KR.out k) _)) (fun _ _ h => h) (fun q hq => ⟨Or.inl hq, fun he => by have := KZ.out q hq; simp [Value.ownBlock] at he; omega⟩) (fun q hq => Or.inr (by simp at hq; omega)) (below_then KBw.out hbase (below_alloc (pw_below_drewN (Below.refl w.heap.size w) k) _)) (by simp; omega) (by simp; omega) ?_; intro v2 w2 h2 hB2 hg2 hat2; rw [List.nil_append] at h2; obtain ⟨A2, c2, rfl⟩ := Kd.R_slice h2; have hl2 := grown_below (below_alloc (pw_below_drewN (Below.refl w.heap.size w) k) _) hg2 (by simp) (by intro j hj; simp [Value.ownBlock] at hj; omega); have hown2 : ∀ q, (Value.slice A2 C.length c2).ownBlock = some q → w.heap.size ≤ q := own_ge hat2; have K2 := Aside0.mk h2; have KB2 := Aside0.mk hB2; have KL2 := Aside0.mk hl2; have Kown2 := Aside0.mk hown2; have hsz2 : w.heap.size ≤ w2.heap.size := hl2.size; have KC2 := Aside0.mk (Kd.C_alloc (Kd.C_below Kl.out hl2) (.cells #[] 5)); clear h2 hB2 hg2 hat2 hl2 hown2) | ((with_reducible refine gate_builtin (b := .append) (xs := #[.tmp 30, .tmp 31]) rfl ?_); refine Row.app_rows (w0 := w2) w2.heap.size rfl (.tmp 30) (.tmp 31) rfl (.slice (some ⟨w2.heap.size, 0, none⟩) 0 0) [] l B l.length d rfl rfl (Row.OwnB.lit w2 w2.heap.size #[] [] rfl (Nat.le_refl _) (by decide)) KC2.out (below_alloc (Below.refl _ _) _) (by simp) (by simp; omega) ?_; intro zs A3 c3 w3 hz3 ho3 hl3 hl3' hc3 hr3 hb3 hs3 hg3 ha3; clear hr3 hg3 ha3; have hs3' := hs3.out) | ((with_reducible refine gate_builtin (b := .append) (xs := #[.tmp 29, .tmp 33]) rfl ?_); refine Kd.R_append dB (w0 := w0) base rfl (.tmp 29) (.tmp 33) 69 25 (.slice none 0 0) 24 rfl Try.underlying69 info25 rfl (by decide) (by decide) (.slice A2 C.length c2) C zs [.slice A3 zs.length c3] (fun q => Z q ∨ w.heap.size ≤ q) (fun q => w2.heap.size ≤ q) rfl rfl ⟨_, rfl, Kd.R_lower (Kd.R_mono (Kd.R_bound ho3.out) (fun q hq => hq.2.1)) (Nat.le_trans hbase hsz2)⟩ (fun q hq => ⟨Or.inr (Nat.le_trans hsz2 hq), fun he => by have := Kd.R_lt K2.out q he.symm; omega⟩) (fun q hq => Or.inr (by omega)) (Kd.R_below K2.out hb3.out) (below_then KB2.out (by omega) hb3.out) (by omega) (by omega) ?_; intro v4 w4 h4 hB4 hg4 hat4; obtain ⟨A4, c4, hv4⟩ := Kd.R_slice h4; have hlen4 : (C ++ [zs]).length = C.length + 1 := (by simp); rw [hlen4] at hv4; subst hv4; have K4 := Aside0.mk h4; have KB4 := Aside0.mk hB4; have KL4 := Aside0.mk (grown_below (below_then KL2.out hsz2 hb3.out) hg4 (by omega) Kown2.out); clear h4 hB4 hg4 hat4 hlen4))
  refine bodyPost_ret (results_list (rs := [.tmp 4, .tmp 5, .tmp 6, .tmp 7]) rfl (by simp) (.tmp (.tmp (.tmp (.tmp .nil))))) rfl ?_
  have hz : zs = l := by rw [hz3.out, List.nil_append]
  rw [hz] at K4
  exact ⟨A4, c4, rfl, K4.out, KB4.out, KL4.out⟩
end Go.Proofs.Ytgadcnlcldjhpaa.Pool
