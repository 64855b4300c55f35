/- Blocks: Store: walks. -/
import Derived.Test.YtpdggoapjbjmhaaBk2
import Derived.Test.YtpdggoapjbjmhaaKN
set_option linter.unusedVariables false
set_option linter.unusedSimpArgs false
namespace Go.Proofs.Ytpdggoapjbjmhaa.Bk
open Go.RowKit Go.Proofs.Ytpdggoapjbjmhaa.Fd Go.Proofs.Ytpdggoapjbjmhaa.Bg Go.Proofs.Ytpdggoapjbjmhaa.Lz Go.Proofs.Ytpdggoapjbjmhaa.Ma Go.Proofs.YtpdggoapjbjmhaaW.PrintWords Go.Proofs.YtpdggoapjbjmhaaW.PrintLast Go.Proofs.YtpdggoapjbjmhaaW.PrintMore
def pk (b : List Int) (x : Nat) : Bool := Wo.worth b.length (enc b).length x && decide ((enc b).length ≤ 1048576)
def dat (b : List Int) (x : Nat) : List Int := if pk b x = true then enc b else b
/-- Bytes with their sum behind them. -/
def sumd (d : List Int) : List Int := d ++ le (Sum.crc 0 d) 4
/-- A block's word; what is stored. -/
def sto (b : List Int) (x : Nat) : Int × List Int := if all0 b = true then (0, []) else ((wrd (dat b x).length (pk b x)).1, sumd (dat b x))
theorem enc_most (b : List Int) (hN : b.length ≤ 1048576) : (enc b).length ≤ 1100000 := by
  have h := enc_bound b hN
  have h2 : bound b.length ≤ 1100000 := by unfold bound; split <;> (try split) <;> omega
  omega
theorem crc_call (d : List Int) (hb : isB d) (hd : d.length ≤ 1100000) (n : Nat) (hn : n = d.length) (wa : World) (A : Option Addr) (c : Nat) (hC : Kd.C (Kd.int .u8) wa A n d) : Calls Try.prog 45 #[.pointer none, .slice A n c] wa fun e w' => e = .returned (.int .u32 (Sum.crc 0 d : Nat)) ∧ wa = w' := by
  subst hn
  exact Sum.crc_nil A c d wa hC (by omega) hb
theorem put_call (d : List Int) (hd : d.length ≤ 1100000) (n : Nat) (hn : n = d.length) (x : Nat) (hx : x < 4294967296) (wa : World) (A : Option Addr) (c : Nat) (hC : Kd.C (Kd.int .u8) wa A n d) : Calls Try.prog 50 #[.slice A n c, .int .u64 x, .int .i64 4] wa fun e w' => ∃ v, e = .returned (.tuple #[v, .int .i64 0]) ∧ Row.OwnB w' wa.heap.size v (d ++ le x 4) ∧ Below wa.heap.size wa w' := by
  subst hn
  exact put_any wa d A c x 4 (fun w' hb => Kd.C_below hC hb) (by omega) (Or.inr (Or.inr (Or.inl rfl))) (lt32n hx)
theorem bstore_zero (w : World) (b : List Int) (A : Option Addr) (cap x : Nat) (hC : Kd.C (Kd.int .u8) w A b.length b) (hN : b.length ≤ 1048576) (hz : all0 b = true) :
    Calls Try.prog 27 #[.slice A b.length cap, .float .f64 x] w fun e w' => e = .returned (.tuple #[.int .i64 0, .slice none 0 0, .int .i64 0]) ∧ w = w' := by
  have KK := Aside0.mk (contains_any w b A cap hC (by omega))
  rw [hz] at KK
  clear hC hz
  have hlt : decide ((b.length : Int) > 1048576) = false := decide_eq_false (by omega)
  go_enter Try.func27, Try.ntmps27
  go_wp2_with (go_at_call 47; apply Aside0.out)
  refine ⟨?_⟩
  refine KK.out.mono ?_
  rintro e w' ⟨rfl, rfl⟩
  go_wp2
  go_ret3
  exact ⟨rfl, rfl⟩
set_option maxHeartbeats 2000000 in
theorem bstore_a (w : World) (b : List Int) (A : Option Addr) (cap x : Nat) (hC : Kd.C (Kd.int .u8) w A b.length b) (hcap : b.length ≤ cap) (hb : isB b) (hN : b.length ≤ 1048576) (hz : all0 b = false) (hw : Wo.worth b.length (enc b).length x = true) (hs : (enc b).length ≤ 1048576) :
    Calls Try.prog 27 #[.slice A b.length cap, .float .f64 x] w fun e w' => ∃ v, e = .returned (.tuple #[.int .i64 (wrd (enc b).length true).1, v, .int .i64 0]) ∧ Row.OwnB w' w.heap.size v (sumd (enc b)) ∧ Below w.heap.size w w' := by
  have KK := Aside0.mk (contains_any w b A cap hC (Nat.le_trans hN (by decide)))
  rw [hz] at KK
  have KP := Aside0.mk (pack_any w b A cap x hC hcap hb hN)
  have hpe : packP b x = enc b := by unfold packP; rw [hw]; rfl
  rw [hw, hpe] at KP
  have KC : Aside0 (∀ w', Below w.heap.size w w' → Kd.C (Kd.int .u8) w' A b.length b) := ⟨fun w' hB => Kd.C_below hC hB⟩
  have hm := enc_most b hN
  have hie : isB (enc b) := enc_isB hb hN
  have hNN : b.length ≤ 1100000 := Nat.le_trans hN (by decide)
  have hlt : decide ((b.length : Int) > 1048576) = false := decide_eq_false (Int.not_lt.2 (Int.ofNat_le.2 hN))
  have K := Aside0.mk (And.intro (crc_call (enc b) hie hm _ rfl) (put_call (enc b) hm _ rfl (Sum.crc 0 (enc b)) (crc_lt _)))
  have hzb : Aside0 (Sum.crc 0 (enc b) < 4294967296) := ⟨crc_lt _⟩
  have hsd : Aside0 (sumd (enc b) = (enc b) ++ le (Sum.crc 0 (enc b)) 4) := ⟨rfl⟩
  have hgt : decide (((enc b).length : Int) > 1048576) = false := decide_eq_false (Int.not_lt.2 (Int.ofNat_le.2 hs))
  generalize Sum.crc 0 (enc b) = z at K hzb hsd
  obtain ⟨n, hn⟩ : ∃ n, n = (enc b).length := ⟨_, rfl⟩
  rw [← hn] at K hgt
  have Kn := Aside0.mk hn
  clear hn hs
  have KX := Aside0.mk K.out.1
  have KT := Aside0.mk K.out.2
  clear K
  clear hC hz hw hpe hm hie hb hNN
  go_enter Try.func27, Try.ntmps27
  go_wp2_with (go_at_call 47; apply Aside0.out)
  refine ⟨?_⟩
  refine KK.out.mono ?_
  rintro e w' ⟨rfl, rfl⟩
  go_wp2_with (go_at_call 49; apply Aside0.out)
  refine ⟨?_⟩
  refine KP.out.mono ?_
  rintro e w1 ⟨v1, rfl, hO, hB1⟩
  obtain ⟨A1, c1, rfl, -, hC1⟩ := hO.slice
  have KB1 := Aside0.mk hB1
  rw [← Kn.out] at hC1 ⊢
  have KC1 := Aside0.mk hC1
  clear hO hB1 hC1
  go_wp2_with (go_at_call 18; apply Aside0.out)
  refine ⟨?_⟩
  refine (word_any n true _).mono ?_
  rintro e w2 ⟨rfl, hB2⟩
  have KB2 := Aside0.mk (below_then KB1.out KB1.out.size hB2)
  have KC2 := Aside0.mk (Kd.C_below KC1.out hB2)
  clear hB2
  go_wp2_with (first | (go_at_call 45; refine (KX.out _ A1 _ KC2.out).mono ?_; rintro e w' ⟨rfl, rfl⟩) | (go_at_call 50; apply Aside0.out))
  refine ⟨?_⟩
  rw [u64_small (z : Int) (by omega) (by have := hzb.out; omega)]
  refine (KT.out _ A1 _ KC2.out).mono ?_
  rintro e w3 ⟨v3, rfl, hO, hB3⟩
  have KO := Aside0.mk (hO.lower KB2.out.size)
  have KB3 := Aside0.mk (below_then KB2.out KB2.out.size hB3)
  obtain ⟨A3, c3, rfl, -, -⟩ := hO.slice
  clear hO hB3
  go_wp2
  go_ret3
  refine ⟨_, by rw [← Kn.out]; rfl, by rw [hsd.out]; have h := KO.out; rw [List.length_append, ← Kn.out] at h; exact h, KB3.out⟩
set_option maxHeartbeats 2000000 in
theorem bstore_b (w : World) (b : List Int) (A : Option Addr) (cap x : Nat) (hC : Kd.C (Kd.int .u8) w A b.length b) (hcap : b.length ≤ cap) (hb : isB b) (hN : b.length ≤ 1048576) (hz : all0 b = false) (hw : Wo.worth b.length (enc b).length x = false) :
    Calls Try.prog 27 #[.slice A b.length cap, .float .f64 x] w fun e w' => ∃ v, e = .returned (.tuple #[.int .i64 (wrd b.length false).1, v, .int .i64 0]) ∧ Row.OwnB w' w.heap.size v (sumd b) ∧ Below w.heap.size w w' := by
  have KK := Aside0.mk (contains_any w b A cap hC (Nat.le_trans hN (by decide)))
  rw [hz] at KK
  have KP := Aside0.mk (pack_any w b A cap x hC hcap hb hN)
  have hpe : packP b x = b := by unfold packP; rw [hw]; rfl
  rw [hw, hpe] at KP
  have KC : Aside0 (∀ w', Below w.heap.size w w' → Kd.C (Kd.int .u8) w' A b.length b) := ⟨fun w' hB => Kd.C_below hC hB⟩
  have hm := enc_most b hN
  have hie : isB (enc b) := enc_isB hb hN
  have hNN : b.length ≤ 1100000 := Nat.le_trans hN (by decide)
  have hlt : decide ((b.length : Int) > 1048576) = false := decide_eq_false (Int.not_lt.2 (Int.ofNat_le.2 hN))
  have K := Aside0.mk (And.intro (crc_call b hb hNN _ rfl) (put_call b hNN _ rfl (Sum.crc 0 b) (crc_lt _)))
  have hzb : Aside0 (Sum.crc 0 b < 4294967296) := ⟨crc_lt _⟩
  have hsd : Aside0 (sumd b = b ++ le (Sum.crc 0 b) 4) := ⟨rfl⟩
  generalize Sum.crc 0 b = z at K hzb hsd
  obtain ⟨n, hn⟩ : ∃ n, n = b.length := ⟨_, rfl⟩
  rw [← hn] at K
  have Kn := Aside0.mk hn
  clear hn
  have KX := Aside0.mk K.out.1
  have KT := Aside0.mk K.out.2
  clear K
  clear hC hz hw hpe hm hie hb hNN
  go_enter Try.func27, Try.ntmps27
  go_wp2_with (go_at_call 47; apply Aside0.out)
  refine ⟨?_⟩
  refine KK.out.mono ?_
  rintro e w' ⟨rfl, rfl⟩
  go_wp2_with (go_at_call 49; apply Aside0.out)
  refine ⟨?_⟩
  refine KP.out.mono ?_
  rintro e w1 ⟨v1, rfl, hO, hB1⟩
  obtain ⟨A1, c1, rfl, -, hC1⟩ := hO.slice
  have KB1 := Aside0.mk hB1
  rw [← Kn.out] at hC1 ⊢
  have KC1 := Aside0.mk hC1
  clear hO hB1 hC1
  go_wp2_with (go_at_call 18; apply Aside0.out)
  refine ⟨?_⟩
  refine (word_any n false _).mono ?_
  rintro e w2 ⟨rfl, hB2⟩
  have KB2 := Aside0.mk (below_then KB1.out KB1.out.size hB2)
  have KC2 := Aside0.mk (Kd.C_below KC1.out hB2)
  clear hB2
  go_wp2_with (first | (go_at_call 45; refine (KX.out _ A1 _ KC2.out).mono ?_; rintro e w' ⟨rfl, rfl⟩) | (go_at_call 50; apply Aside0.out))
  refine ⟨?_⟩
  rw [u64_small (z : Int) (by omega) (by have := hzb.out; omega)]
  refine (KT.out _ A1 _ KC2.out).mono ?_
  rintro e w3 ⟨v3, rfl, hO, hB3⟩
  have KO := Aside0.mk (hO.lower KB2.out.size)
  have KB3 := Aside0.mk (below_then KB2.out KB2.out.size hB3)
  obtain ⟨A3, c3, rfl, -, -⟩ := hO.slice
  clear hO hB3
  go_wp2
  go_ret3
  refine ⟨_, by rw [← Kn.out]; rfl, by rw [hsd.out]; have h := KO.out; rw [List.length_append, ← Kn.out] at h; exact h, KB3.out⟩
set_option maxHeartbeats 2000000 in
theorem bstore_c (w : World) (b : List Int) (A : Option Addr) (cap x : Nat) (hC : Kd.C (Kd.int .u8) w A b.length b) (hcap : b.length ≤ cap) (hb : isB b) (hN : b.length ≤ 1048576) (hz : all0 b = false) (hw : Wo.worth b.length (enc b).length x = true) (hs : ¬ (enc b).length ≤ 1048576) :
    Calls Try.prog 27 #[.slice A b.length cap, .float .f64 x] w fun e w' => ∃ v, e = .returned (.tuple #[.int .i64 (wrd b.length false).1, v, .int .i64 0]) ∧ Row.OwnB w' w.heap.size v (sumd b) ∧ Below w.heap.size w w' := by
  have KK := Aside0.mk (contains_any w b A cap hC (Nat.le_trans hN (by decide)))
  rw [hz] at KK
  have KP := Aside0.mk (pack_any w b A cap x hC hcap hb hN)
  have hpe : packP b x = enc b := by unfold packP; rw [hw]; rfl
  rw [hw, hpe] at KP
  have KC : Aside0 (∀ w', Below w.heap.size w w' → Kd.C (Kd.int .u8) w' A b.length b) := ⟨fun w' hB => Kd.C_below hC hB⟩
  have hm := enc_most b hN
  have hie : isB (enc b) := enc_isB hb hN
  have hNN : b.length ≤ 1100000 := Nat.le_trans hN (by decide)
  have hlt : decide ((b.length : Int) > 1048576) = false := decide_eq_false (Int.not_lt.2 (Int.ofNat_le.2 hN))
  have K := Aside0.mk (And.intro (crc_call b hb hNN _ rfl) (put_call b hNN _ rfl (Sum.crc 0 b) (crc_lt _)))
  have hzb : Aside0 (Sum.crc 0 b < 4294967296) := ⟨crc_lt _⟩
  have hsd : Aside0 (sumd b = b ++ le (Sum.crc 0 b) 4) := ⟨rfl⟩
  have hgt0 : decide (((enc b).length : Int) > 1048576) = true := decide_eq_true (Int.lt_of_not_ge fun h => hs (Int.ofNat_le.1 h))
  generalize Sum.crc 0 b = z at K hzb hsd
  obtain ⟨m, hm2⟩ : ∃ m, m = (enc b).length := ⟨_, rfl⟩
  rw [← hm2] at hgt0
  have hgt := hgt0
  have Km := Aside0.mk hm2
  obtain ⟨n, hn⟩ : ∃ n, n = b.length := ⟨_, rfl⟩
  rw [← hn] at K
  have Kn := Aside0.mk hn
  clear hm2 hn hgt0 hs
  have KX := Aside0.mk K.out.1
  have KT := Aside0.mk K.out.2
  clear K
  clear hC hz hw hpe hm hie hb hNN
  go_enter Try.func27, Try.ntmps27
  go_wp2_with (go_at_call 47; apply Aside0.out)
  refine ⟨?_⟩
  refine KK.out.mono ?_
  rintro e w' ⟨rfl, rfl⟩
  go_wp2_with (go_at_call 49; apply Aside0.out)
  refine ⟨?_⟩
  refine KP.out.mono ?_
  rintro e w1 ⟨v1, rfl, hO, hB1⟩
  obtain ⟨A1, c1, rfl, -, hC1⟩ := hO.slice
  have KB1 := Aside0.mk hB1
  rw [← Km.out]
  have KC1 : Aside0 (Kd.C (Kd.int .u8) w1 A n b) := ⟨by rw [Kn.out]; exact KC.out _ hB1⟩
  clear hO hB1 hC1
  go_wp2_with (go_at_call 18; apply Aside0.out)
  refine ⟨?_⟩
  rw [← Kn.out]
  refine (word_any n false _).mono ?_
  rintro e w2 ⟨rfl, hB2⟩
  have KB2 := Aside0.mk (below_then KB1.out KB1.out.size hB2)
  have KC2 := Aside0.mk (Kd.C_below KC1.out hB2)
  clear hB2
  go_wp2_with (first | (go_at_call 45; refine (KX.out _ A _ KC2.out).mono ?_; rintro e w' ⟨rfl, rfl⟩) | (go_at_call 50; apply Aside0.out))
  refine ⟨?_⟩
  rw [u64_small (z : Int) (by omega) (by have := hzb.out; omega)]
  refine (KT.out _ A _ KC2.out).mono ?_
  rintro e w3 ⟨v3, rfl, hO, hB3⟩
  have KO := Aside0.mk (hO.lower KB2.out.size)
  have KB3 := Aside0.mk (below_then KB2.out KB2.out.size hB3)
  obtain ⟨A3, c3, rfl, -, -⟩ := hO.slice
  clear hO hB3
  go_wp2
  go_ret3
  refine ⟨_, by rw [← Kn.out]; rfl, by rw [hsd.out]; have h := KO.out; rw [List.length_append, ← Kn.out] at h; exact h, KB3.out⟩
theorem bstore_any (w : World) (b : List Int) (A : Option Addr) (cap x : Nat) (hC : Kd.C (Kd.int .u8) w A b.length b) (hcap : b.length ≤ cap) (hb : isB b) (hN : b.length ≤ 1048576) :
    Calls Try.prog 27 #[.slice A b.length cap, .float .f64 x] w fun e w' => ∃ v, e = .returned (.tuple #[.int .i64 (sto b x).1, v, .int .i64 0]) ∧ Row.OwnB w' w.heap.size v (sto b x).2 ∧ Below w.heap.size w w' := by
  cases hz : all0 b with
  | true =>
    have e : sto b x = (0, []) := if_pos hz
    rw [e]
    refine (bstore_zero w b A cap x hC hN hz).mono ?_
    rintro e w' ⟨rfl, rfl⟩
    exact ⟨_, rfl, Row.OwnB.nil _ _, Below.refl _ _⟩
  | false =>
    have e : sto b x = ((wrd (dat b x).length (pk b x)).1, sumd (dat b x)) := if_neg (by rw [hz]; decide)
    rw [e]
    cases hw : Wo.worth b.length (enc b).length x with
    | true =>
      by_cases hs : (enc b).length ≤ 1048576
      · have e1 : pk b x = true := by unfold pk; rw [hw, decide_eq_true hs]; rfl
        have e2 : dat b x = enc b := by unfold dat; rw [if_pos e1]
        rw [e1, e2]
        exact bstore_a w b A cap x hC hcap hb hN hz hw hs
      · have e1 : pk b x = false := by unfold pk; rw [hw, decide_eq_false hs]; rfl
        have e2 : dat b x = b := by unfold dat; rw [e1]; rfl
        rw [e1, e2]
        exact bstore_c w b A cap x hC hcap hb hN hz hw hs
    | false =>
      have e1 : pk b x = false := by unfold pk; rw [hw]; rfl
      have e2 : dat b x = b := by unfold dat; rw [e1]; rfl
      rw [e1, e2]
      exact bstore_b w b A cap x hC hcap hb hN hz hw
end Go.Proofs.Ytpdggoapjbjmhaa.Bk
