/- Boot records as bytes: the program's Encode: walks. -/
import Derived.Test.YtgplpcjlemjabaaBo2
set_option linter.unusedVariables false
set_option linter.unusedSimpArgs false
namespace Go.Proofs.Ytgplpcjlemjabaa.Bo
open Go.RowKit Go.Proofs.Ytgplpcjlemjabaa.Fd Go.Proofs.Ytgplpcjlemjabaa.Bg Go.Proofs.YtgplpcjlemjabaaW.PrintWords Go.Proofs.YtgplpcjlemjabaaW.PrintLast Go.Proofs.YtgplpcjlemjabaaW.PrintMore
theorem encode_no (r : Rec) (hr : ¬ right r) (w : World) : Calls Try.prog 24 #[.agg #[.int .u64 r.seq, .int .i64 r.slot, .int .i64 r.len, .int .u64 r.sum]] w fun e w' => e = .returned (.tuple #[.slice none 0 0, .int .i64 1]) ∧ Below w.heap.size w w' := by
  have KB0 := Aside0.mk (RB.new w r)
  have KC := Aside0.mk (fun w1 => right_any r w1)
  rw [decide_eq_false hr] at KC
  clear hr
  go_enter Try.func24, Try.ntmps24
  go_wp2_with (go_at_call 41; refine (KC.out _).mono ?_; rintro e w1 ⟨rfl, hb⟩; have KB1 := Aside0.mk (RB.then_ KB0.out hb); clear hb)
  go_ret2
  exact ⟨rfl, KB1.out.2⟩
set_option maxHeartbeats 8000000 in
set_option maxRecDepth 100000 in
theorem encode_ok (r : Rec) (hr : right r) (hw : Wf r) (w : World) : Calls Try.prog 24 #[.agg #[.int .u64 r.seq, .int .i64 r.slot, .int .i64 r.len, .int .u64 r.sum]] w fun e w' => ∃ u, e = .returned (.tuple #[u, .int .i64 0]) ∧ Row.OwnB w' w.heap.size u (bytesB r) ∧ Below w.heap.size w w' := by
  have KB0 := Aside0.mk (RB.new w r)
  have KC := Aside0.mk (fun w1 => right_any r w1)
  rw [decide_eq_true hr] at KC
  have hs := slot_bds hr
  obtain ⟨a1, -, a3, a4⟩ := hr
  obtain ⟨b1, b2, b3⟩ := hw
  have K0 : Aside0 (0 ≤ r.seq ∧ r.seq < 2 ^ (8 * 8)) := ⟨b1, by show r.seq < 18446744073709551616; omega⟩
  have K1 : Aside0 (0 ≤ r.slot ∧ r.slot < 2 ^ (8 * 4)) := ⟨hs.1, lt32 (by omega)⟩
  have K2 : Aside0 (0 ≤ r.len ∧ r.len < 2 ^ (8 * 4)) := ⟨by omega, lt32 (by omega)⟩
  have K3 : Aside0 (0 ≤ r.sum ∧ r.sum < 2 ^ (8 * 8)) := ⟨b2, b3⟩
  have c1 : IntKind.u64.wrap r.slot = r.slot := u64_small _ hs.1 (by omega)
  have c2 : IntKind.u64.wrap r.len = r.len := u64_small _ (by omega) (by omega)
  have kc := fun (w : World) (C : Array Value) (n c : Nat) => Lib.run_convert_bytes_const (P := Try.prog) w 22 5 C n c Try.underlying22 Try.underlying5
  clear hs a1 a3 a4 b1 b2 b3
  go_enter Try.func24, Try.ntmps24
  go_wp2_with (first
    | (go_at_call 41; refine (KC.out _).mono ?_; rintro e w1 ⟨rfl, hb⟩; have KB1 := Aside0.mk (RB.then_ KB0.out hb); clear hb)
    | (go_at_call 42; have _t := KB1; refine (writer_new 32 (by decide) w1).mono ?_; rintro e w2 ⟨rfl, hF⟩; have KF2 := Aside0.mk hF; clear hF)
    | (go_at_call 43; apply Aside0.out))
  refine ⟨?_⟩
  refine (bytes_ok (KF2.out.keep (below_alloc (Below.refl _ _) _)) [80, 77, 66, 49] _ 4 (lit_foot KF2.out) (by decide) (by decide)).mono ?_
  rintro e w3 ⟨rfl, v3, hF, -⟩
  have KF3 := Aside0.mk hF
  obtain ⟨q0, q1, q2, q3⟩ := box_cells (RB.of KB1.out KF3.out).1
  clear hF
  go_wp2_with (go_at_call 44; apply Aside0.out)
  refine ⟨?_⟩
  refine (num_okI KF3.out r.seq 8 K0.out.1 (Or.inr (Or.inr (Or.inr rfl))) K0.out.2 (by simp [le_length]) (by decide)).mono ?_
  rintro e w4 ⟨rfl, v4, hF, -⟩
  have KF4 := Aside0.mk hF
  clear hF q0 q1 q2 q3
  obtain ⟨q0, q1, q2, q3⟩ := box_cells (RB.of KB1.out KF4.out).1
  go_wp2_with (go_at_call 44; apply Aside0.out)
  refine ⟨?_⟩
  refine (num_okI KF4.out r.slot 4 K1.out.1 (Or.inr (Or.inr (Or.inl rfl))) K1.out.2 (by simp [le_length]) (by decide)).mono ?_
  rintro e w5 ⟨rfl, v5, hF, -⟩
  have KF5 := Aside0.mk hF
  clear hF q0 q1 q2 q3
  obtain ⟨q0, q1, q2, q3⟩ := box_cells (RB.of KB1.out KF5.out).1
  go_wp2_with (go_at_call 44; apply Aside0.out)
  refine ⟨?_⟩
  refine (num_okI KF5.out r.len 4 K2.out.1 (Or.inr (Or.inr (Or.inl rfl))) K2.out.2 (by simp [le_length]) (by decide)).mono ?_
  rintro e w6 ⟨rfl, v6, hF, -⟩
  have KF6 := Aside0.mk hF
  clear hF q0 q1 q2 q3
  obtain ⟨q0, q1, q2, q3⟩ := box_cells (RB.of KB1.out KF6.out).1
  go_wp2_with (go_at_call 44; apply Aside0.out)
  refine ⟨?_⟩
  refine (num_okI KF6.out r.sum 8 K3.out.1 (Or.inr (Or.inr (Or.inr rfl))) K3.out.2 (by simp [le_length]) (by decide)).mono ?_
  rintro e wr ⟨rfl, v8, hF, -⟩
  have KF8 : Aside0 (FW w1 w1.heap.size w1.heap.size 32 wr v8 (bodyB r)) := Aside0.mk hF
  clear hF q0 q1 q2 q3 c1 c2
  have hl : Aside0 ((bodyB r).length = 28) := ⟨bodyB_len r⟩
  have KD := Aside0.mk (done_ok KF8.out (by rw [hl.out]; decide))
  have KCr : Aside0 (∀ (wa : World) (A : Option Addr) (c : Nat), Kd.C (Kd.int .u8) wa A (bodyB r).length (bodyB r) → _) := ⟨fun wa A c hC => Sum.crc_nil A c (bodyB r) wa hC (by rw [hl.out]; decide) (bodyB_isB r)⟩
  obtain ⟨x, hx⟩ : ∃ x, x = Sum.crc 0 (bodyB r) := ⟨_, rfl⟩
  have hxb : Aside0 (x < 4294967296) := ⟨by rw [hx]; exact crc_lt _⟩
  have hby : Aside0 (bodyB r ++ le x 4 = bytesB r) := ⟨by rw [hx]; rfl⟩
  rw [← hx] at KCr
  clear hx
  obtain ⟨nb, hnb⟩ : ∃ nb, nb = (bodyB r).length := ⟨_, rfl⟩
  rw [← hnb] at KCr
  have Knb := Aside0.mk hnb
  clear hnb
  go_wp2_with (go_at_call 45; apply Aside0.out)
  refine ⟨?_⟩
  refine KD.out.mono ?_
  rintro e w9 ⟨u9, rfl, hO, hB⟩
  obtain ⟨A9, c9, rfl, hc9, hC9⟩ := hO.slice
  have KF9 := Aside0.mk (KF8.out.keep hB)
  rw [← Knb.out] at hC9 hO
  rw [← Knb.out]
  have KC9 := Aside0.mk hC9
  clear hO hB hC9 hc9
  go_wp2_with (first | (go_at_call 46; refine (KCr.out _ _ _ KC9.out).mono ?_; rintro e w' ⟨rfl, rfl⟩) | (go_at_call 44; apply Aside0.out))
  refine ⟨?_⟩
  rw [u64_small (x : Int) (by omega) (by have := hxb.out; omega)]
  refine (num_ok KF9.out x 4 (Or.inr (Or.inr (Or.inl rfl))) (lt32n hxb.out) (by rw [hl.out]; decide) (by decide)).mono ?_
  rintro e w10 ⟨rfl, v10, hF, -⟩
  rw [hby.out] at hF
  have KF10 := Aside0.mk hF
  have KD2 := Aside0.mk (done_ok KF10.out (by rw [bytesB_len]; decide))
  clear hF
  go_wp2_with (go_at_call 45; apply Aside0.out)
  refine ⟨?_⟩
  refine KD2.out.mono ?_
  rintro e w11 ⟨u11, rfl, hO, hB⟩
  have hw : w.heap.size ≤ w10.heap.size := (RB.of KB1.out KF10.out).2.size
  have KO := Aside0.mk (hO.lower hw)
  have KB := Aside0.mk (below_then (RB.of KB1.out KF10.out).2 hw hB)
  obtain ⟨A11, c11, rfl, -, -⟩ := hO.slice
  clear hO hB
  go_wp2
  go_ret2
  exact ⟨_, rfl, KO.out, KB.out⟩
end Go.Proofs.Ytgplpcjlemjabaa.Bo
