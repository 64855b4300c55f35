/- Deltas: the document's Bytes, as printed, comes to the delta's bytes: plain. -/
import Derived.Test.YtogplkochcalpaaPDe
import Derived.Test.YtogplkochcalpaaDp1
import Derived.Test.YtogplkochcalpaaDA
set_option linter.unusedVariables false
set_option linter.unusedSimpArgs false
namespace Go.Proofs.Ytogplkochcalpaa.De
open Go.RowKit Go.Proofs.Ytogplkochcalpaa.PD Go.Proofs.Ytogplkochcalpaa.Fd Go.Proofs.Ytogplkochcalpaa.Bg Go.Proofs.YtogplkochcalpaaW.PrintWords Go.Proofs.YtogplkochcalpaaW.PrintLast Go.Proofs.YtogplkochcalpaaW.PrintMore
theorem st4 {n : Int} (h0 : 0 ≤ n) (h : n ≤ 8388608) (k : Nat) (hk : 9 ≤ k) : portmanteauref01_Store.f k (IntKind.u64.wrap n) 4 = some (le n.toNat 4) := by
  rw [u64_small _ h0 (by omega)]
  exact store_fI n 4 k h0 (by decide) (by omega) hk
theorem rbytes_l0 (d : Dl) (hr : rightD d = true) (hw : WfD d) (a0 a1 a2 a3 : Int) (hs : (bytesB d).length ≤ 100000000) : ∀ (m i k : Nat) (x : List Int), m + i = d.l.length → 110000000 + m < k → x = headB d ++ opsB (d.l.take i) → portmanteauref30_Bytes.l0 k x (i : Int) a0 a1 a2 a3 d.l = some (bytesB d) := by
  have hb := bytesB_len d
  have hbo := bodyB_len d
  have hhd := headB_len d
  obtain ⟨r1, r2, r3, r4, r5, r6⟩ := right_parts hr
  intro m
  induction m with
  | zero =>
    intro i k x hm hk hx
    obtain ⟨k, rfl⟩ : ∃ q, k = q + 1 := ⟨k - 1, by omega⟩
    have hxb : x = bodyB d := by rw [hx, show i = d.l.length by omega, List.take_length]; rfl
    rw [portmanteauref30_Bytes.l0]
    rw [if_neg (by omega), hxb, crc_f (bodyB d) (bodyB_isB hw) (by omega) k (by omega), Option.bind_some]
    have hc := crc_lt (bodyB d)
    have s6 : portmanteauref01_Store.f k (IntKind.u64.wrap ((Sum.crc 0 (bodyB d) : Nat) : Int)) 4 = some (le (Sum.crc 0 (bodyB d)) 4) := by
      rw [u64_small _ (by omega) (by omega)]
      exact store_f _ 4 k (by decide) (by omega) (by omega)
    rw [s6, Option.bind_some, if_pos (by rw [le_length]; omega)]
    rfl
  | succ m ih =>
    intro i k x hm hk hx
    obtain ⟨k, rfl⟩ : ∃ q, k = q + 1 := ⟨k - 1, by omega⟩
    obtain ⟨o, e1, e2, e3⟩ := rd_drop (l := d.l) (i := i) (by omega)
    obtain ⟨s1, s2⟩ := ops_step e2
    obtain ⟨b1, b2, b3, b4, b5⟩ := op_bounds hr e3
    have hxl : x.length = 28 + (opsB (d.l.take i)).length := by rw [hx, List.length_append, hhd]
    have hol := opB_len o
    rw [portmanteauref30_Bytes.l0]
    rw [if_pos (by omega), if_pos (by omega), e1, wrap_in (n := (i : Int) + 1) (by omega), show ((i : Int) + 1) = ((i + 1 : Nat) : Int) by omega]
    by_cases c : o.f1 > 0
    · have hob : opB o = le 0 1 ++ le o.f0.toNat 4 ++ le o.f1.toNat 4 := if_pos c
      rw [if_pos c] at hol
      rw [if_pos c, if_pos (by omega), Option.bind_some, st4 b1 b2 k (by omega), Option.bind_some, if_pos (by simp only [List.length_append, List.length_singleton, le_length]; omega), Option.bind_some, st4 b3 b4 k (by omega), Option.bind_some, if_pos (by simp only [List.length_append, List.length_singleton, le_length]; omega)]
      refine ih (i + 1) k _ (by omega) (by omega) ?_
      rw [s1, hob, hx]
      simp only [List.append_assoc]
      rfl
    · have hob : opB o = le 1 1 ++ le o.f2.length 4 ++ o.f2 := if_neg c
      rw [if_neg c] at hol
      rw [if_neg c, if_pos (by omega), Option.bind_some, st4 (by omega) b5 k (by omega), Option.bind_some, if_pos (by simp only [List.length_append, List.length_singleton, le_length]; omega), Option.bind_some, if_pos (by simp only [List.length_append, List.length_singleton, le_length]; omega)]
      refine ih (i + 1) k _ (by omega) (by omega) ?_
      rw [s1, hob, hx]
      simp only [List.append_assoc, Int.toNat_natCast]
      rfl
theorem rbytes_f (d : Dl) (hr : rightD d = true) (hw : WfD d) (hs : (bytesB d).length ≤ 100000000) (k : Nat) (hk : 120000000 ≤ k) : portmanteauref30_Bytes.f k d.a d.b d.c d.d d.l = some (bytesB d) := by
  obtain ⟨r1, r2, r3, r4, r5, r6⟩ := right_parts hr
  have s3 : portmanteauref01_Store.f k d.c 8 = some (le d.c.toNat 8) := store_fI d.c 8 k hw.c0 (by decide) hw.c1 (by omega)
  have s4 : portmanteauref01_Store.f k d.d 8 = some (le d.d.toNat 8) := store_fI d.d 8 k hw.d0 (by decide) hw.d1 (by omega)
  unfold portmanteauref30_Bytes.f
  rw [Option.bind_some, st4 r1 r2 k (by omega), Option.bind_some, if_pos (by rw [le_length]; decide), Option.bind_some, st4 r3 r4 k (by omega), Option.bind_some, if_pos (by simp only [List.length_append, le_length]; decide), Option.bind_some, s3, Option.bind_some, if_pos (by simp only [List.length_append, le_length]; decide), Option.bind_some, s4, Option.bind_some, if_pos (by simp only [List.length_append, le_length]; decide)]
  exact rbytes_l0 d hr hw d.a d.b d.c d.d hs d.l.length 0 k _ (by omega) (by omega) (by simp [headB, opsB])
theorem rbytes_any (d : Dl) (A : Option Addr) (c : Nat) (w : World) (hC : Kd.C k37 w A d.l.length d.l) (hc : d.l.length ≤ c) (hr : rightD d = true) (hw : WfD d) (hs : (bytesB d).length ≤ 100000000) : Calls Try.prog 15 #[dv d A c] w fun e w' => ∃ v, e = .returned v ∧ Row.OwnB w' w.heap.size v (bytesB d) ∧ Below w.heap.size w w' := by
  obtain ⟨k, hk⟩ : ∃ k : Nat, 120000000 ≤ k := ⟨_, Nat.le_refl _⟩
  exact portmanteauref30_Bytes.calls k d.a d.b d.c d.d A c d.l _ w hC hc (rbytes_f d hr hw hs k hk)
end Go.Proofs.Ytogplkochcalpaa.De
