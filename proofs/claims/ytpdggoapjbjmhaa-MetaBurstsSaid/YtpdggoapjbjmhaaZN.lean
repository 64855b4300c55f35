/- Texts put together: KN. -/
import Derived.Test.YtpdggoapjbjmhaaWX
import Derived.Test.YtpdggoapjbjmhaaProg
import Derived.WalkKit
import Derived.Laws.FloatArith
import Derived.Test.YtpdggoapjbjmhaaZM
import Derived.Test.YtpdggoapjbjmhaaZA
import Derived.Test.YtpdggoapjbjmhaaZL
/- Texts put together: Ma7, Ma8, Ma9. -/
/- Is it worth packing: by floats: walks. -/
set_option linter.unusedVariables false
set_option linter.unusedSimpArgs false
namespace Go.Proofs.Ytpdggoapjbjmhaa.Wo
open Go.RowKit Go.Proofs.YtpdggoapjbjmhaaW.PrintWords Go.Proofs.YtpdggoapjbjmhaaW.PrintLast Go.Proofs.YtpdggoapjbjmhaaW.PrintMore
/-- Is it worth packing? -/
def worth (p q : Int) (x : Nat) : Bool := match FloatKind.f64.format.mul (floatOfInt .f64 p) x with
  | some r => FloatKind.f64.format.order (floatOfInt .f64 q) r == some .lt
  | none => false
theorem read_nan (f : Ieee.Format) (s j : Nat) (hs : s = 0 ∨ s = 1) (hj : 0 < j) (h1 : f.binade ≤ f.infRung) (h2 : f.infRung + j < f.signWeight) : f.read (s * f.signWeight + f.infRung + j) = .nan (s == 1) j := by
  unfold Ieee.Format.read
  obtain ⟨W, hW⟩ : ∃ W, f.signWeight = W := ⟨_, rfl⟩
  obtain ⟨I, hI⟩ : ∃ I, f.infRung = I := ⟨_, rfl⟩
  obtain ⟨B, hB⟩ : ∃ B, f.binade = B := ⟨_, rfl⟩
  rw [hI, hB] at h1
  rw [hW, hI] at h2
  simp only [hW, hI, hB]
  have e1 : (s * W + I + j) % W = I + j := by
    rcases hs with rfl | rfl
    · rw [Nat.zero_mul, Nat.zero_add, Nat.mod_eq_of_lt h2]
    · rw [Nat.one_mul, Nat.add_assoc, Nat.add_mod_left, Nat.mod_eq_of_lt h2]
  have e2 : (s * W + I + j) / W % 2 = s := by
    rcases hs with rfl | rfl
    · rw [Nat.zero_mul, Nat.zero_add, Nat.div_eq_of_lt h2]
    · rw [Nat.one_mul, Nat.add_assoc, Nat.add_div_left _ (by omega), Nat.div_eq_of_lt h2]
  rw [e1, e2, if_neg (by omega), if_neg (by omega), if_neg (by omega), Nat.add_sub_cancel_left]
theorem nan_order (a s k : Nat) (hs : s = 0 ∨ s = 1) (hk : k < 4503599627370495) : FloatKind.f64.format.order a (s * 2 ^ 63 + 0x7ff0000000000000 + 1 + k) = none := by
  have e1 : FloatKind.f64.format.signWeight = 2 ^ 63 := by decide
  have e3 : FloatKind.f64.format.infRung = 0x7ff0000000000000 := by decide
  have e2 : FloatKind.f64.format.binade = 4503599627370496 := by decide
  have h := read_nan FloatKind.f64.format s (1 + k) hs (by omega) (by rw [e2, e3]; decide) (by rw [e1, e3]; omega)
  rw [e1, e3, ← Nat.add_assoc] at h
  unfold Ieee.Format.order
  rw [h]
  cases FloatKind.f64.format.read a <;> rfl
theorem run_mul_nan (t : TypeId) (x y : Nat) (w : World) (h : FloatKind.f64.format.mul x y = none) : ∃ r, (binOp .mul t (.float .f64 x) (.float .f64 y)).run Try.prog w = .ok (.float .f64 r) w.drew ∧ ∀ a, FloatKind.f64.format.order a r = none := by
  refine ⟨(Question.nanBits .f64 x y).cut (w.tape w.drawn (.nanBits .f64 x y)), ?_, fun a => ?_⟩
  · simp [binOp, Op.floatArith, h, Question.forced]
  · generalize w.tape w.drawn (.nanBits .f64 x y) = t
    have hn := nan_order a (t % 2) (t / 2 % (2 ^ 52 - 1)) (by omega) (by omega)
    exact hn
theorem worth_any (p q : Int) (x : Nat) (w : World) : Calls Try.prog 66 #[.int .i64 p, .int .i64 q, .float .f64 x] w fun e w' => e = .returned (.bool (worth p q x)) ∧ Drawn0 w w' := by
  unfold worth
  cases hm : FloatKind.f64.format.mul (floatOfInt .f64 p) x with
  | some r =>
    have h1 : ∀ w1 : World, (binOp .mul 41 (.float .f64 (floatOfInt .f64 p)) (.float .f64 x)).run Try.prog w1 = .ok (.float .f64 r) w1 := fun w1 => run_float_arith w1 .mul 41 .f64 _ _ r hm
    simp only
    clear hm
    go_enter Try.func66, Try.ntmps66
    go_wp2
    go_ret
    exact ⟨rfl, Drawn0.refl _⟩
  | none =>
    obtain ⟨r, h1, h3⟩ := run_mul_nan 41 (floatOfInt .f64 p) x w hm
    have K3 := Aside0.mk h3
    simp only
    clear hm h3
    go_enter Try.func66, Try.ntmps66
    go_wp2
    go_ret
    refine ⟨?_, ⟨1, rfl⟩⟩
    show Ending.returned (.bool (FloatKind.f64.format.order (floatOfInt .f64 q) r == some .lt)) = _
    rw [K3.out]
    rfl
end Go.Proofs.Ytpdggoapjbjmhaa.Wo
/- Blocks are packed: a text's block unpacks to the text: plain. -/
set_option linter.unusedVariables false
set_option linter.unusedSimpArgs false
namespace Go.Proofs.Ytpdggoapjbjmhaa.Ma
open Go.RowKit Go.Proofs.Ytpdggoapjbjmhaa.Lz Go.Proofs.YtpdggoapjbjmhaaW.PrintWords Go.Proofs.YtpdggoapjbjmhaaW.PrintLast Go.Proofs.YtpdggoapjbjmhaaW.PrintMore
theorem segs_ge' : ∀ (l : List Sq), l.length ≤ (segs l).length
  | [] => Nat.le_refl _
  | s :: r => by
    have := segs_ge' r
    simp only [segs, List.length_append, List.length_cons, seg, List.length_nil]
    omega
theorem enc_isB {b : List Int} (hb : isB b) (hN : b.length ≤ 1048576) : isB (enc b) := by
  rw [enc_segs]
  have hT := chosen_told hN
  refine segs_isB (chosen b) 0 (fun s hs => ?_) hT.right (by decide)
  obtain ⟨p, q, hp⟩ := hT.sub s hs
  rw [hp]
  exact sub_isB hb
/-- A text's block tells the text. -/
theorem enc_run {b : List Int} (hb : isB b) (hN : b.length ≤ 1048576) : run (enc b).length (b.length : Int) ((enc b).length + 1) 0 (enc b) = (chosen b, 0, 0) := by
  have hT := chosen_told hN
  have hE := enc_isB hb hN
  have h1 : run (enc b).length 1048576 ((enc b).length + 1) 0 (enc b) = (chosen b, 0, 0) := by
    rw [enc_segs]
    exact run_segs _ (chosen b) 0 _ hT.ne hT.right (by decide) (by have := segs_ge' (chosen b); omega)
  have h2 := run_low (N := (enc b).length) (M := 1048576) (most := (b.length : Int)) (by omega) ((enc b).length + 1) 0 (enc b) hE (Nat.le_refl _) (by decide) (by omega) (by omega)
  rw [h1] at h2
  rcases h2 with ⟨h2, -⟩ | ⟨-, -, h2⟩
  · exact h2
  · exfalso
    have h3 := h2 rfl
    have h4 := outs_length (chosen b) [] (fun s hs => (hT.bds s hs).2.2.1)
    have h5 := hT.outs
    rw [List.take_zero] at h5
    rw [h5] at h4
    simp at h4
    simp only at h3
    omega
theorem enc_dec {b : List Int} (hb : isB b) (hN : b.length ≤ 1048576) : dec (enc b) b.length = (b, 0, ((enc b).length : Int)) := by
  have h := enc_run hb hN
  have hT := chosen_told hN
  unfold dec
  rw [if_neg (by omega), h]
  simp only [if_true]
  have h5 := hT.outs
  rw [List.take_zero] at h5
  rw [h5]
/-- What Pack makes. -/
def packP (b : List Int) (x : Nat) : List Int := if Wo.worth b.length (enc b).length x = true then enc b else b
end Go.Proofs.Ytpdggoapjbjmhaa.Ma
/- Blocks are packed: Pack, Unpack; the document's Bound, Right, Worth, Unpack: walks. -/
set_option linter.unusedVariables false
set_option linter.unusedSimpArgs false
namespace Go.Proofs.Ytpdggoapjbjmhaa.Ma
open Go.RowKit Go.Proofs.Ytpdggoapjbjmhaa.Lz Go.Proofs.YtpdggoapjbjmhaaW.PrintWords Go.Proofs.YtpdggoapjbjmhaaW.PrintLast Go.Proofs.YtpdggoapjbjmhaaW.PrintMore
/-- Pack. -/
theorem pack_any (w : World) (b : List Int) (A : Option Addr) (cap x : Nat) (hC : Kd.C (Kd.int .u8) w A b.length b) (hcap : b.length ≤ cap) (hb : isB b) (hN : b.length ≤ 1048576) :
    Calls Try.prog 49 #[.slice A b.length cap, .float .f64 x] w fun e w' => ∃ v, e = .returned (.tuple #[v, .bool (Wo.worth b.length (enc b).length x), .int .i64 0]) ∧ Row.OwnB w' w.heap.size v (packP b x) ∧ Below w.heap.size w w' := by
  have KE := Aside0.mk (encode_any w b A cap hC hcap hb hN)
  have KC : Aside0 (∀ w', Below w.heap.size w w' → Kd.C (Kd.int .u8) w' A b.length b) := ⟨fun w' hB => Kd.C_below hC hB⟩
  have KW := Aside0.mk (fun w1 => Wo.worth_any b.length (enc b).length x w1)
  have KP : Aside0 (packP b x = if Wo.worth b.length (enc b).length x = true then enc b else b) := ⟨rfl⟩
  obtain ⟨g, hg⟩ : ∃ g, g = Wo.worth b.length (enc b).length x := ⟨_, rfl⟩
  rw [← hg] at KP KW ⊢
  clear hC hb hg
  go_enter Try.func49, Try.ntmps49
  go_wp2_with (go_at_call 65; apply Aside0.out)
  refine ⟨?_⟩
  refine KE.out.mono ?_
  rintro e w1 ⟨v1, rfl, hO, hB⟩
  obtain ⟨A1, c1, rfl, -, -⟩ := hO.slice
  have KO := Aside0.mk hO
  have KB := Aside0.mk hB
  clear hO hB
  cases g with
  | true =>
    have KP2 : Aside0 (packP b x = enc b) := ⟨by rw [KP.out, if_pos rfl]⟩
    go_wp2_with (go_at_call 66; apply Aside0.out)
    refine ⟨?_⟩
    refine (KW.out _).mono ?_
    rintro e w2 ⟨rfl, hd⟩
    have KO2 := Aside0.mk (KO.out.below hd.below)
    have KB2 := Aside0.mk (below_then KB.out KB.out.size hd.below)
    clear hd
    go_wp2
    go_ret3
    exact ⟨_, rfl, by rw [KP2.out]; exact KO2.out, KB2.out⟩
  | false =>
    go_wp2_with (go_at_call 66; apply Aside0.out)
    refine ⟨?_⟩
    refine (KW.out _).mono ?_
    rintro e w2 ⟨rfl, hd⟩
    have KB2 := Aside0.mk (below_then KB.out KB.out.size hd.below)
    clear hd
    go_wp2_with (go_at_call 40; apply Aside0.out)
    refine ⟨?_⟩
    refine (Eq_.clone_any w2 A b.length cap b (KC.out w2 KB2.out) (by omega)).mono ?_
    rintro e w3 ⟨v3, rfl, hO, hB⟩
    have KO3 := Aside0.mk (hO.lower KB2.out.size)
    have KB3 := Aside0.mk (below_then KB2.out KB2.out.size hB)
    clear hO hB
    go_wp2
    go_ret3
    exact ⟨_, rfl, by rw [KP.out, if_neg (by decide)]; exact KO3.out, KB3.out⟩
/-- What Unpack tells. -/
def unp (b : List Int) (packed : Bool) (most : Int) : List Int × Int := if packed = true then ((dec b most).1, (dec b most).2.1) else if most < 0 ∨ 1048576 < most then ([], 1) else if most < b.length then ([], 2) else (b, 0)
theorem unpack_any (w : World) (b : List Int) (A : Option Addr) (cap : Nat) (packed : Bool) (most : Int) (hC : Kd.C (Kd.int .u8) w A b.length b) (hcap : b.length ≤ cap) (hb : isB b) (hN : b.length ≤ 1000000) :
    Calls Try.prog 46 #[.slice A b.length cap, .bool packed, .int .i64 most] w fun e w' => ∃ v, e = .returned (.tuple #[v, .int .i64 (unp b packed most).2]) ∧ Row.OwnB w' w.heap.size v (unp b packed most).1 ∧ Below w.heap.size w w' := by
  have KC : Aside0 (∀ w', Below w.heap.size w w' → Kd.C (Kd.int .u8) w' A b.length b) := ⟨fun w' hB => Kd.C_below hC hB⟩
  unfold unp
  cases packed with
  | true =>
    rw [if_pos rfl]
    have KD := Aside0.mk (decode_any w b A cap most KC.out hb hN hcap)
    obtain ⟨x, E, P, hx⟩ : ∃ x E P, dec b most = (x, E, P) := ⟨_, _, _, rfl⟩
    rw [hx] at KD ⊢
    simp only at KD ⊢
    clear hC hb hx
    go_enter Try.func46, Try.ntmps46
    go_wp2_with (go_at_call 63; apply Aside0.out)
    refine ⟨?_⟩
    refine KD.out.mono ?_
    rintro e w1 ⟨v1, rfl, hO, hB⟩
    have KO := Aside0.mk hO
    have KB := Aside0.mk hB
    clear hO hB
    go_wp2
    go_ret2
    exact ⟨_, rfl, KO.out, KB.out⟩
  | false =>
    rw [if_neg (by decide)]
    clear hC hb
    by_cases hm : most < 0 ∨ 1048576 < most
    · rw [if_pos hm]
      have hm2 : most < 0 ∨ (0 ≤ most ∧ 1048576 < most) := by omega
      clear hm
      rcases hm2 with hm | ⟨hm, hm1⟩
      all_goals
        go_enter Try.func46, Try.ntmps46
        go_wp2
        go_ret2
        exact ⟨_, rfl, Row.OwnB.nil _ _, Below.refl _ _⟩
    · rw [if_neg hm]
      have h0 : 0 ≤ most := by omega
      have h1 : most ≤ 1048576 := by omega
      clear hm
      by_cases hl : most < b.length
      · rw [if_pos hl]
        go_enter Try.func46, Try.ntmps46
        go_wp2
        go_ret2
        exact ⟨_, rfl, Row.OwnB.nil _ _, Below.refl _ _⟩
      · rw [if_neg hl]
        have hl2 : (b.length : Int) ≤ most := by omega
        clear hl
        go_enter Try.func46, Try.ntmps46
        go_wp2_with (go_at_call 40; apply Aside0.out)
        refine ⟨?_⟩
        refine (Eq_.clone_any _ A b.length cap b (KC.out _ (Below.refl _ _)) (by omega)).mono ?_
        rintro e w3 ⟨v3, rfl, hO, hB⟩
        have KO3 := Aside0.mk hO
        have KB3 := Aside0.mk hB
        clear hO hB
        go_wp2
        go_ret2
        exact ⟨_, rfl, KO3.out, KB3.out⟩
end Go.Proofs.Ytpdggoapjbjmhaa.Ma
