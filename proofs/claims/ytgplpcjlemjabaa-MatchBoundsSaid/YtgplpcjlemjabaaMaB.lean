/- Texts put together: Eq, Clone, Ma7, Ma8, Ma9, Ma10. -/
import Derived.Test.YtgplpcjlemjabaaRow
import Derived.Lib.Bytes
import Derived.Lib.SliceRun
import Derived.Test.YtgplpcjlemjabaaWMore
import Derived.Test.YtgplpcjlemjabaaProg
import Derived.WalkKit
import Derived.Laws.FloatArith
import Derived.Test.YtgplpcjlemjabaaMaA
import Derived.Test.YtgplpcjlemjabaaLawLz3
import Derived.Test.YtgplpcjlemjabaaSame
import Derived.Test.YtgplpcjlemjabaaPMatchEncodesx3
/- Bytes held against bytes: as strings, by bytes.Equal: walks. -/
set_option linter.unusedVariables false
set_option linter.unusedSimpArgs false
namespace Go.Proofs.Ytgplpcjlemjabaa.Eq_
open Go.RowKit Go.Proofs.YtgplpcjlemjabaaW.PrintWords Go.Proofs.YtgplpcjlemjabaaW.PrintLast Go.Proofs.YtgplpcjlemjabaaW.PrintMore
theorem str_eq (l m : List Int) (hl : ∀ x ∈ l, 0 ≤ x ∧ x < 256) (hm : ∀ x ∈ m, 0 ≤ x ∧ x < 256) : ((strOfNums l).toList == (strOfNums m).toList) = decide (l = m) := by
  rw [Go.Lib.strOfNums_toList, Go.Lib.strOfNums_toList]
  unfold Go.Lib.bytesOf
  rw [Bool.eq_iff_iff]
  simp only [beq_iff_eq, decide_eq_true_eq]
  constructor
  · intro h
    induction l generalizing m with
    | nil => cases m with
      | nil => rfl
      | cons b m => simp at h
    | cons a l ih => cases m with
      | nil => simp at h
      | cons b m =>
        simp only [List.map_cons, List.cons.injEq] at h
        have ha := hl a (by simp)
        have hb := hm b (by simp)
        have h1 := congrArg UInt8.toNat h.1
        simp only [UInt8.toNat_ofNat'] at h1
        have : a = b := by omega
        rw [this, ih m (fun x hx => hl x (by simp [hx])) (fun x hx => hm x (by simp [hx])) h.2]
  · intro h
    rw [h]
end Go.Proofs.Ytgplpcjlemjabaa.Eq_
/- Bytes in new memory, by bytes.Clone: a walk. -/
set_option linter.unusedVariables false
set_option linter.unusedSimpArgs false
namespace Go.Proofs.Ytgplpcjlemjabaa.Eq_
open Go.RowKit Go.Proofs.YtgplpcjlemjabaaW.PrintWords Go.Proofs.YtgplpcjlemjabaaW.PrintLast Go.Proofs.YtgplpcjlemjabaaW.PrintMore
set_option maxHeartbeats 1000000 in
set_option maxRecDepth 100000 in
theorem clone_any (w : World) (A : Option Addr) (n c : Nat) (xs : List Int) (hC : Kd.C (Kd.int .u8) w A n xs) (hn : n ≤ 140737488355328) :
    Calls Try.prog 38 #[.slice A n c] w fun e w' => ∃ v, e = .returned v ∧ Row.OwnB w' w.heap.size v xs ∧ Below w.heap.size w w' := by
  have hlen := hC.1
  have hnil := fun w => Lib.run_eql_slice_nil (P := Try.prog) w 22 5 A n c 0 0 Try.underlying22
  have Kl := Aside0.mk hlen
  have KC := Aside0.mk hC
  have Khn := Aside0.mk hn
  clear hn
  cases A with
  | none =>
    have h0 : n = 0 := by
      rcases Nat.eq_zero_or_pos n with h | h
      · exact h
      · obtain ⟨ad, e, _⟩ := hC.2.2 h; cases e
    obtain rfl : xs = [] := List.eq_nil_of_length_eq_zero (by rw [hlen]; exact h0)
    subst h0
    clear hC hlen KC Khn Kl
    go_enter Try.func38, Try.ntmps38
    go_wp2
    go_ret
    exact ⟨_, rfl, Row.OwnB.nil _ _, Below.refl _ _⟩
  | some ad =>
    have hal : Below w.heap.size w (w.alloc (.cells #[] 5)) := below_alloc (Below.refl _ _) _
    have Kal := Aside0.mk hal
    have KO := Aside0.mk (Row.OwnB.lit w w.heap.size #[] [] rfl (Nat.le_refl _) (by simp))
    clear hC hal hlen
    go_enter Try.func38, Try.ntmps38
    go_wp2_with ((with_reducible refine gate_builtin (b := .append) (xs := #[.tmp 5, .tmp 6]) rfl ?_); apply Aside0.out)
    refine ⟨?_⟩
    refine Row.app_rows (w0 := w) w.heap.size rfl (.tmp 5) (.tmp 6) rfl (.slice (some ⟨w.heap.size, 0, none⟩) 0 0) [] xs (some ad) n c rfl rfl KO.out (Kd.C_below KC.out Kal.out) Kal.out Kal.out.size (by have := Khn.out; simp; omega) ?_
    intro zs A5 c5 w5 e1 e2 e3 h4 h5 e4 hb5 e5 e6 e7
    obtain rfl : zs = xs := by rw [e1.out]; rfl
    have K5 := Aside0.mk e2.out
    have Kb5 := Aside0.mk hb5.out
    clear e1 e2 e3 h4 e4 e5 e6 e7
    go_wp2
    go_ret
    exact ⟨_, rfl, K5.out, Kb5.out⟩
end Go.Proofs.Ytgplpcjlemjabaa.Eq_
/- Is it worth packing: by floats: walks. -/
set_option linter.unusedVariables false
set_option linter.unusedSimpArgs false
namespace Go.Proofs.Ytgplpcjlemjabaa.Wo
open Go.RowKit Go.Proofs.YtgplpcjlemjabaaW.PrintWords Go.Proofs.YtgplpcjlemjabaaW.PrintLast Go.Proofs.YtgplpcjlemjabaaW.PrintMore
/-- Is it worth packing? -/
def worth (p q : Int) (x : Nat) : Bool := match FloatKind.f64.format.mul (floatOfInt .f64 p) x with
  | some r => FloatKind.f64.format.order (floatOfInt .f64 q) r == some .lt
  | none => false
theorem read_nan (f : Ieee.Format) (s j : Nat) (hs : s = 0 ∨ s = 1) (hj : 0 < j) (h1 : f.binade ≤ f.infRung) (h2 : f.infRung + j < f.signWeight) : f.read (s * f.signWeight + f.infRung + j) = .nan (s == 1) j := by
  unfold Ieee.Format.read
  obtain ⟨W, hW⟩ : ∃ W, f.signWeight = W := ⟨_, rfl⟩
  obtain ⟨I, hI⟩ : ∃ I, f.infRung = I := ⟨_, rfl⟩
  obtain ⟨B, hB⟩ : ∃ B, f.binade = B := ⟨_, rfl⟩
  rw [hI, hB] at h1
  rw [hW, hI] at h2
  simp only [hW, hI, hB]
  have e1 : (s * W + I + j) % W = I + j := by
    rcases hs with rfl | rfl
    · rw [Nat.zero_mul, Nat.zero_add, Nat.mod_eq_of_lt h2]
    · rw [Nat.one_mul, Nat.add_assoc, Nat.add_mod_left, Nat.mod_eq_of_lt h2]
  have e2 : (s * W + I + j) / W % 2 = s := by
    rcases hs with rfl | rfl
    · rw [Nat.zero_mul, Nat.zero_add, Nat.div_eq_of_lt h2]
    · rw [Nat.one_mul, Nat.add_assoc, Nat.add_div_left _ (by omega), Nat.div_eq_of_lt h2]
  rw [e1, e2, if_neg (by omega), if_neg (by omega), if_neg (by omega), Nat.add_sub_cancel_left]
theorem nan_order (a s k : Nat) (hs : s = 0 ∨ s = 1) (hk : k < 4503599627370495) : FloatKind.f64.format.order a (s * 2 ^ 63 + 0x7ff0000000000000 + 1 + k) = none := by
  have e1 : FloatKind.f64.format.signWeight = 2 ^ 63 := by decide
  have e3 : FloatKind.f64.format.infRung = 0x7ff0000000000000 := by decide
  have e2 : FloatKind.f64.format.binade = 4503599627370496 := by decide
  have h := read_nan FloatKind.f64.format s (1 + k) hs (by omega) (by rw [e2, e3]; decide) (by rw [e1, e3]; omega)
  rw [e1, e3, ← Nat.add_assoc] at h
  unfold Ieee.Format.order
  rw [h]
  cases FloatKind.f64.format.read a <;> rfl
theorem run_mul_nan (t : TypeId) (x y : Nat) (w : World) (h : FloatKind.f64.format.mul x y = none) : ∃ r, (binOp .mul t (.float .f64 x) (.float .f64 y)).run Try.prog w = .ok (.float .f64 r) w.drew ∧ ∀ a, FloatKind.f64.format.order a r = none := by
  refine ⟨(Question.nanBits .f64 x y).cut (w.tape w.drawn (.nanBits .f64 x y)), ?_, fun a => ?_⟩
  · simp [binOp, Op.floatArith, h, Question.forced]
  · generalize w.tape w.drawn (.nanBits .f64 x y) = t
    have hn := nan_order a (t % 2) (t / 2 % (2 ^ 52 - 1)) (by omega) (by omega)
    exact hn
theorem run_lss (t : TypeId) (x y : Nat) (w : World) : (binOp .lss t (.float .f64 x) (.float .f64 y)).run Try.prog w = .ok (.bool (FloatKind.f64.format.order x y == some .lt)) w := by
  simp [binOp, Op.floatCmp]
theorem worth_any (p q : Int) (x : Nat) (w : World) : Calls Try.prog 39 #[.int .i64 p, .int .i64 q, .float .f64 x] w fun e w' => e = .returned (.bool (worth p q x)) ∧ Drawn0 w w' := by
  unfold worth
  cases hm : FloatKind.f64.format.mul (floatOfInt .f64 p) x with
  | some r =>
    have h1 : ∀ w1 : World, (binOp .mul 38 (.float .f64 (floatOfInt .f64 p)) (.float .f64 x)).run Try.prog w1 = .ok (.float .f64 r) w1 := fun w1 => run_float_arith w1 .mul 38 .f64 _ _ r hm
    simp only
    clear hm
    go_enter Try.func39, Try.ntmps39
    go_wp2
    go_ret
    exact ⟨rfl, Drawn0.refl _⟩
  | none =>
    obtain ⟨r, h1, h3⟩ := run_mul_nan 38 (floatOfInt .f64 p) x w hm
    have K3 := Aside0.mk h3
    simp only
    clear hm h3
    go_enter Try.func39, Try.ntmps39
    go_wp2
    go_ret
    refine ⟨?_, ⟨1, rfl⟩⟩
    show Ending.returned (.bool (FloatKind.f64.format.order (floatOfInt .f64 q) r == some .lt)) = _
    rw [K3.out]
    rfl
end Go.Proofs.Ytgplpcjlemjabaa.Wo
/- Blocks are packed: a text's block unpacks to the text: plain. -/
set_option linter.unusedVariables false
set_option linter.unusedSimpArgs false
namespace Go.Proofs.Ytgplpcjlemjabaa.Ma
open Go.RowKit Go.Proofs.Ytgplpcjlemjabaa.Lz Go.Proofs.YtgplpcjlemjabaaW.PrintWords Go.Proofs.YtgplpcjlemjabaaW.PrintLast Go.Proofs.YtgplpcjlemjabaaW.PrintMore
theorem segs_ge' : ∀ (l : List Sq), l.length ≤ (segs l).length
  | [] => Nat.le_refl _
  | s :: r => by
    have := segs_ge' r
    simp only [segs, List.length_append, List.length_cons, seg, List.length_nil]
    omega
theorem enc_isB {b : List Int} (hb : isB b) (hN : b.length ≤ 1048576) : isB (enc b) := by
  rw [enc_segs]
  have hT := chosen_told hN
  refine segs_isB (chosen b) 0 (fun s hs => ?_) hT.right (by decide)
  obtain ⟨p, q, hp⟩ := hT.sub s hs
  rw [hp]
  exact sub_isB hb
/-- A text's block tells the text. -/
theorem enc_run {b : List Int} (hb : isB b) (hN : b.length ≤ 1048576) : run (enc b).length (b.length : Int) ((enc b).length + 1) 0 (enc b) = (chosen b, 0, 0) := by
  have hT := chosen_told hN
  have hE := enc_isB hb hN
  have h1 : run (enc b).length 1048576 ((enc b).length + 1) 0 (enc b) = (chosen b, 0, 0) := by
    rw [enc_segs]
    exact run_segs _ (chosen b) 0 _ hT.ne hT.right (by decide) (by have := segs_ge' (chosen b); omega)
  have h2 := run_low (N := (enc b).length) (M := 1048576) (most := (b.length : Int)) (by omega) ((enc b).length + 1) 0 (enc b) hE (Nat.le_refl _) (by decide) (by omega) (by omega)
  rw [h1] at h2
  rcases h2 with ⟨h2, -⟩ | ⟨-, -, h2⟩
  · exact h2
  · exfalso
    have h3 := h2 rfl
    have h4 := outs_length (chosen b) [] (fun s hs => (hT.bds s hs).2.2.1)
    have h5 := hT.outs
    rw [List.take_zero] at h5
    rw [h5] at h4
    simp at h4
    simp only at h3
    omega
theorem enc_dec {b : List Int} (hb : isB b) (hN : b.length ≤ 1048576) : dec (enc b) b.length = (b, 0, ((enc b).length : Int)) := by
  have h := enc_run hb hN
  have hT := chosen_told hN
  unfold dec
  rw [if_neg (by omega), h]
  simp only [if_true]
  have h5 := hT.outs
  rw [List.take_zero] at h5
  rw [h5]
theorem chosen_end {b : List Int} (hN : b.length ≤ 1048576) : (chosen b).length = 1 ∨ ∃ s t l1, chosen b = l1 ++ [s, t] ∧ 5 ≤ t.1.length ∧ 12 ≤ (t.1.length : Int) + s.2.2 := by
  have hT := chosen_told hN
  obtain ⟨l, hl⟩ : ∃ l, chosen b = l := ⟨_, rfl⟩
  rw [hl] at hT ⊢
  rcases hr : l.reverse with _ | ⟨t, _ | ⟨s, r⟩⟩
  · have : l = [] := by simpa using hr
    exact absurd this hT.ne
  · left
    have : l.reverse.length = 1 := by rw [hr]; rfl
    simpa using this
  · right
    have he : l = r.reverse ++ [s, t] := by
      have := congrArg List.reverse hr
      simpa using this
    exact ⟨s, t, r.reverse, he, hT.last s t r.reverse he⟩
/-- What Pack makes. -/
def packP (b : List Int) (x : Nat) : List Int := if Wo.worth b.length (enc b).length x = true then enc b else b
theorem live_yes : Wo.worth ((List.replicate 100 (97 : Int)).length : Nat) ((enc (List.replicate 100 97)).length : Nat) 4602678819172646912 = true := by kernel_rfl
theorem live_no : Wo.worth ((List.replicate 100 (97 : Int)).length : Nat) ((enc (List.replicate 100 97)).length : Nat) 0 = false := by kernel_rfl
end Go.Proofs.Ytgplpcjlemjabaa.Ma
/- Blocks are packed: Pack, Unpack; the document's Bound, Right, Worth, Unpack: walks. -/
set_option linter.unusedVariables false
set_option linter.unusedSimpArgs false
namespace Go.Proofs.Ytgplpcjlemjabaa.Ma
open Go.RowKit Go.Proofs.Ytgplpcjlemjabaa.Lz Go.Proofs.YtgplpcjlemjabaaW.PrintWords Go.Proofs.YtgplpcjlemjabaaW.PrintLast Go.Proofs.YtgplpcjlemjabaaW.PrintMore
theorem num_any (n : Int) (w : World) : Calls Try.prog 14 #[.int .i64 n] w fun e w' => e = .returned (.int .i64 n) ∧ w = w' := by
  go_enter Try.func14, Try.ntmps14
  go_wp2
  go_ret
  exact ⟨rfl, rfl⟩
theorem rworth_any (p q : Int) (x : Nat) (w : World) : Calls Try.prog 40 #[.int .i64 p, .int .i64 q, .float .f64 x] w fun e w' => e = .returned (.bool (Wo.worth p q x)) ∧ Drawn0 w w' := by
  unfold Wo.worth
  cases hm : FloatKind.f64.format.mul (floatOfInt .f64 p) x with
  | some r =>
    have h1 : ∀ w1 : World, (binOp .mul 38 (.float .f64 (floatOfInt .f64 p)) (.float .f64 x)).run Try.prog w1 = .ok (.float .f64 r) w1 := fun w1 => run_float_arith w1 .mul 38 .f64 _ _ r hm
    simp only
    clear hm
    go_enter Try.func40, Try.ntmps40
    go_wp2
    go_ret
    exact ⟨rfl, Drawn0.refl _⟩
  | none =>
    obtain ⟨r, h1, h3⟩ := Wo.run_mul_nan 38 (floatOfInt .f64 p) x w hm
    have K3 := Aside0.mk h3
    simp only
    clear hm h3
    go_enter Try.func40, Try.ntmps40
    go_wp2
    go_ret
    refine ⟨?_, ⟨1, rfl⟩⟩
    show Ending.returned (.bool (FloatKind.f64.format.order (floatOfInt .f64 q) r == some .lt)) = _
    rw [K3.out]
    rfl
theorem rworth6_any (p q : Int) (x : Nat) (w : World) : Calls Try.prog 22 #[.int .i64 p, .int .i64 q, .float .f64 x] w fun e w' => e = .returned (.bool (Wo.worth p q x)) ∧ Below w.heap.size w w' := by
  have KW := Aside0.mk (fun w1 => rworth_any p q x w1)
  go_enter Try.func22, Try.ntmps22
  go_wp2_with (go_at_call 40; apply Aside0.out)
  refine ⟨?_⟩
  refine (KW.out _).mono ?_
  rintro e w1 ⟨rfl, hd⟩
  have KB := Aside0.mk hd.below
  clear hd
  go_wp2
  go_ret
  exact ⟨rfl, KB.out⟩
set_option maxHeartbeats 1000000 in
theorem rbound_any (n : Int) (hn : n ≤ 9223372036854775807) (w : World) : Calls Try.prog 17 #[.int .i64 n] w fun e w' => e = .returned (.int .i64 (bound n)) ∧ Below w.heap.size w w' := by
  unfold bound
  by_cases h1 : n < 0 ∨ 1048576 < n
  · rw [if_pos h1]
    have h2 : n < 0 ∨ (0 ≤ n ∧ 1048576 < n) := by omega
    clear h1 hn
    rcases h2 with h | ⟨h, h2⟩
    all_goals
      go_enter Try.func17, Try.ntmps17
      go_wp2
      go_ret
      exact ⟨rfl, Below.refl _ _⟩
  · rw [if_neg h1]
    have h2 : 0 ≤ n := by omega
    have h3 : n ≤ 1048576 := by omega
    clear h1 hn
    by_cases h4 : n < 15
    · rw [if_pos h4]
      go_enter Try.func17, Try.ntmps17
      go_wp2
      go_ret
      exact ⟨rfl, Below.refl _ _⟩
    · rw [if_neg h4]
      have h5 : 15 ≤ n := by omega
      go_enter Try.func17, Try.ntmps17
      go_wp2
      go_loopw [3, 4] (fun m i wr => ∃ k x : Int, i = .int .i64 k ∧ m = .int .i64 x ∧ 0 ≤ k ∧ k ≤ 1048576 ∧ 0 ≤ x ∧ x ≤ 2097152 ∧ Aside0 (x + k / 255 = n + 2 + (n - 15) / 255) ∧ x + k ≤ 2 * n + 2 ∧ wr = w) (fun _ i _ => (intOf i).toNat)
      case atStart => exact ⟨n - 15, n + 2, by go_num, by go_num, by omega, by omega, by omega, by omega, ⟨rfl⟩, by omega, rfl⟩
      case round =>
        obtain ⟨k, x, rfl, rfl, k0, k1, x0, x1, kx, kn, rfl⟩ := hrel
        by_cases hlt : k < 255
        · have KX : Aside0 (x = n + 2 + (n - 15) / 255) := ⟨by have := kx.out; omega⟩
          clear kn kx
          go_wp2
          go_ret
          exact ⟨by rw [KX.out]; rfl, Below.refl _ _⟩
        · have hge : 255 ≤ k := by omega
          go_wp2
          refine ⟨⟨k - 255, x + 1, by go_num, by go_num, by omega, by omega, by omega, by omega, ⟨by have := kx.out; omega⟩, by omega, trivial⟩, by simp [intOf]; omega⟩
/-- Pack. -/
theorem pack_any (w : World) (b : List Int) (A : Option Addr) (cap x : Nat) (hC : Kd.C (Kd.int .u8) w A b.length b) (hcap : b.length ≤ cap) (hb : isB b) (hN : b.length ≤ 1048576) :
    Calls Try.prog 21 #[.slice A b.length cap, .float .f64 x] w fun e w' => ∃ v, e = .returned (.tuple #[v, .bool (Wo.worth b.length (enc b).length x), .int .i64 0]) ∧ Row.OwnB w' w.heap.size v (packP b x) ∧ Below w.heap.size w w' := by
  have KE := Aside0.mk (encode_any w b A cap hC hcap hb hN)
  have KC : Aside0 (∀ w', Below w.heap.size w w' → Kd.C (Kd.int .u8) w' A b.length b) := ⟨fun w' hB => Kd.C_below hC hB⟩
  have KW := Aside0.mk (fun w1 => Wo.worth_any b.length (enc b).length x w1)
  have KP : Aside0 (packP b x = if Wo.worth b.length (enc b).length x = true then enc b else b) := ⟨rfl⟩
  obtain ⟨g, hg⟩ : ∃ g, g = Wo.worth b.length (enc b).length x := ⟨_, rfl⟩
  rw [← hg] at KP KW ⊢
  clear hC hb hg
  go_enter Try.func21, Try.ntmps21
  go_wp2_with (go_at_call 13; apply Aside0.out)
  refine ⟨?_⟩
  refine KE.out.mono ?_
  rintro e w1 ⟨v1, rfl, hO, hB⟩
  obtain ⟨A1, c1, rfl, -, -⟩ := hO.slice
  have KO := Aside0.mk hO
  have KB := Aside0.mk hB
  clear hO hB
  cases g with
  | true =>
    have KP2 : Aside0 (packP b x = enc b) := ⟨by rw [KP.out, if_pos rfl]⟩
    go_wp2_with (go_at_call 39; apply Aside0.out)
    refine ⟨?_⟩
    refine (KW.out _).mono ?_
    rintro e w2 ⟨rfl, hd⟩
    have KO2 := Aside0.mk (KO.out.below hd.below)
    have KB2 := Aside0.mk (below_then KB.out KB.out.size hd.below)
    clear hd
    go_wp2
    go_ret3
    exact ⟨_, rfl, by rw [KP2.out]; exact KO2.out, KB2.out⟩
  | false =>
    go_wp2_with (go_at_call 39; apply Aside0.out)
    refine ⟨?_⟩
    refine (KW.out _).mono ?_
    rintro e w2 ⟨rfl, hd⟩
    have KB2 := Aside0.mk (below_then KB.out KB.out.size hd.below)
    clear hd
    go_wp2_with (go_at_call 38; apply Aside0.out)
    refine ⟨?_⟩
    refine (Eq_.clone_any w2 A b.length cap b (KC.out w2 KB2.out) (by omega)).mono ?_
    rintro e w3 ⟨v3, rfl, hO, hB⟩
    have KO3 := Aside0.mk (hO.lower KB2.out.size)
    have KB3 := Aside0.mk (below_then KB2.out KB2.out.size hB)
    clear hO hB
    go_wp2
    go_ret3
    exact ⟨_, rfl, by rw [KP.out, if_neg (by decide)]; exact KO3.out, KB3.out⟩
/-- What Unpack tells. -/
def unp (b : List Int) (packed : Bool) (most : Int) : List Int × Int := if packed = true then ((dec b most).1, (dec b most).2.1) else if most < 0 ∨ 1048576 < most then ([], 1) else if most < b.length then ([], 2) else (b, 0)
theorem unpack_any (w : World) (b : List Int) (A : Option Addr) (cap : Nat) (packed : Bool) (most : Int) (hC : Kd.C (Kd.int .u8) w A b.length b) (hcap : b.length ≤ cap) (hb : isB b) (hN : b.length ≤ 1000000) :
    Calls Try.prog 18 #[.slice A b.length cap, .bool packed, .int .i64 most] w fun e w' => ∃ v, e = .returned (.tuple #[v, .int .i64 (unp b packed most).2]) ∧ Row.OwnB w' w.heap.size v (unp b packed most).1 ∧ Below w.heap.size w w' := by
  have KC : Aside0 (∀ w', Below w.heap.size w w' → Kd.C (Kd.int .u8) w' A b.length b) := ⟨fun w' hB => Kd.C_below hC hB⟩
  unfold unp
  cases packed with
  | true =>
    rw [if_pos rfl]
    have KD := Aside0.mk (decode_any w b A cap most KC.out hb hN hcap)
    obtain ⟨x, E, P, hx⟩ : ∃ x E P, dec b most = (x, E, P) := ⟨_, _, _, rfl⟩
    rw [hx] at KD ⊢
    simp only at KD ⊢
    clear hC hb hx
    go_enter Try.func18, Try.ntmps18
    go_wp2_with (go_at_call 37; apply Aside0.out)
    refine ⟨?_⟩
    refine KD.out.mono ?_
    rintro e w1 ⟨v1, rfl, hO, hB⟩
    have KO := Aside0.mk hO
    have KB := Aside0.mk hB
    clear hO hB
    go_wp2
    go_ret2
    exact ⟨_, rfl, KO.out, KB.out⟩
  | false =>
    rw [if_neg (by decide)]
    clear hC hb
    by_cases hm : most < 0 ∨ 1048576 < most
    · rw [if_pos hm]
      have hm2 : most < 0 ∨ (0 ≤ most ∧ 1048576 < most) := by omega
      clear hm
      rcases hm2 with hm | ⟨hm, hm1⟩
      all_goals
        go_enter Try.func18, Try.ntmps18
        go_wp2
        go_ret2
        exact ⟨_, rfl, Row.OwnB.nil _ _, Below.refl _ _⟩
    · rw [if_neg hm]
      have h0 : 0 ≤ most := by omega
      have h1 : most ≤ 1048576 := by omega
      clear hm
      by_cases hl : most < b.length
      · rw [if_pos hl]
        go_enter Try.func18, Try.ntmps18
        go_wp2
        go_ret2
        exact ⟨_, rfl, Row.OwnB.nil _ _, Below.refl _ _⟩
      · rw [if_neg hl]
        have hl2 : (b.length : Int) ≤ most := by omega
        clear hl
        go_enter Try.func18, Try.ntmps18
        go_wp2_with (go_at_call 38; apply Aside0.out)
        refine ⟨?_⟩
        refine (Eq_.clone_any _ A b.length cap b (KC.out _ (Below.refl _ _)) (by omega)).mono ?_
        rintro e w3 ⟨v3, rfl, hO, hB⟩
        have KO3 := Aside0.mk hO
        have KB3 := Aside0.mk hB
        clear hO hB
        go_wp2
        go_ret2
        exact ⟨_, rfl, KO3.out, KB3.out⟩
end Go.Proofs.Ytgplpcjlemjabaa.Ma
/- Blocks are packed: the same byte so many times, the page's examples; the document's Right: walks. -/
set_option linter.unusedVariables false
set_option linter.unusedSimpArgs false
namespace Go.Proofs.Ytgplpcjlemjabaa.Ma
open Go.RowKit Go.Proofs.Ytgplpcjlemjabaa.Lz Go.Proofs.YtgplpcjlemjabaaW.PrintWords Go.Proofs.YtgplpcjlemjabaaW.PrintLast Go.Proofs.YtgplpcjlemjabaaW.PrintMore
theorem many_f : PMatchEncodes.portmanteaulaw06_many.f 101 100 97 = some (List.replicate 100 97) := by kernel_rfl
theorem many_any (w : World) : Calls Try.prog 33 #[.int .i64 100, .int .u8 97] w fun e w' => ∃ A c, e = .returned (.slice A 100 c) ∧ 100 ≤ c ∧ Kd.C (Kd.int .u8) w' A 100 (List.replicate 100 97) ∧ Below w.heap.size w w' := by
  refine (PMatchEncodes.portmanteaulaw06_many.calls 101 100 97 _ w many_f).mono fun e w' ⟨v, he, hR, hB⟩ => ?_
  obtain ⟨A, c, rfl, hle, hC⟩ := Kd.R_reads hR
  rw [List.length_replicate] at he hle hC
  exact ⟨A, c, he, hle, hC, hB⟩
theorem rep_isB : isB (List.replicate 100 (97 : Int)) := fun x hx => by rw [(List.mem_replicate.1 hx).2]; decide
theorem ex_any (w : World) (A : Option Addr) (c x : Nat) (g : Bool) (hg : Wo.worth ((List.replicate 100 (97 : Int)).length : Nat) ((enc (List.replicate 100 97)).length : Nat) x = g) (hC : Kd.C (Kd.int .u8) w A 100 (List.replicate 100 97)) (hc : 100 ≤ c) : Calls Try.prog 21 #[.slice A 100 c, .float .f64 x] w fun e w' => ∃ A1 n1 c1, e = .returned (.tuple #[.slice A1 n1 c1, .bool g, .int .i64 0]) ∧ Below w.heap.size w w' := by
  have h := pack_any w (List.replicate 100 97) A c x (by rw [List.length_replicate]; exact hC) (by rw [List.length_replicate]; exact hc) rep_isB (by rw [List.length_replicate]; decide)
  rw [hg] at h
  rw [List.length_replicate] at h
  refine h.mono fun e w' ⟨v, he, hO, hB⟩ => ?_
  obtain ⟨A1, c1, rfl, -, -⟩ := hO.slice
  exact ⟨A1, _, c1, he, hB⟩
theorem bnd14 (w : World) : Calls Try.prog 16 #[.int .i64 14] w fun e w' => e = .returned (.int .i64 15) ∧ w = w' := by
  have h := bound_any 14 (by decide) w
  rwa [show bound 14 = 15 from rfl] at h
theorem bnd15 (w : World) : Calls Try.prog 16 #[.int .i64 15] w fun e w' => e = .returned (.int .i64 17) ∧ w = w' := by
  have h := bound_any 15 (by decide) w
  rwa [show bound 15 = 17 from rfl] at h
theorem bnd270 (w : World) : Calls Try.prog 16 #[.int .i64 270] w fun e w' => e = .returned (.int .i64 273) ∧ w = w' := by
  have h := bound_any 270 (by decide) w
  rwa [show bound 270 = 273 from rfl] at h
set_option maxHeartbeats 400000 in
set_option maxRecDepth 100000 in
theorem live_any (w : World) : Calls Try.prog 12 #[] w fun e w' => e = .returned (.bool true) ∧ Below w.heap.size w w' := by
  have tokA : True := trivial
  have tokB : True := trivial
  go_enter Try.func12, Try.ntmps12
  go_wp2_with (go_at_call 33; apply Aside0.out)
  refine ⟨?_⟩
  refine (many_any w).mono ?_
  rintro e w1 ⟨A1, c1, rfl, hc1, hC1, hB1⟩
  have KE := Aside0.mk (ex_any w1 A1 c1 _ _ live_yes hC1 hc1)
  have KB := Aside0.mk hB1
  clear hC1 hB1 hc1
  go_wp2_with (go_at_call 21; apply Aside0.out)
  refine ⟨?_⟩
  refine KE.out.mono ?_
  rintro e w2 ⟨A2, n2, c2, rfl, hB⟩
  have KB2 := Aside0.mk (below_then KB.out KB.out.size hB)
  clear hB KE KB
  go_wp2_with (go_at_call 33; apply Aside0.out)
  refine ⟨?_⟩
  refine (many_any w2).mono ?_
  rintro e w3 ⟨A3, c3, rfl, hc3, hC3, hB3⟩
  have KE := Aside0.mk (ex_any w3 A3 c3 _ _ live_no hC3 hc3)
  have KB := Aside0.mk (below_then KB2.out KB2.out.size hB3)
  clear hC3 hB3 hc3 KB2
  go_wp2_with (go_at_call 21; apply Aside0.out)
  refine ⟨?_⟩
  refine KE.out.mono ?_
  rintro e w4 ⟨A4, n4, c4, rfl, hB⟩
  have KB4 := Aside0.mk (below_then KB.out KB.out.size hB)
  clear hB KE KB
  go_wp2_with (first | (go_at_call 14; refine (num_any _ _).mono ?_; rintro e w' ⟨rfl, rfl⟩) | (go_at_call 16; have _t := tokA; refine (bnd14 _).mono ?_; rintro e w' ⟨rfl, rfl⟩; clear tokA _t) | (go_at_call 16; have _t := tokB; refine (bnd15 _).mono ?_; rintro e w' ⟨rfl, rfl⟩; clear tokB _t) | (go_at_call 16; refine (bnd270 _).mono ?_; rintro e w' ⟨rfl, rfl⟩))
  go_ret
  exact ⟨rfl, KB4.out⟩
theorem isB_str {l : List Int} (h : isB l) : ((strOfNums l).toList == (strOfNums l).toList) = true := by simp
set_option maxHeartbeats 2000000 in
set_option maxRecDepth 100000 in
/-- A text's block is right. -/
theorem rright_any (w : World) (b : List Int) (A B : Option Addr) (c d : Nat) (hA : Kd.C (Kd.int .u8) w A b.length b) (hB : Kd.C (Kd.int .u8) w B (enc b).length (enc b)) (hc : b.length ≤ c) (hd : (enc b).length ≤ d) (hb : isB b) (hN : b.length ≤ 900000) :
    Calls Try.prog 15 #[.slice A b.length c, .slice B (enc b).length d] w fun e w' => e = .returned (.bool true) ∧ Below w.heap.size w w' := by
  have hbd := enc_bound b (by omega)
  have hbd2 : bound b.length ≤ 950000 := by unfold bound; split <;> (try split) <;> omega
  have KD := Aside0.mk (refdec_dec w (enc b) B d b.length hB (enc_isB hb (by omega)) (by omega) hd (by omega) (by omega))
  rw [enc_dec hb (by omega), enc_run hb (by omega)] at KD
  simp only [if_true] at KD
  have KC : Aside0 (∀ w', Below w.heap.size w w' → Kd.C (Kd.int .u8) w' A b.length b) := ⟨fun w' h => Kd.C_below hA h⟩
  have KN := Aside0.mk (rbound_any b.length (by omega))
  have KE := Aside0.mk (chosen_end (b := b) (by omega))
  obtain ⟨q, hq⟩ : ∃ q, q = (enc b).length := ⟨_, rfl⟩
  obtain ⟨m, hm⟩ : ∃ m, m = bound b.length := ⟨_, rfl⟩
  rw [← hq] at KD hd hbd ⊢
  rw [← hm] at KN hbd hbd2
  have hn1 : decide (m < (q : Int)) = false := by simp; omega
  clear hA hB hm hq hb
  go_enter Try.func15, Try.ntmps15
  go_wp2_with (go_at_call 36; apply Aside0.out)
  refine ⟨?_⟩
  refine KD.out.mono ?_
  rintro e w1 ⟨v8, v9, rfl, hB1, h8, h9⟩
  obtain ⟨A8, c8, rfl, -, hC8⟩ := h8.slice
  obtain ⟨A9, c9, rfl, hle9, hC9⟩ := RowL_C h9 hB1
  have KB := Aside0.mk hB1
  have hs1 := Kd.C_string (P := Try.prog) (c := c8) Try.underlying22 Try.underlying5 Try.underlying9 hC8
  have hs2 := Kd.C_string (P := Try.prog) (c := c) Try.underlying22 Try.underlying5 Try.underlying9 (KC.out w1 hB1)
  have K9 := Aside0.mk hC9
  clear h8 h9 hC8 hC9 hB1 KD
  rcases KE.out with h1 | ⟨s, t, l1, hl, e5, e12⟩
  · rw [h1] at K9 hle9 ⊢
    go_wp2_with (go_at_call 17; refine (KN.out _).mono ?_; rintro e w2 ⟨rfl, hb2⟩; have KB2 := Aside0.mk (below_then KB.out KB.out.size hb2); clear hb2)
    go_ret
    exact ⟨rfl, KB2.out⟩
  · rw [hl] at K9 hle9 ⊢
    have hlen : (l1 ++ [s, t]).length = l1.length + 2 := by simp
    rw [hlen] at K9 hle9 ⊢
    have h1 : l1.length ≤ 1000000 := by
      have := chosen_told (b := b) (by omega)
      have := this.cnt
      rw [hl, hlen] at this
      omega
    obtain ⟨k, hk⟩ : ∃ k, k = l1.length := ⟨_, rfl⟩
    rw [← hk] at K9 hle9 h1 ⊢
    clear KE
    have Khl := Aside0.mk hl
    clear hl hlen
    have Kk := Aside0.mk hk
    clear hk
    go_wp2_with (go_at_call 17; apply Aside0.out)
    refine ⟨?_⟩
    refine (KN.out _).mono ?_
    rintro e w2 ⟨rfl, hb2⟩
    have hk := Kk.out
    have hl := Khl.out
    have KB2 := Aside0.mk (below_then KB.out KB.out.size hb2)
    have K9 := Aside0.mk (Kd.C_below K9.out hb2)
    obtain ⟨ad, B0, d0, s0, hs0, rfl, x0, x1, x2, y0, -⟩ := at_kS K9.out (k + 1) (by omega)
    obtain ⟨ad1, B1, d1, s1, hs3, he, z0, z1, z2, v0, -⟩ := at_kS K9.out k (by omega)
    obtain rfl := Option.some.inj he
    obtain rfl : t = s0 := by
      rw [hk, List.getElem?_append_right (by omega)] at hs0
      simpa using hs0
    obtain rfl : s = s1 := by
      rw [hk, List.getElem?_append_right (by omega)] at hs3
      simpa using hs3
    clear hs0 hs3 he hb2 KB hs1 hs2
    obtain ⟨lt, ot, nt⟩ := t
    obtain ⟨ls, os, ns⟩ := s
    simp only at x0 x1 x2 z0 z1 z2 y0 v0 e5 e12
    have hT := chosen_told (b := b) (by omega)
    obtain ⟨-, -, s1, s2, -⟩ := hT.bds (ls, os, ns) (by rw [hl]; simp)
    obtain ⟨-, -, -, -, t1⟩ := hT.bds (lt, ot, nt) (by rw [hl]; simp)
    simp only at s1 s2 t1
    replace s2 : ns ≤ 1000000 := by omega
    replace t1 : lt.length ≤ 1000000 := by omega
    clear hl hk Khl hT
    go_wp2
    go_ret
    exact ⟨rfl, KB2.out⟩
end Go.Proofs.Ytgplpcjlemjabaa.Ma
