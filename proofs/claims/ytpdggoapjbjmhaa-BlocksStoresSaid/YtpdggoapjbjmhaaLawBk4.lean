/- Any bytes, stored and loaded: the statement's walk. -/
import Derived.Test.YtpdggoapjbjmhaaBk9
import Derived.Test.YtpdggoapjbjmhaaBk4
import Derived.OpenShut
set_option linter.unusedVariables false
set_option linter.unusedSimpArgs false
namespace Go.Proofs.Ytpdggoapjbjmhaa
open Go.RowKit Go.Proofs.Ytpdggoapjbjmhaa.Fd Go.Proofs.Ytpdggoapjbjmhaa.Bg Go.Proofs.Ytpdggoapjbjmhaa.Lz Go.Proofs.Ytpdggoapjbjmhaa.Bk Go.Proofs.YtpdggoapjbjmhaaW.PrintWords Go.Proofs.YtpdggoapjbjmhaaW.PrintLast Go.Proofs.YtpdggoapjbjmhaaW.PrintMore
namespace BlocksStores
theorem dat_short (b : List Int) (hn : b.length ≤ 20000) (x : Nat) : (dat b x).length ≤ 30000 := by
  have h := Ma.enc_bound b (Nat.le_trans hn (by decide))
  have h2 : Ma.bound b.length ≤ 30000 := by unfold Ma.bound; split <;> (try split) <;> omega
  unfold dat
  split <;> omega
theorem big_ (w : World) (A0 : Option Addr) (n0 c0 : Nat) (a1 : Int) (A2 : Option Addr) (n2 c2 : Nat) (lo hi : Bool) (hd1 : decide ((n0 : Int) > 20000) = lo) (hd2 : decide ((n2 : Int) > 300) = hi) (ho : lo = true ∨ (lo = false ∧ hi = true)) : Calls Try.prog 7 #[.slice A0 n0 c0, .int .u64 a1, .slice A2 n2 c2] w fun e w' => e = .returned (.bool true) ∧ Below w.heap.size w w' := by
  rcases ho with rfl | ⟨rfl, rfl⟩
  all_goals
    go_enter Try.func7, Try.ntmps7
    go_wp2_with (go_at_call 19; refine (live_any _).mono ?_; rintro e w' ⟨rfl, hbel⟩)
    go_ret
    exact ⟨rfl, hbel⟩
theorem zero_ (w : World) (A0 : Option Addr) (c0 : Nat) (b : List Int) (a1 : Int) (A2 : Option Addr) (n2 c2 : Nat) (hC : Kd.C (Kd.int .u8) w A0 b.length b) (hz : all0 b = true) (hn : b.length ≤ 20000) (hd1 : decide ((b.length : Int) > 20000) = false) (hd2 : decide ((n2 : Int) > 300) = false) : Calls Try.prog 7 #[.slice A0 b.length c0, .int .u64 a1, .slice A2 n2 c2] w fun e w' => e = .returned (.bool true) ∧ Below w.heap.size w w' := by
  have KS := Aside0.mk (bstore_zero w b A0 c0 a1.toNat hC (by omega) hz)
  have KN := Aside0.mk (noughts_any w b A0 c0 hC (by omega))
  rw [hz] at KN
  have hbits := Ma.bits_any a1
  clear hC hz hn
  go_enter Try.func7, Try.ntmps7
  go_wp2_with (first
    | (go_at_call 27; refine KS.out.mono ?_; rintro e w' ⟨rfl, rfl⟩)
    | (go_at_call 25; refine KN.out.mono ?_; rintro e w' ⟨rfl, rfl⟩)
    | (go_at_call 17; refine (num_any _ _).mono ?_; rintro e w' ⟨rfl, rfl⟩)
    | (go_at_call 19; refine (live_any _).mono ?_; rintro e w' ⟨rfl, hbel⟩))
  go_ret
  exact ⟨rfl, hbel⟩
set_option maxHeartbeats 2000000 in
theorem main_ (w : World) (A0 : Option Addr) (c0 : Nat) (b : List Int) (a1 : Int) (A2 : Option Addr) (c2 : Nat) (l2 : List Int) (hC : Kd.C (Kd.int .u8) w A0 b.length b) (k0 : b.length ≤ c0) (hb : isB b) (hC2 : Kd.C (Kd.int .u8) w A2 l2.length l2) (k2 : l2.length ≤ c2) (hb2 : isB l2) (hz : all0 b = false) (hn : b.length ≤ 20000) (hn2 : l2.length ≤ 300) (hd1 : decide ((b.length : Int) > 20000) = false) (hd2 : decide ((l2.length : Int) > 300) = false) : Calls Try.prog 7 #[.slice A0 b.length c0, .int .u64 a1, .slice A2 l2.length c2] w fun e w' => e = .returned (.bool true) ∧ Below w.heap.size w w' := by
  have hN : b.length ≤ 1048576 := Nat.le_trans hn (by decide)
  have hbits := Ma.bits_any a1
  have KS := Aside0.mk (bstore_any w b A0 c0 a1.toNat hC k0 hb hN)
  have hsto : sto b a1.toNat = ((wrd (dat b a1.toNat).length (pk b a1.toNat)).1, sumd (dat b a1.toNat)) := if_neg (by rw [hz]; decide)
  rw [hsto] at KS
  have KN := Aside0.mk (fun (w1 : World) (hB : Below w.heap.size w w1) => noughts_any w1 b A0 c0 (Kd.C_below hC hB) (Nat.le_trans hN (by decide)))
  rw [hz] at KN
  obtain ⟨g1, g2⟩ := dat_len hb hN hz a1.toNat
  have g3 := dat_short b hn a1.toNat
  have hp := prt_wrd (dat b a1.toNat).length (pk b a1.toNat) (by omega) (by omega)
  have hWb : 1 ≤ (wrd ((dat b a1.toNat).length : Int) (pk b a1.toNat)).1 ∧ (wrd ((dat b a1.toNat).length : Int) (pk b a1.toNat)).1 ≤ 2148532224 := by
    unfold wrd
    rw [if_neg (by omega)]
    split
    · exact ⟨by show (1 : Int) ≤ ((dat b a1.toNat).length : Int); omega, by show ((dat b a1.toNat).length : Int) ≤ 2148532224; omega⟩
    · exact ⟨by show (1 : Int) ≤ ((dat b a1.toNat).length : Int) + 2147483648; omega, by show ((dat b a1.toNat).length : Int) + 2147483648 ≤ 2148532224; omega⟩
  have hld := ld_back hb hN hz a1.toNat l2 []
  rw [List.append_nil] at hld
  have hSl := sumd_len (dat b a1.toNat)
  have hSb : isB (sumd (dat b a1.toNat)) := sumd_isB (dat_isB hb hN a1.toNat)
  generalize sumd (dat b a1.toNat) = S at KS hld hSl hSb
  generalize (wrd ((dat b a1.toNat).length : Int) (pk b a1.toNat)).1 = W at KS hp hWb hld
  generalize pk b a1.toNat = pv at hp
  generalize (dat b a1.toNat).length = m at hp hSl g1 g2 g3
  have hbl : b.length ≤ 20000 := hn
  have KP := Aside0.mk (fun w1 => rparts_any W (by omega) (by omega) w1)
  rw [hp] at KP
  have hib : isB (l2 ++ S) := fun x hx => (List.mem_append.1 hx).elim (hb2 x) (hSb x)
  have hil : (l2 ++ S).length = l2.length + (m + 4) := by rw [List.length_append, hSl]
  have hil2 : (l2 ++ S).length ≤ 10000000 := by omega
  have hW0 : (W == 0) = false := by simp; omega
  obtain ⟨nb, hnb⟩ : ∃ nb, nb = b.length := ⟨_, rfl⟩
  obtain ⟨na, hna⟩ : ∃ na, na = l2.length := ⟨_, rfl⟩
  have KLr : Aside0 (∀ (w1 : World) (A : Option Addr) (c : Nat), (l2 ++ S).length ≤ 1000000 → Kd.C (Kd.int .u8) w1 A (l2 ++ S).length (l2 ++ S) → (l2 ++ S).length ≤ c → Calls Try.prog 24 #[.slice A (l2 ++ S).length c, .int .i64 na, .int .i64 W, .int .i64 nb] w1 fun e w' => ∃ A1 c1, e = .returned (.tuple #[.slice A1 nb c1, .int .i64 0]) ∧ Kd.C (Kd.int .u8) w' A1 nb b ∧ Below w1.heap.size w1 w') := ⟨fun w1 A c hL hCx hcx => by
    have h := rld_any w1 (l2 ++ S) A c na W nb hCx hcx hib hL (by omega) (by omega) (by omega) (by omega)
    rw [hna, hnb, hld] at h
    rw [hna, hnb]
    exact h⟩
  have KLp : Aside0 (∀ (w1 : World) (A : Option Addr) (c : Nat), (l2 ++ S).length ≤ 1000000 → Kd.C (Kd.int .u8) w1 A (l2 ++ S).length (l2 ++ S) → (l2 ++ S).length ≤ c → Calls Try.prog 26 #[.slice A (l2 ++ S).length c, .int .i64 na, .int .i64 W, .int .i64 nb] w1 fun e w' => ∃ A1 c1, e = .returned (.tuple #[.slice A1 nb c1, .int .i64 0]) ∧ Kd.C (Kd.int .u8) w' A1 nb b ∧ Below w1.heap.size w1 w') := ⟨fun w1 A c hL hCx hcx => by
    have h := load_any w1 (l2 ++ S) A c na W nb hCx hcx hib hL (by omega) (by omega) (by omega) (by omega)
    rw [hna, hnb, hld] at h
    rw [hna, hnb]
    refine h.mono ?_
    rintro e w' ⟨v, rfl, hO, hB⟩
    obtain ⟨A1, c1, rfl, -, hC1⟩ := hO.slice
    exact ⟨A1, c1, rfl, hC1, hB⟩⟩
  have KC0 : Aside0 (∀ w', Below w.heap.size w w' → Kd.C (Kd.int .u8) w' A0 nb b) := ⟨fun w' h => by rw [hnb]; exact Kd.C_below hC h⟩
  have KC2 : Aside0 (∀ w', Below w.heap.size w w' → Kd.C (Kd.int .u8) w' A2 na l2) := ⟨fun w' h => by rw [hna]; exact Kd.C_below hC2 h⟩
  have hm4 : ((m + 4 : Nat) : Int) = (m : Int) + 4 := by omega
  have hwm : wrap64 ((m : Int) + 4) = (m : Int) + 4 := w64b (by omega) (by omega)
  rw [← hnb] at KS KN hd1 hn ⊢
  rw [← hna] at hd2 hn2 ⊢
  have Kna := Aside0.mk hna
  have KSl := Aside0.mk hSl
  have hMM : m ≤ 30000 := g3
  have hmm : m ≤ 1048576 := g2
  clear hC hC2 hb hb2 hz hp hld hSb hib hil hil2 hnb hna hsto hN hSl g1 g2 g3 hbl k0 k2 hWb
  go_enter Try.func7, Try.ntmps7
  go_wp2_with (go_at_call 27; apply Aside0.out)
  refine ⟨?_⟩
  refine KS.out.mono ?_
  rintro e w1 ⟨v1, rfl, hO, hB1⟩
  have KB1 := Aside0.mk hB1
  obtain ⟨A1, c1, rfl, -, hC1⟩ := hO.slice
  have KX1 : Aside0 (∀ w', Below w1.heap.size w1 w' → Kd.C (Kd.int .u8) w' A1 (m + 4) S) := ⟨fun w' h => by rw [← KSl.out]; exact Kd.C_below hC1 h⟩
  rw [KSl.out]
  clear hO hB1 hC1
  go_wp2_with (first
    | (go_at_call 25; refine (KN.out _ KB1.out).mono ?_; rintro e w' ⟨rfl, rfl⟩)
    | (go_at_call 17; refine (num_any _ _).mono ?_; rintro e w' ⟨rfl, rfl⟩)
    | (go_at_call 16; apply Aside0.out))
  refine ⟨?_⟩
  refine (KP.out _).mono ?_
  rintro e w2 ⟨rfl, hB2⟩
  have KB2 := Aside0.mk (below_then KB1.out KB1.out.size hB2)
  have KX2 := Aside0.mk (fun w' (h : Below w2.heap.size w2 w') => KX1.out w' (below_then hB2 hB2.size h))
  clear hB2
  go_wp2_with ((with_reducible refine gate_builtin (b := .append) (xs := #[.tmp 56, .tmp 57]) rfl ?_); apply Aside0.out)
  refine ⟨?_⟩
  have hb0 := below_alloc (Below.refl w2.heap.size w2) (.cells #[] 5)
  refine Row.app_rows (w0 := w2) w2.heap.size rfl (.tmp 56) (.tmp 57) rfl _ [] l2 A2 na c2 rfl rfl (Row.OwnB.lit w2 w2.heap.size #[] [] rfl (Nat.le_refl _) (by simp)) (KC2.out _ (below_then KB2.out KB2.out.size hb0)) hb0 (by simp) (by simp; omega) ?_
  intro zs A3 c3 w3 e1 e2 e3 h4 h5 e4 hb3 e5 hg7 e7
  have hz : zs = l2 := by have := e1.out; rwa [List.nil_append] at this
  subst hz
  have KO3 := e2
  have KB3 := hb3
  have KZ3 := e5
  clear e1 e2 e3 h4 h5 e4 hb3 e5 hg7 e7 hb0
  rw [← Kna.out] at KO3 ⊢
  go_wp2_with ((with_reducible refine gate_builtin (b := .append) (xs := #[.tmp 58, .tmp 59]) rfl ?_); apply Aside0.out)
  refine ⟨?_⟩
  refine Row.app_rows (w0 := w2) w2.heap.size rfl (.tmp 58) (.tmp 59) rfl (.slice A3 na c3) zs S A1 (m + 4) c1 rfl rfl KO3.out (KX2.out _ KB3.out) KB3.out KB3.out.size (by rw [← Kna.out]; omega) ?_
  intro ys A4 c4 w4 e1 e2 e3 h4 h5 e4 hb4 e5 hg7 e7
  have hy : ys = zs ++ S := e1.out
  subst hy
  have hyl : (zs ++ S).length ≤ 1000000 ∨ 1000000 < (zs ++ S).length := by omega
  have KC4 := e4
  have KB4 : Aside0 (Below w.heap.size w w4) := ⟨below_then KB2.out KB2.out.size hb4.out⟩
  by_cases hLL : (zs ++ S).length ≤ 1000000
  · have KR := Aside0.mk (fun (w5 : World) (hB : Below w4.heap.size w4 w5) => KLr.out w5 A4 c4 hLL (Kd.C_below KC4.out hB) h5)
    have KQ := Aside0.mk (fun (w5 : World) (hB : Below w4.heap.size w4 w5) => KLp.out w5 A4 c4 hLL (Kd.C_below KC4.out hB) h5)
    generalize (zs ++ S).length = N at KR KQ ⊢
    clear e1 e2 e3 h4 h5 e4 hb4 e5 hg7 e7 hyl hLL KLr KLp KC4
    go_wp2_with (go_at_call 24; apply Aside0.out)
    refine ⟨?_⟩
    refine (KR.out w4 (Below.refl _ _)).mono ?_
    rintro e w5 ⟨A5, c5, rfl, hC5, hB5⟩
    have KB5 := Aside0.mk hB5
    have KC5 := Aside0.mk hC5
    clear hC5 hB5
    go_wp2_with (go_at_call 26; apply Aside0.out)
    refine ⟨?_⟩
    refine (KQ.out w5 KB5.out).mono ?_
    rintro e w6 ⟨A6, c6, rfl, hC6, hB6⟩
    have KB6 : Aside0 (Below w.heap.size w w6) := ⟨below_then KB4.out KB4.out.size (below_then KB5.out KB5.out.size hB6)⟩
    have hs5 := Kd.C_string (P := Try.prog) (c := c5) Try.underlying37 Try.underlying5 Try.underlying9 (Kd.C_below KC5.out hB6)
    have hs6 := Kd.C_string (P := Try.prog) (c := c6) Try.underlying37 Try.underlying5 Try.underlying9 hC6
    have hs0 := Kd.C_string (P := Try.prog) (c := c0) Try.underlying37 Try.underlying5 Try.underlying9 (KC0.out w6 KB6.out)
    clear hC6 hB6
    go_wp2_with (first
      | (go_at_call 17; refine (num_any _ _).mono ?_; rintro e w' ⟨rfl, rfl⟩)
      | (go_at_call 19; refine (live_any _).mono ?_; rintro e w' ⟨rfl, hbel⟩))
    go_ret
    exact ⟨rfl, below_then KB6.out KB6.out.size hbel⟩
  · exfalso
    rw [List.length_append, ← Kna.out, KSl.out] at hLL
    exact hLL (by have := hMM; omega)
theorem walk (w : World) (A0 : Option Addr) (c0 : Nat) (l0 : List Int) (r0 : Kd.C (Kd.int .u8) w A0 l0.length l0) (k0 : l0.length ≤ c0) (g0 : ∀ v ∈ l0, (fun n : Int => (Lit.int .u8 n).wf = true) v) (m0 : l0.length * 1 ≤ 140737488351232) (a1 : Int) (w1 : (Lit.int .u64 a1).wf = true) (A2 : Option Addr) (c2 : Nat) (l2 : List Int) (r2 : Kd.C (Kd.int .u8) w A2 l2.length l2) (k2 : l2.length ≤ c2) (g2 : ∀ v ∈ l2, (fun n : Int => (Lit.int .u8 n).wf = true) v) (m2 : l2.length * 1 ≤ 140737488351232) :
    Calls Try.prog 7 #[.slice A0 l0.length c0, .int .u64 a1, .slice A2 l2.length c2] w fun e w' => e = .returned (.bool true) ∧ Below w.heap.size w w' := by
  have hb : ∀ l : List Int, (∀ v ∈ l, (fun n : Int => (Lit.int .u8 n).wf = true) v) → isB l := fun l g x hx => by
    have := g x hx
    have e1 : IntKind.u8.min = 0 := by decide
    have e2 : IntKind.u8.max = 255 := by decide
    simp only [Lit.wf, e1, e2, Bool.and_eq_true, decide_eq_true_eq] at this
    omega
  by_cases c1 : (l0.length : Int) > 20000
  · exact big_ w A0 l0.length c0 a1 A2 l2.length c2 true _ (decide_eq_true c1) rfl (Or.inl rfl)
  by_cases c3 : (l2.length : Int) > 300
  · exact big_ w A0 l0.length c0 a1 A2 l2.length c2 false true (decide_eq_false c1) (decide_eq_true c3) (Or.inr ⟨rfl, rfl⟩)
  cases hz : all0 l0 with
  | true => exact zero_ w A0 c0 l0 a1 A2 l2.length c2 r0 hz (by omega) (decide_eq_false c1) (decide_eq_false c3)
  | false => exact main_ w A0 c0 l0 a1 A2 c2 l2 r0 k0 (hb l0 g0) r2 k2 (hb l2 g2) hz (by omega) (by omega) (decide_eq_false c1) (decide_eq_false c3)
end BlocksStores
end Go.Proofs.Ytpdggoapjbjmhaa
