/- Blocks are packed: packed if it is worth it. -/
import Derived.Test.YtgplpcjlemjabaaMaB
import Derived.Laws.Externs
set_option linter.unusedVariables false
set_option linter.unusedSimpArgs false
namespace Go.Proofs.Ytgplpcjlemjabaa
open Go.RowKit Go.Proofs.YtgplpcjlemjabaaW.PrintWords Go.Proofs.YtgplpcjlemjabaaW.PrintLast Go.Proofs.YtgplpcjlemjabaaW.PrintMore
namespace Ma
open Go.Proofs.Ytgplpcjlemjabaa.Lz
theorem bits_any (n : Int) (w : World) : (callFunc 20 #[.int .u64 n]).run Try.prog w = .ok (.value (.float .f64 n.toNat)) w := by
  rw [run_callFunc_extern (fn := Try.f20) Try.func20 (by kernel_rfl) (by kernel_rfl) (by kernel_rfl) (show Extern.find Try.f20 = some Extern.MathFloatBits.float64frombits from by kernel_rfl)]
  rfl
theorem pack_back {b : List Int} (hb : isB b) (hN : b.length ≤ 1048576) (x : Nat) : unp (packP b x) (Wo.worth b.length (enc b).length x) b.length = (b, 0) := by
  unfold unp packP
  cases Wo.worth b.length (enc b).length x with
  | true =>
    simp only [if_true]
    rw [enc_dec hb hN]
  | false =>
    simp only [if_neg (by decide : ¬ (false = true))]
    rw [if_neg (by omega), if_neg (by omega)]
theorem packP_isB {b : List Int} (hb : isB b) (hN : b.length ≤ 1048576) (x : Nat) : isB (packP b x) := by
  unfold packP
  split
  · exact enc_isB hb hN
  · exact hb
theorem packP_len {b : List Int} (hN : b.length ≤ 900000) (x : Nat) : (packP b x).length ≤ 1000000 := by
  have hbd := enc_bound b (by omega)
  have hbd2 : bound b.length ≤ 950000 := by unfold bound; split <;> (try split) <;> omega
  unfold packP
  split <;> omega
end Ma
namespace MatchPacks
set_option maxHeartbeats 4000000 in
set_option maxRecDepth 100000 in
theorem walk (w : World) (A0 : Option Addr) (c0 : Nat) (l0 : List Int) (r0 : Kd.C (Kd.int .u8) w A0 l0.length l0) (k0 : l0.length ≤ c0) (g0 : ∀ v ∈ l0, (fun n : Int => (Lit.int .u8 n).wf = true) v) (m0 : l0.length * 1 ≤ 140737488351232) (a1 : Int) (w1 : (Lit.int .u64 a1).wf = true) :
    Calls Try.prog 7 #[.slice A0 l0.length c0, .int .u64 a1] w fun e w' => e = .returned (.bool true) ∧ Below w.heap.size w w' := by
  have hb := Aside0.mk (Lz.u8B g0)
  clear g0 w1
  by_cases hbig : 5000 < l0.length
  · go_enter Try.func7, Try.ntmps7
    go_wp2_with (go_at_call 12; refine (Ma.live_any _).mono ?_; rintro e w' ⟨rfl, hbel⟩)
    go_ret
    exact ⟨rfl, hbel⟩
  have h1 : l0.length ≤ 5000 := by omega
  clear hbig
  have KC : Aside0 (∀ w', Below w.heap.size w w' → Kd.C (Kd.int .u8) w' A0 l0.length l0) := ⟨fun w' hB => Kd.C_below r0 hB⟩
  have hbits := Ma.bits_any a1
  obtain ⟨x, hx⟩ : ∃ x, x = a1.toNat := ⟨_, rfl⟩
  rw [← hx] at hbits
  have KE := Aside0.mk (Ma.encode_any w l0 A0 c0 r0 k0 hb.out (by omega))
  have KP : Aside0 (∀ w' : World, Below w.heap.size w w' → Calls Try.prog 21 #[.slice A0 l0.length c0, .float .f64 x] w' fun e w'' => ∃ v, e = .returned (.tuple #[v, .bool (Wo.worth l0.length (Ma.enc l0).length x), .int .i64 0]) ∧ Row.OwnB w'' w'.heap.size v (Ma.packP l0 x) ∧ Below w'.heap.size w' w'') := ⟨fun w' hB => Ma.pack_any w' l0 A0 c0 x (KC.out w' hB) k0 hb.out (by omega)⟩
  have KU : Aside0 (∀ (w' : World) (A : Option Addr) (c : Nat), Kd.C (Kd.int .u8) w' A (Ma.packP l0 x).length (Ma.packP l0 x) → (Ma.packP l0 x).length ≤ c → Calls Try.prog 18 #[.slice A (Ma.packP l0 x).length c, .bool (Wo.worth l0.length (Ma.enc l0).length x), .int .i64 l0.length] w' fun e w'' => ∃ v, e = .returned (.tuple #[v, .int .i64 0]) ∧ Row.OwnB w'' w'.heap.size v l0 ∧ Below w'.heap.size w' w'') := ⟨fun w' A c hC hc => by
    have h := Ma.unpack_any w' (Ma.packP l0 x) A c (Wo.worth l0.length (Ma.enc l0).length x) l0.length hC hc (Ma.packP_isB hb.out (by omega) x) (Ma.packP_len (by omega) x)
    rwa [Ma.pack_back hb.out (by omega)] at h⟩
  have KW := Aside0.mk (fun w' => Ma.rworth6_any l0.length (Ma.enc l0).length x w')
  have KPe : Aside0 (Wo.worth l0.length (Ma.enc l0).length x = true → Ma.packP l0 x = Ma.enc l0) := ⟨fun h => by unfold Ma.packP; rw [if_pos h]⟩
  have KPb : Aside0 (Wo.worth l0.length (Ma.enc l0).length x = false → Ma.packP l0 x = l0) := ⟨fun h => by unfold Ma.packP; rw [if_neg (by rw [h]; decide)]⟩
  obtain ⟨g, hg⟩ : ∃ g, g = Wo.worth l0.length (Ma.enc l0).length x := ⟨_, rfl⟩
  rw [← hg] at KP KU KW KPe KPb
  clear hg hx r0
  cases g with
  | true =>
    rw [KPe.out rfl] at KP KU
    clear KPe KPb
    go_enter Try.func7, Try.ntmps7
    go_wp2_with (go_at_call 13; apply Aside0.out)
    refine ⟨?_⟩
    refine KE.out.mono ?_
    rintro e w1 ⟨v1, rfl, hO1, hB1⟩
    obtain ⟨A1, c1, rfl, hle1, hC1⟩ := hO1.slice
    have KB1 := Aside0.mk hB1
    have KC1 := Aside0.mk hC1
    clear hO1 hC1 hB1 KE
    go_wp2_with (go_at_call 21; apply Aside0.out)
    refine ⟨?_⟩
    refine (KP.out w1 KB1.out).mono ?_
    rintro e w2 ⟨v2, rfl, hO2, hB2⟩
    obtain ⟨A2, c2, rfl, hle2, hC2⟩ := hO2.slice
    have KB2 := Aside0.mk (below_then KB1.out KB1.out.size hB2)
    have KC1 := Aside0.mk (Kd.C_below KC1.out hB2)
    have KC2 := Aside0.mk hC2
    clear hO2 hC2 hB2 KP
    go_wp2_with (first | (go_at_call 14; refine (Ma.num_any _ _).mono ?_; rintro e w' ⟨rfl, rfl⟩) | (go_at_call 22; apply Aside0.out))
    refine ⟨?_⟩
    refine (KW.out w2).mono ?_
    rintro e w3 ⟨rfl, hB3⟩
    have KB3 := Aside0.mk (below_then KB2.out KB2.out.size hB3)
    have KC2 := Aside0.mk (Kd.C_below KC2.out hB3)
    have hs1 := Kd.C_string (P := Try.prog) (c := c1) Try.underlying22 Try.underlying5 Try.underlying9 (Kd.C_below KC1.out hB3)
    have hs2 := Kd.C_string (P := Try.prog) (c := c2) Try.underlying22 Try.underlying5 Try.underlying9 KC2.out
    have KU := Aside0.mk (KU.out w3 A2 c2 KC2.out hle2)
    clear hB3 KC1
    go_wp2_with (go_at_call 18; apply Aside0.out)
    refine ⟨?_⟩
    refine KU.out.mono ?_
    rintro e w4 ⟨v4, rfl, hO4, hB4⟩
    obtain ⟨A4, c4, rfl, hle4, hC4⟩ := hO4.slice
    have KB4 := Aside0.mk (below_then KB3.out KB3.out.size hB4)
    clear hs1 hs2
    have hs1 := Kd.C_string (P := Try.prog) (c := c4) Try.underlying22 Try.underlying5 Try.underlying9 hC4
    have hs2 := Kd.C_string (P := Try.prog) (c := c0) Try.underlying22 Try.underlying5 Try.underlying9 (KC.out w4 KB4.out)
    clear hO4 hB4 hC4
    go_wp2_with (first | (go_at_call 14; refine (Ma.num_any _ _).mono ?_; rintro e w' ⟨rfl, rfl⟩) | (go_at_call 12; refine (Ma.live_any _).mono ?_; rintro e w' ⟨rfl, hbel⟩))
    go_ret
    exact ⟨rfl, below_then KB4.out KB4.out.size hbel⟩
  | false =>
    rw [KPb.out rfl] at KP KU
    clear KPe KPb
    go_enter Try.func7, Try.ntmps7
    go_wp2_with (go_at_call 13; apply Aside0.out)
    refine ⟨?_⟩
    refine KE.out.mono ?_
    rintro e w1 ⟨v1, rfl, hO1, hB1⟩
    obtain ⟨A1, c1, rfl, hle1, hC1⟩ := hO1.slice
    have KB1 := Aside0.mk hB1
    clear hO1 hC1 hB1 KE
    go_wp2_with (go_at_call 21; apply Aside0.out)
    refine ⟨?_⟩
    refine (KP.out w1 KB1.out).mono ?_
    rintro e w2 ⟨v2, rfl, hO2, hB2⟩
    obtain ⟨A2, c2, rfl, hle2, hC2⟩ := hO2.slice
    have KB2 := Aside0.mk (below_then KB1.out KB1.out.size hB2)
    have KC2 := Aside0.mk hC2
    clear hO2 hC2 hB2 KP
    go_wp2_with (first | (go_at_call 14; refine (Ma.num_any _ _).mono ?_; rintro e w' ⟨rfl, rfl⟩) | (go_at_call 22; apply Aside0.out))
    refine ⟨?_⟩
    refine (KW.out w2).mono ?_
    rintro e w3 ⟨rfl, hB3⟩
    have KB3 := Aside0.mk (below_then KB2.out KB2.out.size hB3)
    have KC2 := Aside0.mk (Kd.C_below KC2.out hB3)
    have hs1 := Kd.C_string (P := Try.prog) (c := c0) Try.underlying22 Try.underlying5 Try.underlying9 (KC.out w3 KB3.out)
    have hs2 := Kd.C_string (P := Try.prog) (c := c2) Try.underlying22 Try.underlying5 Try.underlying9 KC2.out
    have KU := Aside0.mk (KU.out w3 A2 c2 KC2.out hle2)
    clear hB3
    go_wp2_with (go_at_call 18; apply Aside0.out)
    refine ⟨?_⟩
    refine KU.out.mono ?_
    rintro e w4 ⟨v4, rfl, hO4, hB4⟩
    obtain ⟨A4, c4, rfl, hle4, hC4⟩ := hO4.slice
    have KB4 := Aside0.mk (below_then KB3.out KB3.out.size hB4)
    clear hs1 hs2
    have hs1 := Kd.C_string (P := Try.prog) (c := c4) Try.underlying22 Try.underlying5 Try.underlying9 hC4
    have hs2 := Kd.C_string (P := Try.prog) (c := c0) Try.underlying22 Try.underlying5 Try.underlying9 (KC.out w4 KB4.out)
    clear hO4 hB4 hC4
    go_wp2_with (first | (go_at_call 14; refine (Ma.num_any _ _).mono ?_; rintro e w' ⟨rfl, rfl⟩) | (go_at_call 12; refine (Ma.live_any _).mono ?_; rintro e w' ⟨rfl, hbel⟩))
    go_ret
    exact ⟨rfl, below_then KB4.out KB4.out.size hbel⟩
end MatchPacks
end Go.Proofs.Ytgplpcjlemjabaa
