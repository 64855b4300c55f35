/- Texts put together: Bk1, Bk2, LawMa3, Bk7, Bk3, LawMa2, Bk8, Bk9. -/
import Derived.Test.YtpdggoapjbjmhaaZA
import Derived.Test.YtpdggoapjbjmhaaPW
import Derived.Laws.BitsAllLaws
import Derived.Test.YtpdggoapjbjmhaaZR
import Derived.OpenShut
import Derived.Test.YtpdggoapjbjmhaaZN
import Derived.Test.YtpdggoapjbjmhaaPL
import Derived.Laws.Externs
/- Blocks: words, what is stored: plain; the program's and the document's Parts, Word: what is printed of them. -/
set_option linter.unusedVariables false
set_option linter.unusedSimpArgs false
namespace Go.Proofs.Ytpdggoapjbjmhaa.Bk
open Go.RowKit Go.Proofs.Ytpdggoapjbjmhaa.Fd Go.Proofs.Ytpdggoapjbjmhaa.Bg Go.Proofs.Ytpdggoapjbjmhaa.PBlocksWords Go.Proofs.YtpdggoapjbjmhaaW.PrintWords Go.Proofs.YtpdggoapjbjmhaaW.PrintLast Go.Proofs.YtpdggoapjbjmhaaW.PrintMore
end Go.Proofs.Ytpdggoapjbjmhaa.Bk

/- Blocks: Put; are all noughts; Store: walks. -/
set_option linter.unusedVariables false
set_option linter.unusedSimpArgs false
namespace Go.Proofs.Ytpdggoapjbjmhaa.Bk
open Go.RowKit Go.Proofs.Ytpdggoapjbjmhaa.Fd Go.Proofs.Ytpdggoapjbjmhaa.Bg Go.Proofs.YtpdggoapjbjmhaaW.PrintWords Go.Proofs.YtpdggoapjbjmhaaW.PrintLast Go.Proofs.YtpdggoapjbjmhaaW.PrintMore
theorem num_any (n : Int) (w : World) : Calls Try.prog 17 #[.int .i64 n] w fun e w' => e = .returned (.int .i64 n) ∧ w = w' := by
  go_enter Try.func17, Try.ntmps17
  go_wp2
  go_ret
  exact ⟨rfl, rfl⟩
/-- A number behind bytes, in new memory. -/
theorem put_any (w : World) (l : List Int) (A : Option Addr) (c n k : Nat) (hC : ∀ w', Below w.heap.size w w' → Kd.C (Kd.int .u8) w' A l.length l) (hl : l.length ≤ 100000000) (hk : wid k) (hn : n < 2 ^ (8 * k)) : Calls Try.prog 50 #[.slice A l.length c, .int .u64 n, .int .i64 k] w fun e w' => ∃ v, e = .returned (.tuple #[v, .int .i64 0]) ∧ Row.OwnB w' w.heap.size v (l ++ le n k) ∧ Below w.heap.size w w' := by
  have KC := Aside0.mk hC
  have KW := Aside0.mk (fun w1 => wide_yes k hk w1)
  have KF := Aside0.mk (fun w1 => fits_yes n k hk hn w1)
  have hk8 : k ≤ 8 := by rcases hk with rfl | rfl | rfl | rfl <;> decide
  clear hC hn hk
  go_enter Try.func50, Try.ntmps50
  go_wp2_with (first
    | (go_at_call 59; refine (KW.out _).mono ?_; rintro e w' ⟨rfl, rfl⟩)
    | (go_at_call 67; refine (KF.out _).mono ?_; rintro e w' ⟨rfl, rfl⟩)
    | (go_at_call 69; apply Aside0.out))
  refine ⟨?_⟩
  refine (copied_any w l A c KC.out (by omega)).mono ?_
  rintro e w1 ⟨v1, rfl, hO, hB⟩
  have KS := Aside0.mk (store_any w w1 w.heap.size v1 l n k hO hB hB.size hl hk8)
  obtain ⟨A1, c1, rfl, -, -⟩ := hO.slice
  clear hO hB
  go_wp2_with (go_at_call 68; apply Aside0.out)
  refine ⟨?_⟩
  refine KS.out.mono ?_
  rintro e w2 ⟨v2, rfl, hG⟩
  have KG := Aside0.mk hG
  obtain ⟨A2, c2, rfl, -, -⟩ := hG.own.slice
  clear hG
  go_wp2
  go_ret2
  have hO2 := KG.out.own
  rw [List.length_append] at hO2
  exact ⟨_, rfl, hO2, KG.out.below⟩
end Go.Proofs.Ytpdggoapjbjmhaa.Bk

/- Blocks are packed: unpacked, or not. -/
set_option linter.unusedVariables false
set_option linter.unusedSimpArgs false
namespace Go.Proofs.Ytpdggoapjbjmhaa
open Go.RowKit Go.Proofs.YtpdggoapjbjmhaaW.PrintWords Go.Proofs.YtpdggoapjbjmhaaW.PrintLast Go.Proofs.YtpdggoapjbjmhaaW.PrintMore
namespace Ma
open Go.Proofs.Ytpdggoapjbjmhaa.Lz
theorem runpack_any (w : World) (b : List Int) (A : Option Addr) (cap : Nat) (packed : Bool) (most : Int) (hC : Kd.C (Kd.int .u8) w A b.length b) (hcap : b.length ≤ cap) (hb : isB b) (hN : b.length ≤ 1000000) :
    Calls Try.prog 43 #[.slice A b.length cap, .bool packed, .int .i64 most] w fun e w' => ∃ A1 c1, e = .returned (.tuple #[.slice A1 (unp b packed most).1.length c1, .int .i64 (unp b packed most).2]) ∧ Kd.C (Kd.int .u8) w' A1 (unp b packed most).1.length (unp b packed most).1 ∧ Below w.heap.size w w' := by
  have KC := Aside0.mk hC
  by_cases hm : most < 0 ∨ 1048576 < most
  · have he : unp b packed most = ([], 1) := by
      unfold unp
      cases packed with
      | true => rw [if_pos rfl]; unfold dec; rw [if_pos hm]
      | false => rw [if_neg (by decide), if_pos hm]
    rw [he]
    have hm2 : most < 0 ∨ (0 ≤ most ∧ 1048576 < most) := by omega
    clear hm he hC hb
    rcases hm2 with hm | ⟨hm, hm1⟩
    all_goals
      go_enter Try.func43, Try.ntmps43
      go_wp2
      go_ret2
      exact ⟨none, 0, rfl, Kd.C_nil _ _, Below.refl _ _⟩
  · have h0 : 0 ≤ most := by omega
    have h1 : most ≤ 1048576 := by omega
    have KD := Aside0.mk (refdec_dec w b A cap most hC hb hN hcap h0 h1)
    unfold unp
    rw [if_neg hm]
    clear hm
    cases packed with
    | true =>
      rw [if_pos rfl]
      obtain ⟨x, E, P, hx⟩ : ∃ x E P, dec b most = (x, E, P) := ⟨_, _, _, rfl⟩
      rw [hx] at KD ⊢
      simp only at KD ⊢
      clear hC hb hx
      go_enter Try.func43, Try.ntmps43
      go_wp2_with (go_at_call 58; apply Aside0.out)
      refine ⟨?_⟩
      refine KD.out.mono ?_
      rintro e w1 ⟨v8, v9, rfl, hB, h8, h9⟩
      obtain ⟨A8, c8, rfl, -, hC8⟩ := h8.slice
      have KB := Aside0.mk hB
      have KC8 := Aside0.mk hC8
      clear hB h8 h9 hC8
      go_wp2
      go_ret2
      exact ⟨A8, c8, rfl, KC8.out, KB.out⟩
    | false =>
      rw [if_neg (by decide)]
      clear KD hC hb
      by_cases hl : most < b.length
      · rw [if_pos hl]
        go_enter Try.func43, Try.ntmps43
        go_wp2
        go_ret2
        exact ⟨none, 0, rfl, Kd.C_nil _ _, Below.refl _ _⟩
      · rw [if_neg hl]
        have hl2 : (b.length : Int) ≤ most := by omega
        clear hl
        go_enter Try.func43, Try.ntmps43
        go_wp2
        go_ret2
        exact ⟨A, cap, rfl, KC.out, Below.refl _ _⟩
end Ma
namespace MatchUnpacks
end MatchUnpacks
end Go.Proofs.Ytpdggoapjbjmhaa

/- Blocks: Load, the program's and the document's: walks. -/
set_option linter.unusedVariables false
set_option linter.unusedSimpArgs false
namespace Go.Proofs.Ytpdggoapjbjmhaa.Bk
open Go.RowKit Go.Proofs.Ytpdggoapjbjmhaa.Fd Go.Proofs.Ytpdggoapjbjmhaa.Bg Go.Proofs.Ytpdggoapjbjmhaa.Lz Go.Proofs.Ytpdggoapjbjmhaa.Ma Go.Proofs.YtpdggoapjbjmhaaW.PrintWords Go.Proofs.YtpdggoapjbjmhaaW.PrintLast Go.Proofs.YtpdggoapjbjmhaaW.PrintMore
/-- What stands at a place. -/
def cutx (im : List Int) (a n : Int) : List Int := (im.drop a.toNat).take n.toNat
theorem infoU : ∃ x, Try.prog.info? 5 = some x ∧ x.size = 1 := by
  have h : (Try.prog.info? 5).map (·.size) = some 1 := by kernel_rfl
  cases hx : Try.prog.info? 5 with
  | none => rw [hx] at h; simp at h
  | some x => rw [hx] at h; exact ⟨x, rfl, by simpa using h⟩
/-- The bytes from a place on. -/
theorem cut_at (A : Option Addr) (c : Nat) (b : List Int) (p n : Nat) (hq : p + n ≤ b.length) (hc : b.length ≤ c) :
    ∃ (A' : Option Addr) (c' : Nat), n ≤ c' ∧ (∀ W : World, (Instr.slice 37 (.slice A b.length c) (some (.int .i64 (p : Int))) (some (.int .i64 ((p + n : Nat) : Int))) none).run Try.prog W = .ok (.slice A' n c') W) ∧ (∀ w : World, Kd.C (Kd.int .u8) w A b.length b → Kd.C (Kd.int .u8) w A' n ((b.drop p).take n)) := by
  obtain ⟨x, hx, hs⟩ := infoU
  have e : (b.take (p + n)).drop p = (b.drop p).take n := by rw [List.drop_take, show p + n - p = n by omega]
  have el : ((b.drop p).take n).length = n := by rw [List.length_take, List.length_drop]; omega
  obtain ⟨A', h1, h2, h3⟩ := print_mid_of (P := Try.prog) (Value.int .u8) (0 : Int) 37 5 .i64 .i64 Try.underlying37 hx hs A c b (p : Int) ((p + n : Nat) : Int) (by omega) (by omega) (by omega) hc
  simp only [Int.toNat_natCast, e, el] at h1 h2 h3
  exact ⟨A', c - p, h3, h1, fun w hC => Kd.C_of_reads (h1 := fun _ => rfl) (h2 w (Kd.reads_of_C hC))⟩
theorem w64b {x : Int} (h : -9223372036854775808 ≤ x) (h2 : x < 9223372036854775808) : wrap64 x = x := by unfold wrap64; omega
theorem load_l0 (l : List Int) (hl : ∀ x ∈ l, 0 ≤ x ∧ x < 256) (at_ w : Nat) (hw : w ≤ 8) (hm : at_ + w ≤ l.length) (hb : l.length ≤ 140737488351232) : ∀ j k : Nat, j ≤ w → j < k → PBlocksLoads.portmanteauref01_Load.l0 k l (at_ : Int) ((rdN l (at_ + j) (w - j) : Nat) : Int) ((j : Int) - 1) = some ((rdN l at_ w : Nat) : Int)
  | 0, k + 1, hj, hk => by rw [PBlocksLoads.portmanteauref01_Load.l0, if_neg (by omega)]; rfl
  | j + 1, k + 1, hj, hk => by
    have hx := hl l[at_ + j] (List.getElem_mem _)
    have hr : rd l ((at_ + j : Nat) : Int) = l[at_ + j] := by
      unfold rd
      rw [Int.toNat_natCast, List.getD_eq_getElem?_getD, List.getElem?_eq_getElem (by omega)]
      rfl
    have ei : wrap64 ((at_ : Int) + (((j + 1 : Nat) : Int) - 1)) = ((at_ + j : Nat) : Int) := by unfold wrap64; omega
    have ej : wrap64 (((j + 1 : Nat) : Int) - 1 - 1) = (j : Int) - 1 := by unfold wrap64; omega
    have hd : (l.drop (at_ + j)).take (w - j) = l[at_ + j] :: (l.drop (at_ + (j + 1))).take (w - (j + 1)) := by
      rw [List.drop_eq_getElem_cons (by omega), show w - j = (w - (j + 1)) + 1 by omega, List.take_succ_cons]; rfl
    have hv : rdN l (at_ + j) (w - j) = (l[at_ + j]).toNat + 256 * rdN l (at_ + (j + 1)) (w - (j + 1)) := by
      unfold rdN
      rw [hd]; rfl
    have hlt : rdN l (at_ + j) (w - j) < 18446744073709551616 := Nat.lt_of_lt_of_le (rdN_lt hl (at_ + j) (w - j) (by omega)) (pow_le8 (show w - j ≤ 8 by omega))
    have ev : IntKind.u64.wrap ((IntKind.u64.wrap (((rdN l (at_ + (j + 1)) (w - (j + 1)) : Nat) : Int) * 256)) + (IntKind.u64.wrap (rd l ((at_ + j : Nat) : Int)))) = ((rdN l (at_ + j) (w - j) : Nat) : Int) := by
      rw [hr, u64_small (((rdN l (at_ + (j + 1)) (w - (j + 1)) : Nat) : Int) * 256) (by omega) (by omega), u64_small l[at_ + j] hx.1 (by omega), u64_small _ (by omega) (by omega)]
      omega
    rw [PBlocksLoads.portmanteauref01_Load.l0, if_pos (by omega), ei, if_pos (by omega), if_pos (by omega), ev, ej]
    exact load_l0 l hl at_ w hw hm hb j k (by omega) (by omega)
theorem load_f (l : List Int) (hl : ∀ x ∈ l, 0 ≤ x ∧ x < 256) (at_ w : Nat) (hw : w ≤ 8) (hm : at_ + w ≤ l.length) (hb : l.length ≤ 140737488351232) (k : Nat) (hk : 9 ≤ k) : PBlocksLoads.portmanteauref01_Load.f k l (at_ : Int) (w : Int) = some ((rdN l at_ w : Nat) : Int) := by
  have h := load_l0 l hl at_ w hw hm hb w k (by omega) (by omega)
  rw [Nat.sub_self] at h
  unfold PBlocksLoads.portmanteauref01_Load.f
  rw [show wrap64 ((w : Int) - 1) = (w : Int) - 1 by unfold wrap64; omega]
  exact h
theorem rload_same (w : World) (l : List Int) (A : Option Addr) (c a n : Nat) (hC : Kd.C (Kd.int .u8) w A l.length l) (hc : l.length ≤ c) (hl : isB l) (hb : l.length ≤ 1000000) (hn : n ≤ 8) (hm : a + n ≤ l.length) : Calls Try.prog 41 #[.slice A l.length c, .int .i64 a, .int .i64 n] w fun e w' => e = .returned (.int .u64 (rdN l a n)) ∧ Below w.heap.size w w' :=
  (PBlocksLoads.portmanteauref01_Load.calls 20 A c l a n (rdN l a n) w hC hc (load_f l hl a n hn hm (by omega) 20 (by decide))).mono fun e w' ⟨he, ⟨nd, h⟩⟩ => ⟨he, by rw [h]; exact pw_below_drewN (Below.refl _ _) _⟩
end Go.Proofs.Ytpdggoapjbjmhaa.Bk

/- Blocks: Store: walks. -/
set_option linter.unusedVariables false
set_option linter.unusedSimpArgs false
namespace Go.Proofs.Ytpdggoapjbjmhaa.Bk
open Go.RowKit Go.Proofs.Ytpdggoapjbjmhaa.Fd Go.Proofs.Ytpdggoapjbjmhaa.Bg Go.Proofs.Ytpdggoapjbjmhaa.Lz Go.Proofs.Ytpdggoapjbjmhaa.Ma Go.Proofs.YtpdggoapjbjmhaaW.PrintWords Go.Proofs.YtpdggoapjbjmhaaW.PrintLast Go.Proofs.YtpdggoapjbjmhaaW.PrintMore
def pk (b : List Int) (x : Nat) : Bool := Wo.worth b.length (enc b).length x && decide ((enc b).length ≤ 1048576)
end Go.Proofs.Ytpdggoapjbjmhaa.Bk

/- Blocks are packed: packed if it is worth it. -/
set_option linter.unusedVariables false
set_option linter.unusedSimpArgs false
namespace Go.Proofs.Ytpdggoapjbjmhaa
open Go.RowKit Go.Proofs.YtpdggoapjbjmhaaW.PrintWords Go.Proofs.YtpdggoapjbjmhaaW.PrintLast Go.Proofs.YtpdggoapjbjmhaaW.PrintMore
namespace Ma
open Go.Proofs.Ytpdggoapjbjmhaa.Lz
theorem bits_any (n : Int) (w : World) : (callFunc 23 #[.int .u64 n]).run Try.prog w = .ok (.value (.float .f64 n.toNat)) w := by
  rw [run_callFunc_extern (fn := Try.f23) Try.func23 (by kernel_rfl) (by kernel_rfl) (by kernel_rfl) (show Extern.find Try.f23 = some Extern.MathFloatBits.float64frombits from by kernel_rfl)]
  rfl
theorem pack_back {b : List Int} (hb : isB b) (hN : b.length ≤ 1048576) (x : Nat) : unp (packP b x) (Wo.worth b.length (enc b).length x) b.length = (b, 0) := by
  unfold unp packP
  cases Wo.worth b.length (enc b).length x with
  | true =>
    simp only [if_true]
    rw [enc_dec hb hN]
  | false =>
    simp only [if_neg (by decide : ¬ (false = true))]
    rw [if_neg (by omega), if_neg (by omega)]
end Ma
namespace MatchPacks
end MatchPacks
end Go.Proofs.Ytpdggoapjbjmhaa

/- Blocks: Load, the program's and the document's, whole: what they answer. -/
set_option linter.unusedVariables false
set_option linter.unusedSimpArgs false
namespace Go.Proofs.Ytpdggoapjbjmhaa.Bk
open Go.RowKit Go.Proofs.Ytpdggoapjbjmhaa.Fd Go.Proofs.Ytpdggoapjbjmhaa.Bg Go.Proofs.Ytpdggoapjbjmhaa.Lz Go.Proofs.Ytpdggoapjbjmhaa.Ma Go.Proofs.YtpdggoapjbjmhaaW.PrintWords Go.Proofs.YtpdggoapjbjmhaaW.PrintLast Go.Proofs.YtpdggoapjbjmhaaW.PrintMore
end Go.Proofs.Ytpdggoapjbjmhaa.Bk

/- Blocks: what was stored is loaded: plain; the document's Noughts: a walk. -/
set_option linter.unusedVariables false
set_option linter.unusedSimpArgs false
namespace Go.Proofs.Ytpdggoapjbjmhaa.Bk
open Go.RowKit Go.Proofs.Ytpdggoapjbjmhaa.Fd Go.Proofs.Ytpdggoapjbjmhaa.Bg Go.Proofs.Ytpdggoapjbjmhaa.Lz Go.Proofs.Ytpdggoapjbjmhaa.Ma Go.Proofs.YtpdggoapjbjmhaaW.PrintWords Go.Proofs.YtpdggoapjbjmhaaW.PrintLast Go.Proofs.YtpdggoapjbjmhaaW.PrintMore
theorem dec_nil (m : Int) : (dec [] m).1 = [] := by
  unfold dec
  split
  · rfl
  · show (if (run 0 m 1 0 []).2.1 = 0 then (outs [] (run 0 m 1 0 []).1, 0, 0) else ([], (run 0 m 1 0 []).2)).1 = []
    split
    · simp [run, outs, Lz.step]
    · rfl
theorem enc_pos {b : List Int} (hb : isB b) (hN : b.length ≤ 1048576) (h : b ≠ []) : 1 ≤ (enc b).length := by
  refine Nat.pos_of_ne_zero fun h0 => h ?_
  have h1 : enc b = [] := List.eq_nil_of_length_eq_zero h0
  have h2 := enc_dec hb hN
  rw [h1] at h2
  have h3 := dec_nil (b.length : Int)
  rw [h2] at h3
  exact h3
end Go.Proofs.Ytpdggoapjbjmhaa.Bk
