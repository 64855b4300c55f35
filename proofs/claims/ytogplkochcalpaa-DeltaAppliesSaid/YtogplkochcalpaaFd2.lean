/- Numbers in bytes: a writer's end, a reader: walks. -/
import Derived.Test.YtogplkochcalpaaFd1
import Derived.WalkSpells
import Derived.Deep.QuietTactic
import Derived.BigQuiet
set_option linter.unusedVariables false
set_option linter.unusedSimpArgs false
namespace Go.Proofs.Ytogplkochcalpaa.Fd
open Go.RowKit Go.Proofs.YtogplkochcalpaaW.PrintWords Go.Proofs.YtogplkochcalpaaW.PrintLast Go.Proofs.YtogplkochcalpaaW.PrintMore
/-- Bytes in new memory. -/
theorem copied_any (w : World) (l : List Int) (A : Option Addr) (c : Nat) (hC : ∀ w', Below w.heap.size w w' → Kd.C (Kd.int .u8) w' A l.length l) (hl : l.length ≤ 140737488355328) : Calls Try.prog 61 #[.slice A l.length c] w fun e w' => ∃ v, e = .returned v ∧ Row.OwnB w' w.heap.size v l ∧ Below w.heap.size w w' := by
  have K4 := Aside0.mk hC
  clear hC
  go_enter Try.func61, Try.ntmps61
  go_wp2_with ((with_reducible refine gate_builtin (b := .append) (xs := #[.tmp 3, .tmp 4]) rfl ?_); apply Aside0.out)
  refine ⟨?_⟩
  have hb := below_alloc (Below.refl w.heap.size w) (.cells #[] 5)
  refine Row.app_rows (w0 := w) w.heap.size rfl (.tmp 3) (.tmp 4) rfl _ [] l A l.length c rfl rfl (Row.OwnB.lit w w.heap.size #[] [] rfl (Nat.le_refl _) (by simp)) (K4.out _ hb) hb (by simp) (by simp; omega) ?_
  intro zs A1 c1 w1 hz ho hzl hzle hzc hC1 hb1 hbs hg1 hat1
  have hz := hz.out
  rw [List.nil_append] at hz
  have KO : Aside0 (Row.OwnB w1 w.heap.size (.slice A1 zs.length c1) l) := ⟨by have := ho.out; rwa [hz] at this ⊢⟩
  have KB := Aside0.mk hb1.out
  clear hz ho hzl hC1 hg1 hat1 hb1 hzle hb hbs
  go_wp2
  go_ret
  exact ⟨_, rfl, KO.out, KB.out⟩
theorem writer_new (m : Int) (h0 : 0 ≤ m) (w : World) : Calls Try.prog 39 #[.int .i64 m] w fun e w' => e = .returned (.pointer (some ⟨w.heap.size, 0, none⟩)) ∧ FW w w.heap.size w.heap.size m w' (.slice none 0 0) [] := by
  have KB := Aside0.mk (below_alloc (Below.refl w.heap.size w) (.cells #[.slice none 0 0, .int .i64 m, .int .i64 0] 97))
  have KS := Aside0.mk (heap_alloc_new w (.cells #[.slice none 0 0, .int .i64 m, .int .i64 0] 97))
  have hm : (if m < 0 then 0 else m) = m := if_neg (by omega)
  have hm2 : (if 0 < m then m else 0) = m := by by_cases h : 0 < m; exact if_pos h; rw [if_neg h]; omega
  clear h0
  go_enter Try.func39, Try.ntmps39
  go_wp2
  go_ret
  exact ⟨rfl, KS.out, Row.OwnB.nil _ _, KB.out, Nat.le_refl _⟩
section
variable {w0 w w1 : World} {base g : Nat} {most : Int} {v v1 : Value} {xs ys : List Int}
/-- All that was taken, in new memory. -/
theorem done_ok (h : FW w0 base g most w v xs) (hx : xs.length ≤ 100000000) : Calls Try.prog 42 #[.pointer (some ⟨g, 0, none⟩)] w fun e w' => ∃ u, e = .returned (.tuple #[u, .int .i64 0]) ∧ Row.OwnB w' w.heap.size u xs ∧ Below w.heap.size w w' := by
  obtain ⟨c0, c1, c2⟩ := h.cells
  obtain ⟨A, c, rfl, hle, hC⟩ := h.own.slice
  have K4 := Aside0.mk (copied_any w xs A c (fun w' hb => Kd.C_below hC hb) (by omega))
  clear h hC c1 hle
  go_enter Try.func42, Try.ntmps42
  go_wp2_with (go_at_call 61; refine K4.out.mono ?_; rintro e w1 ⟨u, rfl, ho, hb⟩; have KO := Aside0.mk ho; have KB := Aside0.mk hb; clear ho hb)
  go_ret2
  exact ⟨_, rfl, KO.out, KB.out⟩
end
/-- A number out of bytes, the lowest first. -/
def val : List Int → Nat
  | [] => 0
  | x :: r => x.toNat + 256 * val r
theorem val_snoc (l : List Int) (x : Int) : val (l ++ [x]) = val l + x.toNat * 2 ^ (8 * l.length) := by
  induction l with
  | nil => simp [val]
  | cons a l ih =>
    rw [List.cons_append, val, ih, val, List.length_cons, show 8 * (l.length + 1) = 8 * l.length + 8 by omega, Nat.pow_add]
    have : (2 : Nat) ^ 8 = 256 := by decide
    rw [this, Nat.mul_add, ← Nat.mul_assoc x.toNat, Nat.mul_comm 256 (x.toNat * 2 ^ (8 * l.length))]
    omega
theorem val_lt (l : List Int) (h : ∀ x ∈ l, 0 ≤ x ∧ x < 256) : val l < 2 ^ (8 * l.length) := by
  induction l with
  | nil => simp [val]
  | cons a l ih =>
    have h1 := ih (fun x hx => h x (by simp [hx]))
    have h2 := h a (by simp)
    rw [val, List.length_cons, show 8 * (l.length + 1) = 8 * l.length + 8 by omega, Nat.pow_add]
    have : (2 : Nat) ^ 8 = 256 := by decide
    rw [this]
    omega
theorem pow_le8 {k j : Nat} (h : k ≤ j) : 2 ^ (8 * k) ≤ 2 ^ (8 * j) := Nat.pow_le_pow_right (by decide) (by omega)
theorem u64_small (n : Int) (h0 : 0 ≤ n) (h : n < 18446744073709551616) : IntKind.u64.wrap n = n := by simp [IntKind.wrap, IntKind.bits, IntKind.signed]; omega
theorem or64 (n y k : Nat) (hn : n < 2 ^ (8 * k)) (hy : y < 256) (hk : k ≤ 7) : bits BinOp.or IntKind.u64 (n : Int) (IntKind.u64.wrap ((y : Int) * 2 ^ (8 * k))) = ((n + y * 2 ^ (8 * k) : Nat) : Int) := by
  have hp : (2 : Nat) ^ (8 * k) ≤ 2 ^ 56 := Nat.pow_le_pow_right (by decide) (by omega)
  have hp2 : (2 : Nat) ^ (8 * k) * 256 ≤ 2 ^ 64 := by
    have : (2 : Nat) ^ 64 = 2 ^ 56 * 256 := by decide
    rw [this]
    exact Nat.mul_le_mul_right _ hp
  obtain ⟨q, hq⟩ : ∃ q, (2 : Nat) ^ (8 * k) = q := ⟨_, rfl⟩
  have hor := Nat.two_pow_add_eq_or_of_lt hn y
  have hcast : ((y : Int) * 2 ^ (8 * k)) = ((y * 2 ^ (8 * k) : Nat) : Int) := by push_cast; rfl
  rw [hcast]
  rw [hq] at hn hp hp2 hor ⊢
  have hyq : y * q + q ≤ 2 ^ 64 := by
    have h1 : (y + 1) * q ≤ 256 * q := Nat.mul_le_mul_right _ (by omega)
    rw [Nat.add_mul, Nat.one_mul] at h1
    omega
  have h64 : (2 : Nat) ^ 64 = 18446744073709551616 := by decide
  rw [h64] at hyq
  have e1 : IntKind.u64.wrap ((y * q : Nat) : Int) = ((y * q : Nat) : Int) := u64_small _ (by omega) (by omega)
  rw [e1]
  show IntKind.u64.wrap ((BitVec.ofInt 64 (n : Int) ||| BitVec.ofInt 64 ((y * q : Nat) : Int)).toNat : Int) = _
  rw [BitVec.toNat_or, ofInt_u64 n (by omega), ofInt_u64 (y * q) (by omega), Nat.or_comm, Nat.mul_comm y q, ← hor, Nat.mul_comm q y, Nat.add_comm]
  exact u64_small _ (by omega) (by omega)
set_option maxHeartbeats 1000000 in
theorem load_any (w : World) (l : List Int) (A : Option Addr) (c : Nat) (hC : Kd.C (Kd.int .u8) w A l.length l) (hl : ∀ x ∈ l, 0 ≤ x ∧ x < 256) (h8 : l.length ≤ 8) : Calls Try.prog 64 #[.slice A l.length c] w fun e w' => e = .returned (.int .u64 (val l)) ∧ w = w' := by
  have KC := Aside0.mk hC
  have KL := Aside0.mk hl
  clear hC hl
  go_enter Try.func64, Try.ntmps64
  go_wp2
  go_loop [3, 7] (fun n i => ∃ k : Nat, k ≤ l.length ∧ i = .int .i64 k ∧ n = .int .u64 (val (l.take k))) (fun _ i => l.length - (intOf i).toNat)
  case atStart => exact ⟨0, by omega, rfl, rfl⟩
  case round =>
    obtain ⟨k, hk, rfl, rfl⟩ := hrel
    by_cases hlt : k < l.length
    · obtain ⟨ad, e, hx⟩ := Kd.at_int KC.out (k : Int) (by omega) (by omega)
      subst e
      obtain ⟨x, hxx⟩ : ∃ x, x = l[k] := ⟨_, rfl⟩
      have hxr : rd l (k : Int) = x := by
        rw [hxx, rd, Int.toNat_natCast, List.getD_eq_getElem?_getD, List.getElem?_eq_getElem hlt]
        rfl
      rw [hxr, Int.toNat_natCast] at hx
      have hxb := KL.out x (by rw [hxx]; exact List.getElem_mem hlt)
      obtain ⟨x0, x1⟩ := hxb
      obtain ⟨y, rfl⟩ := Int.eq_ofNat_of_zero_le x0
      have KT : Aside0 (val (l.take (k + 1)) = val (l.take k) + y * 2 ^ (8 * k)) := ⟨by rw [List.take_succ_eq_append_getElem hlt, ← hxx, val_snoc, List.length_take, Nat.min_eq_left (by omega)]; rfl⟩
      have KV : Aside0 (val (l.take k) < 2 ^ (8 * k)) := ⟨by have := val_lt (l.take k) (fun x hx => KL.out x (List.mem_of_mem_take hx)); rwa [List.length_take, Nat.min_eq_left (by omega)] at this⟩
      obtain ⟨n, hn⟩ : ∃ n, val (l.take k) = n := ⟨_, rfl⟩
      rw [hn] at KT KV
      clear hxr hxx
      rw [hn]
      go_wp2
      rw [or64 n y k KV.out (by omega) (by omega), ← KT.out]
      exact ⟨⟨k + 1, hlt, by go_num, rfl⟩, by simp [intOf]; omega⟩
    · obtain rfl : k = l.length := by omega
      go_wp2
      go_ret
      exact ⟨rfl, rfl⟩
/-- A part of bytes that are read. -/
theorem C_part {w : World} {A : Option Addr} {l : List Int} {c a n : Nat} (hC : Kd.C (Kd.int .u8) w A l.length l) (h : a + n ≤ l.length) (hc : l.length ≤ c) : Kd.C (Kd.int .u8) w (if c = a then A else Option.map (fun x => x.add a) A) ((l.drop a).take n).length ((l.drop a).take n) := by
  have h := Kd.C_mid (lo := a) (hi := a + n) (c := c) hC (by omega) (by omega) hc
  have e : (l.take (a + n)).drop a = (l.drop a).take n := by rw [List.drop_take, Nat.add_sub_cancel_left]
  have e2 : ((l.drop a).take n).length = n := by rw [List.length_take, List.length_drop]; omega
  rw [e] at h
  rw [e2]
  simpa [Kd.int, Kd.scalar, e2, -List.length_take, -List.length_drop] using h
/-- Are there so many bytes from a place on? -/
theorem within_any (w : World) (l : List Int) (A : Option Addr) (c : Nat) (a n : Nat) (hl : l.length ≤ 140737488355328) (ha : a ≤ 140737488355328) (hn : n ≤ 140737488355328000) : Calls Try.prog 63 #[.slice A l.length c, .int .i64 a, .int .i64 n] w fun e w' => e = .returned (.bool (decide (a + n ≤ l.length))) ∧ w = w' := by
  obtain ⟨m, hm⟩ : ∃ m, m = l.length := ⟨_, rfl⟩
  rw [← hm] at hl ⊢
  clear hm
  by_cases h1 : n ≤ m
  · by_cases h2 : a + n ≤ m
    · rw [decide_eq_true h2]
      have h3 : (a : Int) ≤ (m : Int) - (n : Int) := by omega
      go_enter Try.func63, Try.ntmps63
      go_wp2
      go_ret
      exact ⟨rfl, rfl⟩
    · rw [decide_eq_false h2]
      have h3 : decide ((a : Int) ≤ (m : Int) - (n : Int)) = false := decide_eq_false (by omega)
      go_enter Try.func63, Try.ntmps63
      go_wp2
      go_ret
      exact ⟨rfl, rfl⟩
  · rw [decide_eq_false (by omega)]
    have h3 : decide (n ≤ m) = false := decide_eq_false h1
    go_enter Try.func63, Try.ntmps63
    go_wp2
    go_ret
    exact ⟨rfl, rfl⟩
/-- A reader's place; is something wrong? -/
structure RS where
  at_ : Nat
  bad : Bool
def RS.e (s : RS) : Int := if s.bad = true then 6 else 0
def RS.next (s : RS) (l : List Int) (n : Nat) : RS := if s.bad = true then s else if s.at_ + n ≤ l.length then ⟨s.at_ + n, false⟩ else ⟨s.at_, true⟩
def RS.tk (s : RS) (l : List Int) (n : Nat) : List Int := if s.bad = false ∧ s.at_ + n ≤ l.length then (l.drop s.at_).take n else []
/-- A reader in memory. -/
structure FR (w0 : World) (base g : Nat) (w : World) (v : Value) (l : List Int) (s : RS) : Prop where
  blk : w.heap[g]? = some (.cells #[v, .int .i64 s.at_, .int .i64 s.e] 106 (0, 0))
  own : Row.OwnB w base v l
  below : Below base w0 w
  bg : base ≤ g
  at_ : s.at_ ≤ l.length
section
variable {w0 w w1 : World} {base g : Nat} {v v1 : Value} {l : List Int} {s : RS}
theorem FR.lt (h : FR w0 base g w v l s) : g < w.heap.size := blk_lt h.blk
theorem FR.size (h : FR w0 base g w v l s) : base ≤ w.heap.size := by have := h.lt; have := h.bg; omega
theorem FR.keep (h : FR w0 base g w v l s) (hb : Below w.heap.size w w1) : FR w0 base g w1 v l s := ⟨blk_below h.blk hb, h.own.below hb, below_then h.below h.size hb, h.bg, h.at_⟩
theorem FR.cells (h : FR w0 base g w v l s) : w.cell? ⟨g, 0, none⟩ = some v ∧ w.cell? ⟨g, 1, none⟩ = some (.int .i64 s.at_) ∧ w.cell? ⟨g, 2, none⟩ = some (.int .i64 s.e) :=
  ⟨(cell_of_row _ _ _ _ _ _ h.blk).trans rfl, (cell_of_row _ _ _ _ _ _ h.blk).trans rfl, (cell_of_row _ _ _ _ _ _ h.blk).trans rfl⟩
theorem FR.set (h : FR w0 base g w v l s) {s' : RS} (j : Nat) (u : Value) (hv : #[v, .int .i64 s'.at_, .int .i64 s'.e] = (#[v, .int .i64 s.at_, .int .i64 s.e] : Array Value).setIfInBounds j u) (ha : s'.at_ ≤ l.length) : FR w0 base g (w.setCell ⟨g, j, none⟩ u) v l s' :=
  ⟨by rw [hv]; exact blk_set h.blk j _, Kd.R_set h.own h.blk (fun q hq => by simp [Kd.int, Kd.scalar] at hq; omega) j _, h.below.setCell h.bg _, h.bg, ha⟩
set_option maxHeartbeats 1000000 in
theorem take_any (h : FR w0 base g w v l s) (n : Nat) (hl : l.length ≤ 140737488355328) (hn : n ≤ 140737488355328) : Calls Try.prog 65 #[.pointer (some ⟨g, 0, none⟩), .int .i64 n] w fun e w' => ∃ A c, e = .returned (.slice A (s.tk l n).length c) ∧ (s.tk l n).length ≤ c ∧ Kd.C (Kd.int .u8) w' A (s.tk l n).length (s.tk l n) ∧ FR w0 base g w' v l (s.next l n) ∧ KeepBut w w' g none := by
  obtain ⟨c0, c1, c2⟩ := h.cells
  obtain ⟨A, c, rfl, hle, hC⟩ := h.own.slice
  have f1 : w.frozen? ⟨g, 1, none⟩ = false := blk_frozen h.blk 1
  have f2 : w.frozen? ⟨g, 2, none⟩ = false := blk_frozen h.blk 2
  obtain ⟨a, bad⟩ := s
  have hat := h.at_
  simp only at c1 hat
  have KH := Aside0.mk h
  cases bad with
  | true =>
    have e1 : (⟨a, true⟩ : RS).tk l n = [] := by unfold RS.tk; rw [if_neg (by simp)]
    have e2 : (⟨a, true⟩ : RS).next l n = ⟨a, true⟩ := by unfold RS.next; rw [if_pos rfl]
    rw [e1, e2]
    simp only [RS.e, if_true] at c2
    clear h hC e1 e2
    go_enter Try.func65, Try.ntmps65
    go_wp2
    go_ret
    exact ⟨none, 0, rfl, Nat.le_refl _, Kd.C_nil _ _, KH.out, KeepBut.refl _ _ _⟩
  | false =>
    simp only [RS.e, Bool.false_eq_true, if_false] at c2
    have KW := Aside0.mk (fun w1 => within_any w1 l A c a n hl (by omega) (by omega))
    by_cases hw : a + n ≤ l.length
    · have e1 : (⟨a, false⟩ : RS).tk l n = (l.drop a).take n := by unfold RS.tk; rw [if_pos ⟨rfl, hw⟩]
      have e2 : (⟨a, false⟩ : RS).next l n = ⟨a + n, false⟩ := by unfold RS.next; rw [if_neg (by simp), if_pos hw]
      have e3 : ((l.drop a).take n).length = n := by rw [List.length_take, List.length_drop]; omega
      rw [e1, e2, e3]
      rw [decide_eq_true hw] at KW
      clear h hC e1 e2
      go_enter Try.func65, Try.ntmps65
      go_wp2
      go_quiet ((go_at_call 63; exact Calls.quiet_of_same ((KW.out _).mono fun _ _ hq => ⟨hq.1, hq.2.symm⟩)))
      go_wp2
      generalize hW : World.setCell _ _ _ = W
      have KF : Aside0 (FR w0 base g W (.slice A l.length c) l ⟨a + n, false⟩) := ⟨by rw [← hW]; exact (KH.out.keep (pw_below_drewN (Below.refl _ _) _)).set 1 _ (by simp [RS.e]) hw⟩
      obtain ⟨c0, c1, c2⟩ := KF.out.cells
      simp only at c1
      have e4 : IntKind.i64.wrap (((a + n : Nat) : Int) - (n : Int)) = (a : Int) := by
        rw [show ((a + n : Nat) : Int) - (n : Int) = (a : Int) by omega]
        exact IntWalk.i64_in _ (by omega)
      have e5 : wrap64 (((a + n : Nat) : Int) - (n : Int)) = (a : Int) := by unfold wrap64; omega
      obtain ⟨b, hb⟩ : ∃ b, b = a + n := ⟨_, rfl⟩
      rw [← hb] at c1 e4 e5 KF
      have Kb := Aside0.mk hb
      have hbc : b ≤ c := by omega
      have hab : (a : Int) ≤ (b : Int) := by omega
      have KW : Aside0 (KeepBut w W g none) := ⟨by rw [← hW]; exact (KeepBut.of_below (pw_below_drewN (Below.refl _ _) _) _ _).set_ _ _⟩
      clear hW hb
      go_quiet (fail)
      have hba : b - a = n := by have := Kb.out; omega
      have hca : n ≤ c - a := by have := Kb.out; omega
      rw [hba]
      obtain ⟨A8, hA8⟩ : ∃ A8, A8 = (if c = a then A else Option.map (fun x => x.add a) A) := ⟨_, rfl⟩
      rw [← hA8]
      have KA := Aside0.mk hA8
      clear hA8 hba
      go_wp2
      go_ret
      refine ⟨_, _, rfl, hca, ?_, ?_, ?_⟩
      · have h := C_part (a := a) (n := n) (Row.OwnB.reads KF.out.own).2.2 hw hle
        rw [e3, ← KA.out] at h
        exact Kd.C_below h (pw_below_drewN (Below.refl _ _) _)
      · rw [← Kb.out]
        exact KF.out.keep (pw_below_drewN (Below.refl _ _) _)
      · exact KW.out.trans (KeepBut.of_below (pw_below_drewN (Below.refl _ _) _) _ _) (Or.inl rfl)
    · have e1 : (⟨a, false⟩ : RS).tk l n = [] := by unfold RS.tk; rw [if_neg (fun h => hw h.2)]
      have e2 : (⟨a, false⟩ : RS).next l n = ⟨a, true⟩ := by unfold RS.next; rw [if_neg (by simp), if_neg hw]
      rw [e1, e2]
      rw [decide_eq_false hw] at KW
      clear h hC e1 e2
      go_enter Try.func65, Try.ntmps65
      go_wp2
      go_quiet ((go_at_call 63; exact Calls.quiet_of_same ((KW.out _).mono fun _ _ hq => ⟨hq.1, hq.2.symm⟩)))
      go_wp2
      go_ret
      refine ⟨none, 0, rfl, Nat.le_refl _, Kd.C_nil _ _, ?_, ?_⟩
      · exact (KH.out.keep (pw_below_drewN (Below.refl _ _) _)).set 2 _ (by simp [RS.e]) hat
      · exact (KeepBut.of_below (pw_below_drewN (Below.refl _ _) _) _ _).set_ _ _
theorem tk_le (s : RS) (l : List Int) (n : Nat) : (s.tk l n).length ≤ n := by
  unfold RS.tk
  split
  · rw [List.length_take]; exact Nat.min_le_left _ _
  · exact Nat.zero_le _
theorem tk_sub (s : RS) (l : List Int) (n : Nat) : ∀ x ∈ s.tk l n, x ∈ l := by
  unfold RS.tk
  split
  · exact fun x hx => List.mem_of_mem_drop (List.mem_of_mem_take hx)
  · intro x hx; cases hx
/-- A number. -/
theorem rnum_any (h : FR w0 base g w v l s) (hl : ∀ x ∈ l, 0 ≤ x ∧ x < 256) (hm : l.length ≤ 140737488355328) (k : Nat) (hk : wid k) : Calls Try.prog 46 #[.pointer (some ⟨g, 0, none⟩), .int .i64 k] w fun e w' => e = .returned (.int .u64 (val (s.tk l k))) ∧ FR w0 base g w' v l (s.next l k) ∧ KeepBut w w' g none := by
  have hk8 : k ≤ 8 := by rcases hk with h | h | h | h <;> omega
  have h8 : (s.tk l k).length ≤ 8 := Nat.le_trans (tk_le s l k) hk8
  have K1 := Aside0.mk (wide_yes k hk)
  have K2 := Aside0.mk (take_any h k hm (by omega))
  have K3 : Aside0 (∀ (w1 : World) (A : Option Addr) (c : Nat), Kd.C (Kd.int .u8) w1 A (s.tk l k).length (s.tk l k) → _) := ⟨fun w1 A c hC => load_any w1 (s.tk l k) A c hC (fun x hx => hl x (tk_sub s l k x hx)) h8⟩
  clear h hl hk h8
  go_enter Try.func46, Try.ntmps46
  go_wp2_with (first | (go_at_call 58; refine (K1.out _).mono ?_; rintro e w' ⟨rfl, rfl⟩) | (go_at_call 65; refine K2.out.mono ?_; rintro e w1 ⟨A, c, rfl, hc, hC, h1, hk1⟩; have KC := Aside0.mk hC; have KH := Aside0.mk h1; have KK := Aside0.mk hk1; clear hC h1 hk1) | (go_at_call 64; refine (K3.out _ _ _ KC.out).mono ?_; rintro e w' ⟨rfl, rfl⟩))
  go_ret
  exact ⟨rfl, KH.out, KK.out⟩
/-- Bytes. -/
theorem rbytes_any (h : FR w0 base g w v l s) (hm : l.length ≤ 140737488355328) (k : Nat) (hk : k ≤ 140737488355328) : Calls Try.prog 66 #[.pointer (some ⟨g, 0, none⟩), .int .i64 k] w fun e w' => ∃ A c, e = .returned (.slice A (s.tk l k).length c) ∧ (s.tk l k).length ≤ c ∧ Row.OwnB w' w.heap.size (.slice A (s.tk l k).length c) (s.tk l k) ∧ FR w0 base g w' v l (s.next l k) ∧ KeepBut w w' g none := by
  have hlt := h.lt
  have K2 := Aside0.mk (take_any h k hm hk)
  have K3 : Aside0 (∀ (w1 : World) (A : Option Addr) (c : Nat), Kd.C (Kd.int .u8) w1 A (s.tk l k).length (s.tk l k) → _) := ⟨fun w1 A c hC => copied_any w1 (s.tk l k) A c (fun w' hb => Kd.C_below hC hb) (Nat.le_trans (tk_le s l k) hk)⟩
  clear h
  go_enter Try.func66, Try.ntmps66
  go_wp2_with (first | (go_at_call 65; refine K2.out.mono ?_; rintro e w1 ⟨A, c, rfl, hc, hC, h1, hk1⟩; have KC := Aside0.mk hC; have KH := Aside0.mk h1; have KK := Aside0.mk hk1; clear hC h1 hk1) | (go_at_call 61; refine (K3.out _ _ _ KC.out).mono ?_; rintro e w2 ⟨u, rfl, ho, hb⟩; obtain ⟨A2, c2, rfl, hc2, -⟩ := ho.slice; have KO := Aside0.mk ho; have KB := Aside0.mk hb; clear ho hb))
  go_ret
  exact ⟨_, _, rfl, hc2, KO.out.lower KK.out.1, KH.out.keep KB.out, KK.out.trans (KeepBut.of_below KB.out _ _) (Or.inl rfl)⟩
theorem err_any (h : FR w0 base g w v l s) : Calls Try.prog 49 #[.pointer (some ⟨g, 0, none⟩)] w fun e w' => e = .returned (.tuple #[.int .i64 s.at_, .int .i64 s.e]) ∧ ∃ k, w' = w.drewN k := by
  obtain ⟨c0, c1, c2⟩ := h.cells
  clear h c0
  go_enter Try.func49, Try.ntmps49
  go_wp2
  go_quiet (fail)
  go_wp2
  go_ret2
  exact ⟨rfl, _, rfl⟩
end
theorem reader_new (w : World) (l : List Int) (A : Option Addr) (c : Nat) (hC : ∀ w', Below w.heap.size w w' → Kd.C (Kd.int .u8) w' A l.length l) (hl : l.length ≤ 140737488355328) : Calls Try.prog 45 #[.slice A l.length c] w fun e w' => ∃ g v, e = .returned (.pointer (some ⟨g, 0, none⟩)) ∧ FR w w.heap.size g w' v l ⟨0, false⟩ := by
  have K3 := Aside0.mk (copied_any w l A c hC hl)
  clear hC
  go_enter Try.func45, Try.ntmps45
  go_wp2_with (go_at_call 61; refine K3.out.mono ?_; rintro e w2 ⟨u, rfl, ho, hb⟩; obtain ⟨A2, c2, rfl, hc2, -⟩ := ho.slice; have KO := Aside0.mk ho; have KB := Aside0.mk hb; clear ho hb)
  go_ret
  have hs := KB.out.size
  exact ⟨w2.heap.size, _, rfl, heap_alloc_new _ _, KO.out.below (below_alloc (Below.refl _ _) _), below_then KB.out hs (below_alloc (Below.refl _ _) _), hs, Nat.zero_le _⟩
end Go.Proofs.Ytogplkochcalpaa.Fd
