/- What was left out of the sums' and the readers' texts. -/
import Derived.Test.YtpdggoapjbjmhaaZA
/- Texts put together: Crc, Bits, SumN, Burst, Fs, Eq, Clone, Bgs. -/
/- The sum CRC-32 in plain numbers: its byte step by a table, what bytes one behind the other give, and that bursts of 32 bits change it. -/
namespace Go.Proofs.Ytpdggoapjbjmhaa.Crc
theorem iter_zero (n : Nat) : iter n 0 = 0 := by
  have := iter_pow n 0
  simpa using this
theorem run_lt (c : Nat) (l : List Nat) (hc : c < 4294967296) (hl : ∀ x ∈ l, x < 256) : run c l < 4294967296 := by
  induction l generalizing c with
  | nil => exact hc
  | cons x l ih =>
    refine ih _ (iter_lt _ _ ?_) (fun y hy => hl y (by simp [hy]))
    have := hl x (by simp)
    exact Nat.xor_lt_two_pow (n := 32) (by omega) (by omega)
end Go.Proofs.Ytpdggoapjbjmhaa.Crc
/- Whole numbers in the walk's own spelling: what the sums' operations on bits come to in plain numbers. -/
set_option linter.unusedVariables false
set_option linter.unusedSimpArgs false
namespace Go.Proofs.Ytpdggoapjbjmhaa.Bits
/-- A byte's step of the digest. -/
def fnv (d x : Nat) : Nat := (d ^^^ x) * 1099511628211 % 18446744073709551616
def digest : Nat → List Nat → Nat
  | d, [] => d
  | d, x :: l => digest (fnv d x) l
theorem digest_nil (d : Nat) : digest d [] = d := rfl
theorem digest_append (d : Nat) (a b : List Nat) : digest d (a ++ b) = digest (digest d a) b := by
  induction a generalizing d with
  | nil => rfl
  | cons x a ih => exact ih _
theorem fnv_lt (d x : Nat) : fnv d x < 18446744073709551616 := Nat.mod_lt _ (by decide)
theorem digest_lt (d : Nat) (l : List Nat) (h : d < 18446744073709551616) : digest d l < 18446744073709551616 := by
  induction l generalizing d with
  | nil => exact h
  | cons x l ih => exact ih _ (fnv_lt _ _)
theorem fnv_step (s x : Nat) (hs : s < 18446744073709551616) (hx : x < 256) : IntKind.u64.wrap (bits .xor .u64 (s : Int) (x : Int) * 1099511628211) = ((fnv s x : Nat) : Int) := by
  rw [u64_xor_nat _ _ hs (by omega), IntKind.wrap_u64]
  unfold fnv
  generalize s ^^^ x = z
  omega
end Go.Proofs.Ytpdggoapjbjmhaa.Bits
/- What the sums' functions of the program do: walks. -/
namespace Go.Proofs.Ytpdggoapjbjmhaa.Sum
open Go.RowKit Go.Proofs.YtpdggoapjbjmhaaW.PrintWords Go.Proofs.YtpdggoapjbjmhaaW.PrintLast Go.Proofs.YtpdggoapjbjmhaaW.PrintMore
set_option linter.unusedVariables false
set_option linter.unusedSimpArgs false
def dig (d : Nat) (l : List Int) : Nat := Bits.digest d (l.map Int.toNat)
end Go.Proofs.Ytpdggoapjbjmhaa.Sum
/- Bytes in which bits of a burst are turned, one by one: plain numbers. -/
set_option linter.unusedVariables false
namespace Go.Proofs.Ytpdggoapjbjmhaa.Burst
theorem low_same (b k : Nat) (h : b / 2 ^ k % 2 = 0) : b % 2 ^ (k + 1) = b % 2 ^ k := by
  have h1 := Crc.split k (b % 2 ^ (k + 1))
  have h2 : b % 2 ^ (k + 1) / 2 ^ k = b / 2 ^ k % 2 := by
    rw [Nat.pow_succ, Nat.mod_mul_right_div_self]
  have h3 : b % 2 ^ (k + 1) % 2 ^ k = b % 2 ^ k := by
    rw [Nat.pow_succ, Nat.mod_mul_right_mod]
  rw [h2, h3, h, Nat.mul_zero, Nat.zero_xor] at h1
  exact h1
end Go.Proofs.Ytpdggoapjbjmhaa.Burst
/- Numbers in bytes: what stands without a reader or a writer: walks. -/
set_option linter.unusedVariables false
set_option linter.unusedSimpArgs false
namespace Go.Proofs.Ytpdggoapjbjmhaa.Fd
open Go.RowKit Go.Proofs.YtpdggoapjbjmhaaW.PrintWords Go.Proofs.YtpdggoapjbjmhaaW.PrintLast Go.Proofs.YtpdggoapjbjmhaaW.PrintMore
set_option maxHeartbeats 1000000 in
theorem load_any (w : World) (l : List Int) (A : Option Addr) (c : Nat) (hC : Kd.C (Kd.int .u8) w A l.length l) (hl : ∀ x ∈ l, 0 ≤ x ∧ x < 256) (h8 : l.length ≤ 8) : Calls Try.prog 61 #[.slice A l.length c] w fun e w' => e = .returned (.int .u64 (val l)) ∧ w = w' := by
  have KC := Aside0.mk hC
  have KL := Aside0.mk hl
  clear hC hl
  go_enter Try.func61, Try.ntmps61
  go_wp2
  go_loop [3, 7] (fun n i => ∃ k : Nat, k ≤ l.length ∧ i = .int .i64 k ∧ n = .int .u64 (val (l.take k))) (fun _ i => l.length - (intOf i).toNat)
  case atStart => exact ⟨0, by omega, rfl, rfl⟩
  case round =>
    obtain ⟨k, hk, rfl, rfl⟩ := hrel
    by_cases hlt : k < l.length
    · obtain ⟨ad, e, hx⟩ := Kd.at_int KC.out (k : Int) (by omega) (by omega)
      subst e
      obtain ⟨x, hxx⟩ : ∃ x, x = l[k] := ⟨_, rfl⟩
      have hxr : rd l (k : Int) = x := by
        rw [hxx, rd, Int.toNat_natCast, List.getD_eq_getElem?_getD, List.getElem?_eq_getElem hlt]
        rfl
      rw [hxr, Int.toNat_natCast] at hx
      have hxb := KL.out x (by rw [hxx]; exact List.getElem_mem hlt)
      obtain ⟨x0, x1⟩ := hxb
      obtain ⟨y, rfl⟩ := Int.eq_ofNat_of_zero_le x0
      have KT : Aside0 (val (l.take (k + 1)) = val (l.take k) + y * 2 ^ (8 * k)) := ⟨by rw [List.take_succ_eq_append_getElem hlt, ← hxx, val_snoc, List.length_take, Nat.min_eq_left (by omega)]; rfl⟩
      have KV : Aside0 (val (l.take k) < 2 ^ (8 * k)) := ⟨by have := val_lt (l.take k) (fun x hx => KL.out x (List.mem_of_mem_take hx)); rwa [List.length_take, Nat.min_eq_left (by omega)] at this⟩
      obtain ⟨n, hn⟩ : ∃ n, val (l.take k) = n := ⟨_, rfl⟩
      rw [hn] at KT KV
      clear hxr hxx
      rw [hn]
      go_wp2
      rw [or64 n y k KV.out (by omega) (by omega), ← KT.out]
      exact ⟨⟨k + 1, hlt, by go_num, rfl⟩, by simp [intOf]; omega⟩
    · obtain rfl : k = l.length := by omega
      go_wp2
      go_ret
      exact ⟨rfl, rfl⟩
theorem C_part {w : World} {A : Option Addr} {l : List Int} {c a n : Nat} (hC : Kd.C (Kd.int .u8) w A l.length l) (h : a + n ≤ l.length) (hc : l.length ≤ c) : Kd.C (Kd.int .u8) w (if c = a then A else Option.map (fun x => x.add a) A) ((l.drop a).take n).length ((l.drop a).take n) := by
  have h := Kd.C_mid (lo := a) (hi := a + n) (c := c) hC (by omega) (by omega) hc
  have e : (l.take (a + n)).drop a = (l.drop a).take n := by rw [List.drop_take, Nat.add_sub_cancel_left]
  have e2 : ((l.drop a).take n).length = n := by rw [List.length_take, List.length_drop]; omega
  rw [e] at h
  rw [e2]
  simpa [Kd.int, Kd.scalar, e2, -List.length_take, -List.length_drop] using h
theorem within_any (w : World) (l : List Int) (A : Option Addr) (c : Nat) (a n : Nat) (hl : l.length ≤ 140737488355328) (ha : a ≤ 140737488355328) (hn : n ≤ 140737488355328000) : Calls Try.prog 60 #[.slice A l.length c, .int .i64 a, .int .i64 n] w fun e w' => e = .returned (.bool (decide (a + n ≤ l.length))) ∧ w = w' := by
  obtain ⟨m, hm⟩ : ∃ m, m = l.length := ⟨_, rfl⟩
  rw [← hm] at hl ⊢
  clear hm
  by_cases h1 : n ≤ m
  · by_cases h2 : a + n ≤ m
    · rw [decide_eq_true h2]
      have h3 : (a : Int) ≤ (m : Int) - (n : Int) := by omega
      go_enter Try.func60, Try.ntmps60
      go_wp2
      go_ret
      exact ⟨rfl, rfl⟩
    · rw [decide_eq_false h2]
      have h3 : decide ((a : Int) ≤ (m : Int) - (n : Int)) = false := decide_eq_false (by omega)
      go_enter Try.func60, Try.ntmps60
      go_wp2
      go_ret
      exact ⟨rfl, rfl⟩
  · rw [decide_eq_false (by omega)]
    have h3 : decide (n ≤ m) = false := decide_eq_false h1
    go_enter Try.func60, Try.ntmps60
    go_wp2
    go_ret
    exact ⟨rfl, rfl⟩
theorem div_pow (n j : Nat) : n / 2 ^ (8 * j) / 256 = n / 2 ^ (8 * (j + 1)) := by
  rw [Nat.div_div_eq_div_mul, show 8 * (j + 1) = 8 * j + 8 by omega, Nat.pow_add]
end Go.Proofs.Ytpdggoapjbjmhaa.Fd
/- Bytes held against bytes: as strings, by bytes.Equal: walks. -/
set_option linter.unusedVariables false
set_option linter.unusedSimpArgs false
namespace Go.Proofs.Ytpdggoapjbjmhaa.Eq_
open Go.RowKit Go.Proofs.YtpdggoapjbjmhaaW.PrintWords Go.Proofs.YtpdggoapjbjmhaaW.PrintLast Go.Proofs.YtpdggoapjbjmhaaW.PrintMore
theorem str_eq (l m : List Int) (hl : ∀ x ∈ l, 0 ≤ x ∧ x < 256) (hm : ∀ x ∈ m, 0 ≤ x ∧ x < 256) : ((strOfNums l).toList == (strOfNums m).toList) = decide (l = m) := by
  rw [Go.Lib.strOfNums_toList, Go.Lib.strOfNums_toList]
  unfold Go.Lib.bytesOf
  rw [Bool.eq_iff_iff]
  simp only [beq_iff_eq, decide_eq_true_eq]
  constructor
  · intro h
    induction l generalizing m with
    | nil => cases m with
      | nil => rfl
      | cons b m => simp at h
    | cons a l ih => cases m with
      | nil => simp at h
      | cons b m =>
        simp only [List.map_cons, List.cons.injEq] at h
        have ha := hl a (by simp)
        have hb := hm b (by simp)
        have h1 := congrArg UInt8.toNat h.1
        simp only [UInt8.toNat_ofNat'] at h1
        have : a = b := by omega
        rw [this, ih m (fun x hx => hl x (by simp [hx])) (fun x hx => hm x (by simp [hx])) h.2]
  · intro h
    rw [h]
end Go.Proofs.Ytpdggoapjbjmhaa.Eq_
/- Bytes in new memory, by bytes.Clone: a walk. -/
set_option linter.unusedVariables false
set_option linter.unusedSimpArgs false
namespace Go.Proofs.Ytpdggoapjbjmhaa.Eq_
open Go.RowKit Go.Proofs.YtpdggoapjbjmhaaW.PrintWords Go.Proofs.YtpdggoapjbjmhaaW.PrintLast Go.Proofs.YtpdggoapjbjmhaaW.PrintMore
end Go.Proofs.Ytpdggoapjbjmhaa.Eq_
/- Bytes with their own sum behind them; bits of a burst turned: what stands without a reader or a writer. -/
set_option linter.unusedVariables false
set_option linter.unusedSimpArgs false
namespace Go.Proofs.Ytpdggoapjbjmhaa.Bg
open Go.RowKit Go.Proofs.Ytpdggoapjbjmhaa.Fd Go.Proofs.YtpdggoapjbjmhaaW.PrintWords Go.Proofs.YtpdggoapjbjmhaaW.PrintLast Go.Proofs.YtpdggoapjbjmhaaW.PrintMore
theorem lt16 {n : Int} (h : n < 65536) : n < 2 ^ (8 * 2) := h
theorem lt32 {n : Int} (h : n < 4294967296) : n < 2 ^ (8 * 4) := h
theorem xor_not (r : Nat) (h : r < 4294967296) : r ^^^ (4294967295 - r) = 4294967295 := by
  apply Nat.eq_of_testBit_eq
  intro i
  rw [Nat.testBit_xor, show 4294967295 - r = 2 ^ 32 - (r + 1) by omega, Nat.testBit_two_pow_sub_succ (by omega), show (4294967295 : Nat) = 2 ^ 32 - (0 + 1) by omega, Nat.testBit_two_pow_sub_succ (by omega)]
  by_cases hi : i < 32
  · simp [hi]
  · have : r.testBit i = false := Nat.testBit_lt_two_pow ((by have h2 : 2 ^ 32 ≤ 2 ^ i := Nat.pow_le_pow_right (n := 2) (by decide) (by omega); omega))
    simp [hi, this]
theorem val_num : ∀ l : List Int, val l = Crc.num (l.map Int.toNat)
  | [] => rfl
  | x :: l => by rw [val, List.map_cons, Crc.num, val_num l]
theorem nat_of {l : List Int} (h : ∀ x ∈ l, 0 ≤ x ∧ x < 256) : ∀ x ∈ l.map Int.toNat, x < 256 := fun x hx => by
  obtain ⟨y, hy, rfl⟩ := List.mem_map.1 hx
  have := h y hy
  omega
theorem resid (m t : List Int) (hm : ∀ x ∈ m, 0 ≤ x ∧ x < 256) (ht : ∀ x ∈ t, 0 ≤ x ∧ x < 256) (h4 : t.length = 4) (h : Sum.crc 0 m = val t) : Crc.run (4294967295 - 0) ((m ++ t).map Int.toNat) = Crc.iter 32 4294967295 := by
  rw [List.map_append, Crc.run_append, Crc.run_num _ _ (nat_of ht), List.length_map, h4, ← val_num, ← h]
  have hlt := Crc.run_lt (4294967295 - 0) (m.map Int.toNat) (by omega) (nat_of hm)
  unfold Sum.crc
  rw [xor_not _ hlt]
theorem resid_take {l : List Int} (n : Nat) (hl : ∀ x ∈ l, 0 ≤ x ∧ x < 256) (hn : l.length = n + 4) (h : Sum.crc 0 (l.take n) = rdN l n 4) : Crc.run (4294967295 - 0) (l.map Int.toNat) = Crc.iter 32 4294967295 := by
  have e : l.take n ++ (l.drop n).take 4 = l := by
    rw [List.take_of_length_le (l := l.drop n) (by rw [List.length_drop]; omega), List.take_append_drop]
  have h2 := resid (l.take n) ((l.drop n).take 4) (fun x hx => hl x (List.mem_of_mem_take hx)) (fun x hx => hl x (List.mem_of_mem_drop (List.mem_of_mem_take hx))) (by rw [List.length_take, List.length_drop]; omega) h
  rwa [e] at h2
theorem burst_no (l0 zs : List Int) (n p b : Nat) (h0 : ∀ x ∈ l0, 0 ≤ x ∧ x < 256) (hz : ∀ x ∈ zs, 0 ≤ x ∧ x < 256) (hl0 : l0.length = n + 4) (hlen : zs.length = n + 4) (hr : Sum.crc 0 (l0.take n) = rdN l0 n 4) (hp : p < 8 * (n + 4)) (hb0 : b ≠ 0) (hb : b < 4294967296) (h : Crc.num (l0.map Int.toNat) ^^^ Crc.num (zs.map Int.toNat) = 2 ^ p * (b % 2 ^ 32)) : Sum.crc 0 (zs.take n) ≠ rdN zs n 4 := by
  intro he
  have h1 := resid_take n hz hlen he
  have h2 := Burst.sums (4294967295 - 0) (l0.map Int.toNat) (zs.map Int.toNat) p b (nat_of h0) (nat_of hz) (by simp [hlen, hl0]) (by rw [List.length_map, hl0]; omega) hb0 hb h
  exact h2 (by rw [h1, resid_take n h0 hl0 hr])
structure Held (wr : World) (base : Nat) (v : Value) (l0 : List Int) (at_ b k : Nat) (w : World) : Prop where
  mk :: (out : ∃ zs : List Int, Row.OwnB wr base v zs ∧ zs.length = l0.length ∧ (∀ x ∈ zs, 0 ≤ x ∧ x < 256) ∧ Crc.num (l0.map Int.toNat) ^^^ Crc.num (zs.map Int.toNat) = 2 ^ at_ * (b % 2 ^ k) ∧ Below w.heap.size w wr)
theorem shift_bit (b k : Nat) (h : b < 4294967296) : bits .and .u32 ((b : Int) / 2 ^ k) 1 = ((b / 2 ^ k % 2 : Nat) : Int) := by
  have e : ((b : Int) / 2 ^ k) = ((b / 2 ^ k : Nat) : Int) := by
    rw [Int.natCast_ediv]; congr 1
  have h2 := u32_and_nat (b / 2 ^ k) 1 (Nat.lt_of_le_of_lt (Nat.div_le_self _ _) h) (by decide)
  rw [Nat.and_one_is_mod] at h2
  rw [e]
  exact h2
theorem shl_bit (r : Nat) (h : r < 8) : IntKind.u8.wrap (2 ^ min r 8) = ((2 ^ r : Nat) : Int) := by
  have h2 : 2 ^ r < 256 := by
    have : 2 ^ r < 2 ^ 8 := Nat.pow_lt_pow_right (by omega) h
    omega
  rw [Nat.min_eq_left (by omega), IntKind.wrap_u8, show ((2 : Int) ^ r) = ((2 ^ r : Nat) : Int) from (Int.natCast_pow 2 r).symm]
  generalize 2 ^ r = x at h2 ⊢
  omega
theorem next_same {wr w : World} {base : Nat} {v : Value} {l0 : List Int} {p b k : Nat} (h : Held wr base v l0 p b k w) (hb : b / 2 ^ k % 2 = 0) : Held wr base v l0 p b (k + 1) w := by
  obtain ⟨zs, h1, h2, h3, h4, h5⟩ := h
  exact ⟨⟨zs, h1, h2, h3, by rw [h4, Burst.low_same b k hb], h5⟩⟩
theorem next_turned {wr w : World} {base g n c : Nat} {l0 : List Int} {p b k q r : Nat} (h : Held wr base (.slice (some ⟨g, 0, none⟩) n c) l0 p b k w) (hg : w.heap.size ≤ g) (hb : b / 2 ^ k % 2 = 1) (hq : q < n) (hr : r < 8) (hqr : 8 * q + r = p + k) :
    ∃ z : Nat, z < 256 ∧ wr.cell? ⟨g, q, none⟩ = some (.int .u8 z) ∧ wr.frozen? ⟨g, q, none⟩ = false ∧ Held ((wr.drew).setCell ⟨g, q, none⟩ (.int .u8 ((z ^^^ 2 ^ r : Nat) : Int))) base (.slice (some ⟨g, 0, none⟩) n c) l0 p b (k + 1) w := by
  obtain ⟨zs, h1, h2, h3, h4, h5⟩ := h
  have hn := (Row.OwnB.reads h1).1
  have h1d : Row.OwnB wr.drew base (.slice (some ⟨g, 0, none⟩) n c) zs := Row.OwnB.below h1 (below_drew (Below.refl _ _))
  have hz := h3 zs[q] (List.getElem_mem _)
  have hzz : zs.getD q 0 = zs[q] := by rw [List.getD_eq_getElem?_getD, List.getElem?_eq_getElem (by omega)]; rfl
  have hr2 : 2 ^ r < 256 := by
    have : 2 ^ r < 2 ^ 8 := Nat.pow_lt_pow_right (by omega) hr
    omega
  have hx : zs[q].toNat ^^^ 2 ^ r < 256 := Nat.xor_lt_two_pow (n := 8) (by omega) hr2
  have hc := Kd.R_celln (0 : Int) h1 (q : Int) (by omega) (by omega)
  have hput := Kd.R_putn h1d (q : Int) (((zs[q].toNat ^^^ 2 ^ r : Nat) : Int))
  rw [Int.toNat_natCast] at hc hput
  have hcell : rdOf 0 zs (q : Int) = ((zs[q].toNat : Nat) : Int) := by
    unfold rdOf
    rw [Int.toNat_natCast, hzz]; omega
  refine ⟨zs[q].toNat, by omega, ?_, hc.2, ⟨⟨zs.set q (((zs[q].toNat ^^^ 2 ^ r : Nat) : Int)), hput, by simp [h2], ?_, ?_, (below_drew h5).setCell hg _⟩⟩⟩
  · rw [hc.1, hcell]
  · intro x hx'
    rcases List.mem_or_eq_of_mem_set hx' with hx' | rfl
    · exact h3 x hx'
    · exact ⟨by omega, by omega⟩
  · have ht := Burst.turned (l0.map Int.toNat) (zs.map Int.toNat) p b k q r (nat_of h3) (by simp; omega) hr hqr hb h4
    have he : (zs.map Int.toNat).getD q 0 = zs[q].toNat := by
      rw [List.getD_eq_getElem?_getD, List.getElem?_map, List.getElem?_eq_getElem (by omega)]; rfl
    rw [he] at ht
    rw [List.map_set, Int.toNat_natCast]
    exact ht
theorem spots (t : Nat) (ht : t ≤ 70000) : ∃ q r : Nat, (t : Int).tdiv 8 = q ∧ wrap64 (q : Int) = q ∧ (t : Int).tmod 8 = r ∧ r < 8 ∧ 8 * q + r = t := by
  refine ⟨t / 8, t % 8, ?_, ?_, ?_, by omega, by omega⟩
  · rw [Int.tdiv_eq_ediv_of_nonneg (by omega)]; omega
  · unfold wrap64; omega
  · rw [Int.tmod_eq_emod_of_nonneg (by omega)]; omega
theorem exec_convert {o : Oper} {a : Act} {w : World} (s d : TypeId) (x : Operand) (ho : o.op = .convert s d x) (v u : Value) (hx : a.eval x = v) (hrun : (convert s d v).run Try.prog w = .ok u w) : (execOp a.eval o).run Try.prog w = .ok (.value u) w := by
  unfold execOp
  simp [ho, hx, hrun, Result.andThen]
end Go.Proofs.Ytpdggoapjbjmhaa.Bg
