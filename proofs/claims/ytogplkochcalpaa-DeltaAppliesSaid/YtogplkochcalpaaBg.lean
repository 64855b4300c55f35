/- Bytes with their own sum behind them; numbers read; bits of a burst turned: the ground of several chapters. -/
import Derived.Test.YtogplkochcalpaaFd3
import Derived.Test.YtogplkochcalpaaSumN
import Derived.Test.YtogplkochcalpaaEqb
import Derived.Test.YtogplkochcalpaaBurst
import Derived.Lib.SlBytesConst
import Derived.Deep.QuietTactic
import Derived.BigQuiet
set_option linter.unusedVariables false
set_option linter.unusedSimpArgs false
namespace Go.Proofs.Ytogplkochcalpaa.Bg
open Go.RowKit Go.Proofs.Ytogplkochcalpaa.Fd Go.Proofs.YtogplkochcalpaaW.PrintWords Go.Proofs.YtogplkochcalpaaW.PrintLast Go.Proofs.YtogplkochcalpaaW.PrintMore
theorem isB_app {a b : List Int} (ha : ∀ x ∈ a, 0 ≤ x ∧ x < 256) (hb : ∀ x ∈ b, 0 ≤ x ∧ x < 256) : ∀ x ∈ a ++ b, 0 ≤ x ∧ x < 256 := fun x hx => (List.mem_append.1 hx).elim (ha x) (hb x)
theorem crc_lt (l : List Int) : Sum.crc 0 l < 4294967296 := by unfold Sum.crc; omega
theorem lt16 {n : Int} (h : n < 65536) : n < 2 ^ (8 * 2) := h
theorem lt32n {n : Nat} (h : n < 4294967296) : n < 2 ^ (8 * 4) := by simpa using h
theorem lt32 {n : Int} (h : n < 4294967296) : n < 2 ^ (8 * 4) := h
theorem lit_cells (w : World) (g : Nat) (c : Array Value) (fr : Nat × Nat) (hg : w.heap[g]? = some (.cells c 5 fr)) (l : List Int) (hc : c.toList = nums .u8 l) (hl : l.length ≤ 9223372036854775807) : Kd.C (Kd.int .u8) w (some ⟨g, 0, none⟩) l.length l := by
  refine Kd.C_of_reads (d := (0 : Int)) ⟨rfl, hl, fun _ => ⟨_, rfl, fun j hj => ?_⟩⟩
  rw [add_plain, cell_of_row _ _ _ _ _ _ hg, ← Array.getElem?_toList, hc]
  simp [nums, List.getElem?_eq_getElem hj]
theorem lit_foot {w0 w2 : World} {base g : Nat} {most : Int} {v : Value} {xs : List Int} (h : FW w0 base g most w2 v xs) {a b c d : Int} {fr : Nat × Nat} : ∀ w', KeepBut (w2.alloc (.cells #[.int .u8 a, .int .u8 b, .int .u8 c, .int .u8 d] 5 fr)) w' g none → Kd.C (Kd.int .u8) w' (some ⟨w2.heap.size, 0, none⟩) ([a, b, c, d] : List Int).length [a, b, c, d] := fun w' hk => by
  have hlt := h.lt
  have h1 : w'.heap[w2.heap.size]? = some (.cells #[.int .u8 a, .int .u8 b, .int .u8 c, .int .u8 d] 5 fr) := by
    exact (hk.2 w2.heap.size (by simp) (by omega) (by simp)).trans (heap_alloc_new _ _)
  exact lit_cells w' _ _ fr h1 [a, b, c, d] rfl (by simp)
def rdN (l : List Int) (p n : Nat) : Nat := val ((l.drop p).take n)
theorem rdN_lt {l : List Int} (h : ∀ x ∈ l, 0 ≤ x ∧ x < 256) (p n : Nat) (hp : p + n ≤ l.length) : rdN l p n < 2 ^ (8 * n) := by
  have h2 := val_lt ((l.drop p).take n) (fun x hx => h x (List.mem_of_mem_drop (List.mem_of_mem_take hx)))
  have e : ((l.drop p).take n).length = n := by rw [List.length_take, List.length_drop]; omega
  rwa [e] at h2
theorem rd16 {l : List Int} (h : ∀ x ∈ l, 0 ≤ x ∧ x < 256) (p : Nat) (hp : p + 2 ≤ l.length) : rdN l p 2 < 65536 := rdN_lt h p 2 hp
theorem rd32 {l : List Int} (h : ∀ x ∈ l, 0 ≤ x ∧ x < 256) (p : Nat) (hp : p + 4 ≤ l.length) : rdN l p 4 < 4294967296 := rdN_lt h p 4 hp
theorem rnum_ok {w0 w : World} {base g : Nat} {v : Value} {l : List Int} (p k q : Nat) (h : FR w0 base g w v l ⟨p, false⟩) (hl : ∀ x ∈ l, 0 ≤ x ∧ x < 256) (hm : l.length ≤ 140737488355328) (hk : wid k) (hp : p + k ≤ l.length) (hq : p + k = q) : Calls Try.prog 46 #[.pointer (some ⟨g, 0, none⟩), .int .i64 k] w fun e w' => e = .returned (.int .u64 (rdN l p k)) ∧ FR w0 base g w' v l ⟨q, false⟩ ∧ KeepBut w w' g none :=
  (rnum_any h hl hm k hk).mono fun e w' ⟨he, h1, h2⟩ => by
    have e1 : (⟨p, false⟩ : RS).tk l k = (l.drop p).take k := if_pos ⟨rfl, hp⟩
    have e2 : (⟨p, false⟩ : RS).next l k = ⟨q, false⟩ := by unfold RS.next; rw [if_neg (by simp), if_pos hp, hq]
    rw [e1] at he
    rw [e2] at h1
    exact ⟨he, h1, h2⟩
theorem own_keep {wr w' : World} {base g T : Nat} {v : Value} {xs : List Int} {cs : Array Value} (h : Row.OwnB wr base v xs) (hk : KeepBut wr w' g none) (hg : wr.heap[g]? = some (.cells cs T (0, 0))) (ht : T ≠ 5) : Row.OwnB w' base v xs := Kd.R_mono (Kd.R_keep (Kd.R_types h hg (fun q hq => by simp [Kd.int, Kd.scalar] at hq; omega)) hk (fun _ hk => hk.2)) (fun _ hk => hk.1)
theorem own_set {wr : World} {base g T : Nat} {v : Value} {xs : List Int} {cs : Array Value} (h : Row.OwnB wr base v xs) (hg : wr.heap[g]? = some (.cells cs T (0, 0))) (ht : T ≠ 5) (j : Nat) (u : Value) : Row.OwnB (wr.setCell ⟨g, j, none⟩ u) base v xs := Kd.R_set h hg (fun q hq => by simp [Kd.int, Kd.scalar] at hq; omega) j u
theorem FR_far {w0 wa : World} {base g b T : Nat} {v : Value} {l : List Int} {s : RS} {cs : Array Value} (h : FR w0 base g wa v l s) (hb : wa.heap[b]? = some (.cells cs T (0, 0))) (h1 : T ≠ 106) (h2 : T ≠ 5) (hbase : base ≤ b) (j : Nat) (u : Value) : FR w0 base g (wa.setCell ⟨b, j, none⟩ u) v l s :=
  ⟨(Below.heap_setCell _ _ _ _ (blk_ne h.blk hb (Ne.symm h1))).trans h.blk, Kd.R_set h.own hb (fun q hq => by simp [Kd.int, Kd.scalar] at hq; omega) j u, h.below.setCell hbase _, h.bg, h.at_⟩
theorem dec_keep {w0 wa wb : World} {base g b : Nat} {v : Value} {l : List Int} {s : RS} {o : Obj} (h : FR w0 base g wa v l s) (hk : KeepBut wa wb g none) {n : Nat} (hbr : b < n ∧ n ≤ g) (hz : wa.heap[b]? = some o) : wb.heap[b]? = some o := hk.blk hz (by omega) (by simp)
theorem xor_not (r : Nat) (h : r < 4294967296) : r ^^^ (4294967295 - r) = 4294967295 := by
  apply Nat.eq_of_testBit_eq
  intro i
  rw [Nat.testBit_xor, show 4294967295 - r = 2 ^ 32 - (r + 1) by omega, Nat.testBit_two_pow_sub_succ (by omega), show (4294967295 : Nat) = 2 ^ 32 - (0 + 1) by omega, Nat.testBit_two_pow_sub_succ (by omega)]
  by_cases hi : i < 32
  · simp [hi]
  · have : r.testBit i = false := Nat.testBit_lt_two_pow ((by have h2 : 2 ^ 32 ≤ 2 ^ i := Nat.pow_le_pow_right (n := 2) (by decide) (by omega); omega))
    simp [hi, this]
theorem val_num : ∀ l : List Int, val l = Crc.num (l.map Int.toNat)
  | [] => rfl
  | x :: l => by rw [val, List.map_cons, Crc.num, val_num l]
theorem nat_of {l : List Int} (h : ∀ x ∈ l, 0 ≤ x ∧ x < 256) : ∀ x ∈ l.map Int.toNat, x < 256 := fun x hx => by
  obtain ⟨y, hy, rfl⟩ := List.mem_map.1 hx
  have := h y hy
  omega
theorem resid (m t : List Int) (hm : ∀ x ∈ m, 0 ≤ x ∧ x < 256) (ht : ∀ x ∈ t, 0 ≤ x ∧ x < 256) (h4 : t.length = 4) (h : Sum.crc 0 m = val t) : Crc.run (4294967295 - 0) ((m ++ t).map Int.toNat) = Crc.iter 32 4294967295 := by
  rw [List.map_append, Crc.run_append, Crc.run_num _ _ (nat_of ht), List.length_map, h4, ← val_num, ← h]
  have hlt := Crc.run_lt (4294967295 - 0) (m.map Int.toNat) (by omega) (nat_of hm)
  unfold Sum.crc
  rw [xor_not _ hlt]
/-- Bytes whose last four are the others' sum. -/
theorem resid_take {l : List Int} (n : Nat) (hl : ∀ x ∈ l, 0 ≤ x ∧ x < 256) (hn : l.length = n + 4) (h : Sum.crc 0 (l.take n) = rdN l n 4) : Crc.run (4294967295 - 0) (l.map Int.toNat) = Crc.iter 32 4294967295 := by
  have e : l.take n ++ (l.drop n).take 4 = l := by
    rw [List.take_of_length_le (l := l.drop n) (by rw [List.length_drop]; omega), List.take_append_drop]
  have h2 := resid (l.take n) ((l.drop n).take 4) (fun x hx => hl x (List.mem_of_mem_take hx)) (fun x hx => hl x (List.mem_of_mem_drop (List.mem_of_mem_take hx))) (by rw [List.length_take, List.length_drop]; omega) h
  rwa [e] at h2
/-- Bits of a burst turned: the sum is another. -/
theorem burst_no (l0 zs : List Int) (n p b : Nat) (h0 : ∀ x ∈ l0, 0 ≤ x ∧ x < 256) (hz : ∀ x ∈ zs, 0 ≤ x ∧ x < 256) (hl0 : l0.length = n + 4) (hlen : zs.length = n + 4) (hr : Sum.crc 0 (l0.take n) = rdN l0 n 4) (hp : p < 8 * (n + 4)) (hb0 : b ≠ 0) (hb : b < 4294967296) (h : Crc.num (l0.map Int.toNat) ^^^ Crc.num (zs.map Int.toNat) = 2 ^ p * (b % 2 ^ 32)) : Sum.crc 0 (zs.take n) ≠ rdN zs n 4 := by
  intro he
  have h1 := resid_take n hz hlen he
  have h2 := Burst.sums (4294967295 - 0) (l0.map Int.toNat) (zs.map Int.toNat) p b (nat_of h0) (nat_of hz) (by simp [hlen, hl0]) (by rw [List.length_map, hl0]; omega) hb0 hb h
  exact h2 (by rw [h1, resid_take n h0 hl0 hr])
theorem rd_mid (pre post : List Int) (n k p : Nat) (hp : pre.length = p) (hn : n < 2 ^ (8 * k)) (l : List Int) (hl : l = pre ++ le n k ++ post) : rdN l p k = n := by
  unfold rdN
  rw [hl, List.append_assoc, ← hp, List.drop_left, List.take_left' (le_length n k), val_le n k hn]
structure Held (wr : World) (base : Nat) (v : Value) (l0 : List Int) (at_ b k : Nat) (w : World) : Prop where
  mk :: (out : ∃ zs : List Int, Row.OwnB wr base v zs ∧ zs.length = l0.length ∧ (∀ x ∈ zs, 0 ≤ x ∧ x < 256) ∧ Crc.num (l0.map Int.toNat) ^^^ Crc.num (zs.map Int.toNat) = 2 ^ at_ * (b % 2 ^ k) ∧ Below w.heap.size w wr)
theorem shift_bit (b k : Nat) (h : b < 4294967296) : bits .and .u32 ((b : Int) / 2 ^ k) 1 = ((b / 2 ^ k % 2 : Nat) : Int) := by
  have e : ((b : Int) / 2 ^ k) = ((b / 2 ^ k : Nat) : Int) := by
    rw [Int.natCast_ediv]; congr 1
  have h2 := u32_and_nat (b / 2 ^ k) 1 (Nat.lt_of_le_of_lt (Nat.div_le_self _ _) h) (by decide)
  rw [Nat.and_one_is_mod] at h2
  rw [e]
  exact h2
theorem shl_bit (r : Nat) (h : r < 8) : IntKind.u8.wrap (2 ^ min r 8) = ((2 ^ r : Nat) : Int) := by
  have h2 : 2 ^ r < 256 := by
    have : 2 ^ r < 2 ^ 8 := Nat.pow_lt_pow_right (by omega) h
    omega
  rw [Nat.min_eq_left (by omega), IntKind.wrap_u8, show ((2 : Int) ^ r) = ((2 ^ r : Nat) : Int) from (Int.natCast_pow 2 r).symm]
  generalize 2 ^ r = x at h2 ⊢
  omega
theorem next_same {wr w : World} {base : Nat} {v : Value} {l0 : List Int} {p b k : Nat} (h : Held wr base v l0 p b k w) (hb : b / 2 ^ k % 2 = 0) : Held wr base v l0 p b (k + 1) w := by
  obtain ⟨zs, h1, h2, h3, h4, h5⟩ := h
  exact ⟨⟨zs, h1, h2, h3, by rw [h4, Burst.low_same b k hb], h5⟩⟩
theorem next_turned {wr w : World} {base g n c : Nat} {l0 : List Int} {p b k q r : Nat} (h : Held wr base (.slice (some ⟨g, 0, none⟩) n c) l0 p b k w) (hg : w.heap.size ≤ g) (hb : b / 2 ^ k % 2 = 1) (hq : q < n) (hr : r < 8) (hqr : 8 * q + r = p + k) :
    ∃ z : Nat, z < 256 ∧ wr.cell? ⟨g, q, none⟩ = some (.int .u8 z) ∧ wr.frozen? ⟨g, q, none⟩ = false ∧ Held ((wr.drew).setCell ⟨g, q, none⟩ (.int .u8 ((z ^^^ 2 ^ r : Nat) : Int))) base (.slice (some ⟨g, 0, none⟩) n c) l0 p b (k + 1) w := by
  obtain ⟨zs, h1, h2, h3, h4, h5⟩ := h
  have hn := (Row.OwnB.reads h1).1
  have h1d : Row.OwnB wr.drew base (.slice (some ⟨g, 0, none⟩) n c) zs := Row.OwnB.below h1 (below_drew (Below.refl _ _))
  have hz := h3 zs[q] (List.getElem_mem _)
  have hzz : zs.getD q 0 = zs[q] := by rw [List.getD_eq_getElem?_getD, List.getElem?_eq_getElem (by omega)]; rfl
  have hr2 : 2 ^ r < 256 := by
    have : 2 ^ r < 2 ^ 8 := Nat.pow_lt_pow_right (by omega) hr
    omega
  have hx : zs[q].toNat ^^^ 2 ^ r < 256 := Nat.xor_lt_two_pow (n := 8) (by omega) hr2
  have hc := Kd.R_celln (0 : Int) h1 (q : Int) (by omega) (by omega)
  have hput := Kd.R_putn h1d (q : Int) (((zs[q].toNat ^^^ 2 ^ r : Nat) : Int))
  rw [Int.toNat_natCast] at hc hput
  have hcell : rdOf 0 zs (q : Int) = ((zs[q].toNat : Nat) : Int) := by
    unfold rdOf
    rw [Int.toNat_natCast, hzz]; omega
  refine ⟨zs[q].toNat, by omega, ?_, hc.2, ⟨⟨zs.set q (((zs[q].toNat ^^^ 2 ^ r : Nat) : Int)), hput, by simp [h2], ?_, ?_, (below_drew h5).setCell hg _⟩⟩⟩
  · rw [hc.1, hcell]
  · intro x hx'
    rcases List.mem_or_eq_of_mem_set hx' with hx' | rfl
    · exact h3 x hx'
    · exact ⟨by omega, by omega⟩
  · have ht := Burst.turned (l0.map Int.toNat) (zs.map Int.toNat) p b k q r (nat_of h3) (by simp; omega) hr hqr hb h4
    have he : (zs.map Int.toNat).getD q 0 = zs[q].toNat := by
      rw [List.getD_eq_getElem?_getD, List.getElem?_map, List.getElem?_eq_getElem (by omega)]; rfl
    rw [he] at ht
    rw [List.map_set, Int.toNat_natCast]
    exact ht
theorem spots (t : Nat) (ht : t ≤ 70000) : ∃ q r : Nat, (t : Int).tdiv 8 = q ∧ wrap64 (q : Int) = q ∧ (t : Int).tmod 8 = r ∧ r < 8 ∧ 8 * q + r = t := by
  refine ⟨t / 8, t % 8, ?_, ?_, ?_, by omega, by omega⟩
  · rw [Int.tdiv_eq_ediv_of_nonneg (by omega)]; omega
  · unfold wrap64; omega
  · rw [Int.tmod_eq_emod_of_nonneg (by omega)]; omega
theorem exec_convert {o : Oper} {a : Act} {w : World} (s d : TypeId) (x : Operand) (ho : o.op = .convert s d x) (v u : Value) (hx : a.eval x = v) (hrun : (convert s d v).run Try.prog w = .ok u w) : (execOp a.eval o).run Try.prog w = .ok (.value u) w := by
  unfold execOp
  simp [ho, hx, hrun, Result.andThen]
end Go.Proofs.Ytogplkochcalpaa.Bg
