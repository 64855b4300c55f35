/- Blocks are packed: what sequences come to as bytes, in plain words; the small callees' contracts. -/
import Derived.Test.YtgplpcjlemjabaaLawLz2
import Derived.Test.YtgplpcjlemjabaaSame
import Derived.Test.YtgplpcjlemjabaaPMatchEncodesx1

set_option linter.unusedVariables false
set_option linter.unusedSimpArgs false
namespace Go.Proofs.Ytgplpcjlemjabaa.Lz
open Go.RowKit Go.Proofs.YtgplpcjlemjabaaW.PrintWords Go.Proofs.YtgplpcjlemjabaaW.PrintLast Go.Proofs.YtgplpcjlemjabaaW.PrintMore
/-- The bytes behind a length's four bits. -/
def tl (n : Int) : List Int := if n < 15 then [] else told (n - 15).toNat
def tok (s : Sq) (last : Bool) : Int := 16 * min (s.1.length : Int) 15 + if last = true then 0 else min (s.2.2 - 4) 15
def segT (s : Sq) (last : Bool) : List Int := if last = true then [] else [s.2.1 % 256, s.2.1 / 256] ++ tl (s.2.2 - 4)
def seg (s : Sq) (last : Bool) : List Int := [tok s last] ++ tl s.1.length ++ s.1 ++ segT s last
/-- What is wrong with a sequence. -/
def wrongP (s : Sq) (last : Bool) (size : Int) : Int :=
  if (last = true ∧ (s.2.1 ≠ 0 ∨ s.2.2 ≠ 0)) ∨ (last = false ∧ (s.2.1 < 1 ∨ 65535 < s.2.1 ∨ s.2.2 < 4)) then 1
  else if size + s.1.length < s.2.1 then 9
  else if 1048576 - size < s.1.length ∨ 1048576 - size - s.1.length < s.2.2 then 2 else 0
theorem wrong_no {s : Sq} {last : Bool} {size : Int} (h : wrongP s last size = 0) (h0 : 0 ≤ size) : ((last = true ∧ s.2.1 = 0 ∧ s.2.2 = 0) ∨ (last = false ∧ 1 ≤ s.2.1 ∧ s.2.1 ≤ 65535 ∧ 4 ≤ s.2.2)) ∧ s.2.1 ≤ size + s.1.length ∧ size + s.1.length + s.2.2 ≤ 1048576 ∧ 0 ≤ s.2.2 ∧ 0 ≤ s.2.1 := by
  unfold wrongP at h
  split at h
  · cases h
  split at h
  · cases h
  split at h
  · cases h
  rename_i h1 h2 h3
  cases last <;> simp at h1 <;> simp <;> omega
/-- Sequences as bytes. -/
def joinP (out : List Int) (size : Int) : List Sq → List Int × Int
  | [] => (out, 0)
  | s :: r => if wrongP s (decide (r = [])) size = 0 then joinP (out ++ seg s (decide (r = []))) (size + s.1.length + s.2.2) r else ([], wrongP s (decide (r = [])) size)
def joinA (l : List Sq) : List Int × Int := if l = [] then ([], 1) else joinP [] 0 l
theorem told_q (q d : Nat) (hd : d < 255) : told (255 * q + d) = List.replicate q 255 ++ [(d : Int)] := by
  unfold told
  rw [show (255 * q + d) / 255 = q by omega, show (255 * q + d) % 255 = d by omega]
theorem tell_l0 (d : Nat) (hd : d < 255) : ∀ (q k : Nat) (x : List Int), q < k → x.length + q + 1 < 140737488355328 → q < 1000000000 → PMatchEncodes.lz_tell.l0 k x ((255 * q + d : Nat) : Int) = some (x ++ (List.replicate q 255 ++ [(d : Int)])) := by
  intro q
  induction q with
  | zero =>
    intro k x hk hx _
    obtain ⟨k, rfl⟩ : ∃ m, k = m + 1 := ⟨k - 1, by omega⟩
    unfold PMatchEncodes.lz_tell.l0
    rw [if_neg (by omega), if_pos (by omega)]
    simp only [Nat.mul_zero, Nat.zero_add, List.replicate_zero, List.nil_append]
    rw [show ((d : Int) % 256) = d by omega]
  | succ q ih =>
    intro k x hk hx hq
    obtain ⟨k, rfl⟩ : ∃ m, k = m + 1 := ⟨k - 1, by omega⟩
    unfold PMatchEncodes.lz_tell.l0
    rw [if_pos (by omega), if_pos (by omega), show wrap64 (((255 * (q + 1) + d : Nat) : Int) - 255) = ((255 * q + d : Nat) : Int) by unfold wrap64; omega, ih k (x ++ [255]) (by omega) (by simp; omega) (by omega)]
    rw [List.append_assoc, List.replicate_succ]
    simp
theorem tell_f (n : Nat) (x : List Int) (hn : n ≤ 4000000) (hx : x.length < 140737000000000) : PMatchEncodes.lz_tell.f (n / 255 + 1) x (n : Int) = some (x ++ tl n) := by
  unfold PMatchEncodes.lz_tell.f tl
  by_cases h : n < 15
  · rw [if_pos (by omega), if_pos (by omega), List.append_nil]
  · rw [if_neg (by omega), if_neg (by omega), show wrap64 ((n : Int) - 15) = ((n - 15 : Nat) : Int) by unfold wrap64; omega, show ((n : Int) - 15).toNat = n - 15 by omega]
    obtain ⟨q, d, hd, he⟩ : ∃ q d, d < 255 ∧ n - 15 = 255 * q + d := ⟨(n - 15) / 255, (n - 15) % 255, Nat.mod_lt _ (by decide), by omega⟩
    rw [he, tell_l0 d hd q _ x (by omega) (by omega) (by omega), told_q q d hd]
/-- tell. -/
theorem tell_any {w0 w : World} {u : Value} {x : List Int} (n : Nat) (hn : n ≤ 4000000) (hx : x.length < 140737000000000) (hB : Below w0.heap.size w0 w) (ho : Row.OwnB w w0.heap.size u x) :
    Calls Try.prog 56 #[u, .int .i64 n] w fun e w' => ∃ v, e = .returned v ∧ Row.OwnB w' w0.heap.size v (x ++ tl n) ∧ Below w0.heap.size w0 w' ∧ w.heap.size ≤ w'.heap.size ∧ (∀ k, k < w.heap.size → u.ownBlock ≠ some k → w'.heap[k]? = w.heap[k]?) := by
  refine (PMatchEncodes.lz_tell.calls (n / 255 + 1) (fun k => u.ownBlock = some k) u x n (x ++ tl n) w0 w hB ⟨fun k hk => hk, ho.2⟩ (tell_f n x hn hx)).mono fun e w' ⟨v, he, hR, hb, hk⟩ => ⟨v, he, ⟨fun _ _ => trivial, hR.2⟩, hb, hk.1, fun k h1 h2 => hk.2 k h1 h2⟩
theorem wrong_f (lit : List Int) (off len : Int) (last : Bool) (size : Int) (ho : -9223372036854775808 ≤ off ∧ off ≤ 9223372036854775807) (hl : -9223372036854775808 ≤ len ∧ len ≤ 9223372036854775807) (hlit : lit.length ≤ 4000000) (h0 : 0 ≤ size) (h1 : size ≤ 1048576) :
    PMatchEncodes.lz_wrong.f 3 lit off len last size = some (wrongP (lit, off, len) last size) := by
  have e1 : wrap64 (1048576 - size) = 1048576 - size := by unfold wrap64; omega
  have e2 : wrap64 (1048576 - size - (lit.length : Int)) = 1048576 - size - lit.length := by unfold wrap64; omega
  unfold wrongP
  cases last
  · simp only [PMatchEncodes.lz_wrong.f, PMatchEncodes.lz_wrong.j0, PMatchEncodes.lz_wrong.j1, PMatchEncodes.lz_wrong.j2, e1, e2, Bool.false_eq_true, if_false, if_true, reduceIte, false_and, true_and, false_or]
    by_cases a1 : off < 1
    · rw [if_pos a1, if_pos (Or.inl a1)]
    rw [if_neg a1]
    by_cases a2 : off > 65535
    · rw [if_pos a2, if_pos (Or.inr (Or.inl a2))]
    rw [if_neg a2]
    have e3 : wrap64 (off - (lit.length : Int)) = off - lit.length := by unfold wrap64; omega
    rw [e3]
    by_cases a3 : len < 4
    · rw [decide_eq_true a3, if_pos rfl, if_pos (Or.inr (Or.inr a3))]
    rw [decide_eq_false a3, if_neg (by omega : ¬ (off < 1 ∨ 65535 < off ∨ len < 4))]
    simp only [Bool.false_eq_true, if_false]
    by_cases a4 : off > (lit.length : Int)
    · rw [if_pos a4]
      by_cases a5 : off - (lit.length : Int) > size
      · rw [decide_eq_true a5, if_pos rfl, if_pos (by omega)]
      · rw [decide_eq_false a5, if_neg (by simp), if_neg (by omega : ¬ size + (lit.length : Int) < off)]
        by_cases a6 : (lit.length : Int) > 1048576 - size
        · rw [if_pos a6, if_pos (by omega)]
        · rw [if_neg a6]
          by_cases a7 : len > 1048576 - size - (lit.length : Int)
          · rw [if_pos a7, if_pos (by omega)]
          · rw [if_neg a7, if_neg (by omega)]
    · rw [if_neg a4, if_neg (by omega : ¬ size + (lit.length : Int) < off)]
      by_cases a6 : (lit.length : Int) > 1048576 - size
      · rw [if_pos a6, if_pos (by omega)]
      · rw [if_neg a6]
        by_cases a7 : len > 1048576 - size - (lit.length : Int)
        · rw [if_pos a7, if_pos (by omega)]
        · rw [if_neg a7, if_neg (by omega)]
  · simp only [PMatchEncodes.lz_wrong.f, PMatchEncodes.lz_wrong.j0, PMatchEncodes.lz_wrong.j1, PMatchEncodes.lz_wrong.j2, e1, e2, if_true, reduceIte, true_and, Bool.true_eq_false, false_and, or_false]
    by_cases a1 : off = 0
    · subst a1
      rw [if_pos rfl]
      by_cases a2 : len = 0
      · subst a2
        simp only [bne_self_eq_false, Bool.false_eq_true, if_false, ne_eq, not_true_eq_false, or_self]
        rw [if_neg (by omega : ¬ size + (lit.length : Int) < 0)]
        by_cases a6 : (lit.length : Int) > 1048576 - size
        · rw [if_pos a6, if_pos (by omega)]
        · rw [if_neg a6]
          by_cases a7 : (0 : Int) > 1048576 - size - (lit.length : Int)
          · rw [if_pos a7, if_pos (by omega)]
          · rw [if_neg a7, if_neg (by omega)]
      · have : (len != 0) = true := by simpa using a2
        rw [this]
        simp [a2]
    · rw [if_neg a1, if_pos (Or.inl a1)]
theorem wrong_any {w : World} {A : Option Addr} {c : Nat} (lit : List Int) (off len : Int) (last : Bool) (size : Int) (hC : Kd.C (Kd.int .u8) w A lit.length lit) (hc : lit.length ≤ c) (ho : -9223372036854775808 ≤ off ∧ off ≤ 9223372036854775807) (hl : -9223372036854775808 ≤ len ∧ len ≤ 9223372036854775807) (hlit : lit.length ≤ 4000000) (h0 : 0 ≤ size) (h1 : size ≤ 1048576) :
    Calls Try.prog 55 #[.agg #[.slice A lit.length c, .int .i64 off, .int .i64 len], .bool last, .int .i64 size] w fun e w' => e = .returned (.int .i64 (wrongP (lit, off, len) last size)) ∧ Below w.heap.size w w' :=
  PMatchEncodes.lz_wrong.calls 3 A c lit off len last size _ w hC hc (wrong_f lit off len last size ho hl hlit h0 h1)
theorem tok_or (a b : Int) (ha : 0 ≤ a ∧ a ≤ 15) (hb : 0 ≤ b ∧ b ≤ 15) : bits BinOp.or IntKind.i64 (a * 16) b = 16 * a + b := by
  obtain ⟨x, rfl⟩ := Int.eq_ofNat_of_zero_le ha.1
  obtain ⟨y, rfl⟩ := Int.eq_ofNat_of_zero_le hb.1
  have hor : (x * 16 ||| y) = x * 16 + y := by
    have h := Nat.two_pow_add_eq_or_of_lt (i := 4) (b := y) (by omega) x
    have e : (2 : Nat) ^ 4 = 16 := by decide
    rw [e] at h
    rw [Nat.mul_comm x 16]
    omega
  show IntKind.i64.wrap ((BitVec.ofInt 64 ((x * 16 : Nat) : Int) ||| BitVec.ofInt 64 (y : Int)).toNat : Int) = _
  rw [BitVec.toNat_or, ofInt_u64 (x * 16) (by omega), ofInt_u64 y (by omega), hor, Go.Lib.wrap_i64_small _ (by omega)]
  omega
end Go.Proofs.Ytgplpcjlemjabaa.Lz
