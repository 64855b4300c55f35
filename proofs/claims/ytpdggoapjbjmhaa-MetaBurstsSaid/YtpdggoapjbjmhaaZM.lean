/- Texts put together: MaA. -/
import Derived.Test.YtpdggoapjbjmhaaZJ
import Derived.Test.YtpdggoapjbjmhaaPW
import Derived.Deep.QuietTactic
import Derived.BigQuiet
import Derived.Test.YtpdggoapjbjmhaaZL
import Derived.Test.YtpdggoapjbjmhaaWX
import Derived.Laws.Tables
/- Texts put together: Ma1, Ma2, Ma3, Ma4, Ma5, Ma6. -/
/- Blocks are packed: the program's search for copies, in plain words; what its sequences tell. -/
set_option linter.unusedVariables false
set_option linter.unusedSimpArgs false
namespace Go.Proofs.Ytpdggoapjbjmhaa.Ma
open Go.RowKit Go.Proofs.Ytpdggoapjbjmhaa.Lz Go.Proofs.YtpdggoapjbjmhaaW.PrintWords Go.Proofs.YtpdggoapjbjmhaaW.PrintLast Go.Proofs.YtpdggoapjbjmhaaW.PrintMore
/-- A number of four bytes, spread: below 4096. -/
def hsh (x y z u : Int) : Int := (x + y * 256 + z * 65536 + u * 16777216) * 2654435761 % 4294967296 / 1048576
def hs (b : List Int) (i : Nat) : Nat := (hsh (b.getD i 0) (b.getD (i + 1) 0) (b.getD (i + 2) 0) (b.getD (i + 3) 0)).toNat
theorem hs_lt (b : List Int) (i : Nat) : hs b i < 4096 := by
  unfold hs hsh
  omega
/-- How many bytes from two places on are the same. -/
def com (b : List Int) (p q : Nat) : Nat → Nat
  | 0 => 0
  | k + 1 => if b.getD p 0 = b.getD q 0 then com b (p + 1) (q + 1) k + 1 else 0
theorem com_le (b : List Int) : ∀ (k p q : Nat), com b p q k ≤ k
  | 0, _, _ => Nat.le_refl _
  | k + 1, p, q => by
    unfold com
    have := com_le b k (p + 1) (q + 1)
    split <;> omega
theorem com_same (b : List Int) : ∀ (k p q i : Nat), i < com b p q k → b.getD (p + i) 0 = b.getD (q + i) 0
  | 0, _, _, i, h => by unfold com at h; omega
  | k + 1, p, q, i, h => by
    unfold com at h
    split at h
    · rename_i he
      cases i with
      | zero => simpa using he
      | succ i =>
        have := com_same b k (p + 1) (q + 1) i (by omega)
        rw [show p + (i + 1) = p + 1 + i by omega, show q + (i + 1) = q + 1 + i by omega]
        exact this
    · omega
/-- Places with the same hash. -/
structure Chs where
  heads : Nat → Nat
  prev : Nat → Nat
def put (b : List Int) (c : Chs) (i : Nat) : Chs :=
  if b.length < i + 4 then c else ⟨fun h => if h = hs b i then i + 1 else c.heads h, fun q => if q = i then c.heads (hs b i) else c.prev q⟩
def puts (b : List Int) (c : Chs) (i : Nat) : Nat → Chs
  | 0 => c
  | k + 1 => puts b (put b c i) (i + 1) k
/-- The longest copy among so many places. -/
def fnd (b : List Int) (c : Chs) (i : Nat) : Nat → Nat → Nat → Nat → Nat × Nat
  | 0, _, off, n => (off, n)
  | t + 1, p, off, n =>
    if p = 0 ∨ 65535 < i - (p - 1) then (off, n)
    else if n < com b (p - 1) i (b.length - 5 - i) then fnd b c i t (c.prev (p - 1)) (i - (p - 1)) (com b (p - 1) i (b.length - 5 - i))
    else fnd b c i t (c.prev (p - 1)) off n
def find (b : List Int) (c : Chs) (i : Nat) : Nat × Nat :=
  if (fnd b c i 96 (c.heads (hs b i)) 0 0).2 < 4 then (0, 0) else fnd b c i 96 (c.heads (hs b i)) 0 0
/-- A text's sequences, from a place on. -/
def seqs (b : List Int) : Nat → Chs → Nat → Nat → List Sq
  | 0, _, _, _ => []
  | f + 1, c, i, from_ =>
    if i + 12 ≤ b.length then
      if (find b c i).2 = 0 then seqs b f (put b c i) (i + 1) from_
      else ((b.drop from_).take (i - from_), ((find b c i).1 : Int), ((find b c i).2 : Int)) :: seqs b f (puts b c i (find b c i).2) (i + (find b c i).2) (i + (find b c i).2)
    else [(b.drop from_, 0, 0)]
def chs0 : Chs := ⟨fun _ => 0, fun _ => 0⟩
def sqs (b : List Int) : List Sq := seqs b (b.length + 1) chs0 0 0
/-- Each place that is known lies ahead of i; each place's forerunner lies ahead of it. -/
structure Inv (c : Chs) (i : Nat) : Prop where
  heads : ∀ h, c.heads h ≤ i
  prev : ∀ q, c.prev q ≤ q
theorem Inv.zero : Inv chs0 0 := ⟨fun _ => Nat.le_refl _, fun _ => Nat.zero_le _⟩
theorem Inv.put {c : Chs} {i : Nat} (b : List Int) (h : Inv c i) : Inv (put b c i) (i + 1) := by
  unfold Ma.put
  split
  · exact ⟨fun k => Nat.le_succ_of_le (h.heads k), h.prev⟩
  · refine ⟨fun k => ?_, fun q => ?_⟩
    · simp only
      split
      · exact Nat.le_refl _
      · exact Nat.le_succ_of_le (h.heads k)
    · simp only
      split
      · rename_i e; subst e; exact h.heads _
      · exact h.prev q
theorem Inv.puts {b : List Int} : ∀ (k : Nat) {c : Chs} {i : Nat}, Inv c i → Inv (puts b c i k) (i + k)
  | 0, _, _, h => h
  | k + 1, c, i, h => by
    have := Inv.puts (b := b) k (h.put b)
    rw [show i + 1 + k = i + (k + 1) by omega] at this
    exact this
/-- What is found. -/
def Found (b : List Int) (i off n : Nat) : Prop := n = 0 ∨ (1 ≤ off ∧ off ≤ 65535 ∧ off ≤ i ∧ i + n + 5 ≤ b.length ∧ ∀ k, k < n → b.getD (i - off + k) 0 = b.getD (i + k) 0)
theorem fnd_spec {b : List Int} {c : Chs} {i : Nat} (hI : Inv c i) : ∀ (t p off n : Nat), p ≤ i → Found b i off n → Found b i (fnd b c i t p off n).1 (fnd b c i t p off n).2
  | 0, _, _, _, _, h => h
  | t + 1, p, off, n, hp, h => by
    unfold fnd
    by_cases h0 : p = 0 ∨ 65535 < i - (p - 1)
    · rw [if_pos h0]; exact h
    · rw [if_neg h0]
      have hpr : c.prev (p - 1) ≤ i := by have := hI.prev (p - 1); omega
      by_cases h1 : n < com b (p - 1) i (b.length - 5 - i)
      · rw [if_pos h1]
        refine fnd_spec hI t _ _ _ hpr (Or.inr ⟨by omega, by omega, by omega, ?_, fun k hk => ?_⟩)
        · have := com_le b (b.length - 5 - i) (p - 1) i; omega
        · have := com_same b _ _ _ k hk
          rw [show i - (i - (p - 1)) + k = p - 1 + k by omega]
          exact this
      · rw [if_neg h1]
        exact fnd_spec hI t _ _ _ hpr h
theorem find_spec {b : List Int} {c : Chs} {i : Nat} (hI : Inv c i) (h0 : (find b c i).2 ≠ 0) :
    1 ≤ (find b c i).1 ∧ (find b c i).1 ≤ 65535 ∧ (find b c i).1 ≤ i ∧ 4 ≤ (find b c i).2 ∧ i + (find b c i).2 + 5 ≤ b.length ∧ ∀ k, k < (find b c i).2 → b.getD (i - (find b c i).1 + k) 0 = b.getD (i + k) 0 := by
  have h := fnd_spec (b := b) hI 96 (c.heads (hs b i)) 0 0 (hI.heads _) (Or.inl rfl)
  unfold find at h0 ⊢
  by_cases h4 : (fnd b c i 96 (c.heads (hs b i)) 0 0).2 < 4
  · rw [if_pos h4] at h0; exact absurd rfl h0
  · rw [if_neg h4] at h0 ⊢
    rcases h with h | ⟨h1, h2, h3, h5, h6⟩
    · exact absurd h h0
    · exact ⟨h1, h2, h3, by omega, h5, h6⟩
theorem cp_take {b : List Int} {i off : Nat} (ho : 1 ≤ off) (hoi : off ≤ i) : ∀ (n : Nat), i + n ≤ b.length → (∀ k, k < n → b.getD (i - off + k) 0 = b.getD (i + k) 0) → cp (b.take i) off n = b.take (i + n)
  | 0, _, _ => rfl
  | n + 1, hn, h => by
    unfold cp
    rw [cp_take ho hoi n (by omega) (fun k hk => h k (by omega))]
    have hl : (b.take (i + n)).length = i + n := by rw [List.length_take]; omega
    rw [hl]
    have he := h n (by omega)
    rw [show i + (n + 1) = i + n + 1 by omega, List.take_succ_eq_append_getElem (by omega)]
    congr 2
    rw [List.getD_eq_getElem?_getD, List.getElem?_take, if_pos (by omega), ← List.getD_eq_getElem?_getD, show i + n - off = i - off + n by omega, he, List.getD_eq_getElem?_getD, List.getElem?_eq_getElem (by omega)]
    rfl
theorem drop_take_len (b : List Int) {i j : Nat} (hij : i ≤ j) (hj : j ≤ b.length) : b.take i ++ (b.drop i).take (j - i) = b.take j := by
  rw [show b.take j = b.take (i + (j - i)) by rw [show i + (j - i) = j by omega], List.take_add]
/-- What a text's sequences are: right, they tell the text, and end as they must. -/
structure Told (b : List Int) (l : List Sq) (from_ : Nat) : Prop where
  ne : l ≠ []
  right : RightL (from_ : Int) l
  outs : outs (b.take from_) l = b
  last : ∀ s t l1, l = l1 ++ [s, t] → 5 ≤ t.1.length ∧ 12 ≤ (t.1.length : Int) + s.2.2
  sub : ∀ s ∈ l, ∃ p q, s.1 = (b.drop p).take q
  bds : ∀ s ∈ l, 0 ≤ s.2.1 ∧ s.2.1 ≤ 65535 ∧ 0 ≤ s.2.2 ∧ s.2.2 ≤ b.length ∧ s.1.length ≤ b.length
  cnt : l.length ≤ b.length - from_ + 1
theorem seqs_told {b : List Int} (hb : b.length ≤ 1048576) : ∀ (f : Nat) (c : Chs) (i from_ : Nat), Inv c i → from_ ≤ i → i ≤ b.length → b.length < i + f → (i = from_ → True) → Told b (seqs b f c i from_) from_ ∧ ∀ s, seqs b f c i from_ = [s] → s.1.length + from_ = b.length
  | 0, _, _, _, _, _, _, h, _ => by omega
  | f + 1, c, i, from_, hI, hfi, hib, hf, _ => by
    unfold seqs
    by_cases h12 : i + 12 ≤ b.length
    · rw [if_pos h12]
      by_cases h0 : (find b c i).2 = 0
      · rw [if_pos h0]
        exact seqs_told hb f _ (i + 1) from_ (hI.put b) (by omega) (by omega) (by omega) (fun _ => trivial)
      · rw [if_neg h0]
        obtain ⟨g1, g2, g3, g4, g5, g6⟩ := find_spec (b := b) hI h0
        obtain ⟨off, n, hon⟩ : ∃ off n, find b c i = (off, n) := ⟨_, _, rfl⟩
        rw [hon] at g1 g2 g3 g4 g5 g6 ⊢
        simp only at g1 g2 g3 g4 g5 g6 ⊢
        obtain ⟨hr, hone⟩ := seqs_told hb f (puts b c i n) (i + n) (i + n) (hI.puts n) (Nat.le_refl _) (by omega) (by omega) (fun _ => trivial)
        obtain ⟨l, hl⟩ : ∃ l, seqs b f (puts b c i n) (i + n) (i + n) = l := ⟨_, rfl⟩
        rw [hl] at hr hone ⊢
        have hlit : ((b.drop from_).take (i - from_)).length = i - from_ := by rw [List.length_take, List.length_drop]; omega
        refine ⟨⟨by simp, ⟨?_, ?_⟩, ?_, ?_, ?_, ?_, ?_⟩, fun s hs => ?_⟩
        · have hd : decide (l = []) = false := decide_eq_false hr.ne
          rw [hd]
          unfold wrongP
          simp only [hlit]
          rw [if_neg (by simp; omega), if_neg (by omega), if_neg (by omega)]
        · simp only [hlit]
          rw [show (from_ : Int) + ((i - from_ : Nat) : Int) + (n : Int) = ((i + n : Nat) : Int) by omega]
          exact hr.right
        · show outs (cp (b.take from_ ++ (b.drop from_).take (i - from_)) ((off : Int).toNat) ((n : Int).toNat)) l = b
          rw [drop_take_len b hfi (by omega), Int.toNat_natCast, Int.toNat_natCast, cp_take g1 g3 n (by omega) g6]
          exact hr.outs
        · intro s t l1 he
          cases l1 with
          | nil =>
            injection he with e1 e2
            have h1 := hone t e2
            rw [← e1]
            simp only
            omega
          | cons a l1 =>
            injection he with e1 e2
            exact hr.last s t l1 e2
        · intro s hs
          rcases List.mem_cons.1 hs with rfl | hs
          · exact ⟨_, _, rfl⟩
          · exact hr.sub s hs
        · intro s hs
          rcases List.mem_cons.1 hs with rfl | hs
          · simp only [hlit]; omega
          · exact hr.bds s hs
        · have := hr.cnt
          simp only [List.length_cons]
          omega
        · injection hs with _ e2
          exact absurd e2 hr.ne
    · rw [if_neg h12]
      have hl : (b.drop from_).length = b.length - from_ := List.length_drop
      refine ⟨⟨by simp, ⟨?_, trivial⟩, ?_, ?_, ?_, ?_, ?_⟩, fun s hs => ?_⟩
      · unfold wrongP
        simp only [hl]
        rw [if_neg (by simp), if_neg (by omega), if_neg (by omega)]
      · show cp (b.take from_ ++ b.drop from_) 0 0 = b
        rw [List.take_append_drop]
        rfl
      · intro s t l1 he
        have := congrArg List.length he
        simp at this
      · intro s hs
        rw [List.mem_singleton.1 hs]
        exact ⟨from_, b.length, by rw [List.take_of_length_le]; simp⟩
      · intro s hs
        rw [List.mem_singleton.1 hs]
        simp only [hl]
        omega
      · simp
      · injection hs with e1 _
        rw [← e1, hl]
        omega
theorem sqs_told {b : List Int} (hb : b.length ≤ 1048576) : Told b (sqs b) 0 :=
  (seqs_told hb (b.length + 1) chs0 0 0 Inv.zero (Nat.le_refl _) (Nat.zero_le _) (by omega) (fun _ => trivial)).1
/-- How long a block may be. -/
def bound (n : Int) : Int := if n < 0 ∨ 1048576 < n then 0 else if n < 15 then n + 1 else n + 2 + (n - 15) / 255
/-- A text's block. -/
def enc (b : List Int) : List Int := if bound b.length < (segs (sqs b)).length then segs [(b, 0, 0)] else segs (sqs b)
theorem lit_length (b : List Int) (hb : b.length ≤ 1048576) : ((segs [(b, 0, 0)]).length : Int) = bound b.length := by
  unfold bound
  rw [if_neg (by omega)]
  simp only [segs, seg, segT, decide_true, if_true, List.append_nil, List.length_append, List.length_singleton]
  unfold tl
  by_cases h : (b.length : Int) < 15
  · rw [if_pos h, if_pos h]; simp; omega
  · rw [if_neg h, if_neg h, told_length]
    omega
theorem enc_bound (b : List Int) (hb : b.length ≤ 1048576) : ((enc b).length : Int) ≤ bound b.length := by
  unfold enc
  split
  · exact Int.le_of_eq (lit_length b hb)
  · omega
/-- Sequences whose block it is. -/
def chosen (b : List Int) : List Sq := if bound b.length < (segs (sqs b)).length then [(b, 0, 0)] else sqs b
theorem enc_segs (b : List Int) : enc b = segs (chosen b) := by
  unfold enc chosen
  split <;> rfl
theorem chosen_told {b : List Int} (hb : b.length ≤ 1048576) : Told b (chosen b) 0 := by
  unfold chosen
  split
  · refine ⟨by simp, ⟨?_, trivial⟩, ?_, ?_, ?_, ?_, ?_⟩
    · unfold wrongP
      rw [if_neg (by simp), if_neg (by simp), if_neg (by simp; omega)]
    · show cp ([] ++ b) 0 0 = b
      rfl
    · intro s t l1 he
      have := congrArg List.length he
      simp at this
    · intro s hs
      rw [List.mem_singleton.1 hs]
      exact ⟨0, b.length, by rw [List.drop_zero, List.take_length]⟩
    · intro s hs
      rw [List.mem_singleton.1 hs]
      simp only
      omega
    · simp
  · exact sqs_told hb
end Go.Proofs.Ytpdggoapjbjmhaa.Ma
/- Blocks are packed: places with the same hash: walks. -/
set_option linter.unusedVariables false
set_option linter.unusedSimpArgs false
namespace Go.Proofs.Ytpdggoapjbjmhaa.Ma
open Go.RowKit Go.Proofs.Ytpdggoapjbjmhaa.Lz Go.Proofs.YtpdggoapjbjmhaaW.PrintWords Go.Proofs.YtpdggoapjbjmhaaW.PrintLast Go.Proofs.YtpdggoapjbjmhaaW.PrintMore
theorem or32 (a b m : Nat) (k : Nat) (hm : m = 2 ^ k) (ha : a < m) (hb : b * m + m ≤ 4294967296) : Go.bits .or .u32 (a : Int) ((b * m : Nat) : Int) = ((a + b * m : Nat) : Int) := by
  have hor := Nat.two_pow_add_eq_or_of_lt (i := k) (b := a) (by omega) b
  have hor2 : b * m ||| a = a + b * m := by rw [hm, Nat.mul_comm b, ← hor, Nat.add_comm]
  show IntKind.u32.wrap ((BitVec.ofInt 32 (a : Int) ||| BitVec.ofInt 32 ((b * m : Nat) : Int)).toNat : Int) = _
  rw [BitVec.toNat_or, ofInt_u32 a (by omega), ofInt_u32 (b * m) (by omega), Nat.or_comm, hor2]
  have : ((a + b * m : Nat) : Int) < 4294967296 := by omega
  obtain ⟨z, hz⟩ : ∃ z, z = a + b * m := ⟨_, rfl⟩
  rw [← hz] at this ⊢
  simp [IntKind.wrap, IntKind.bits, IntKind.signed]
  omega
theorem hash_bits (x y z u : Int) (hx : 0 ≤ x ∧ x < 256) (hy : 0 ≤ y ∧ y < 256) (hz : 0 ≤ z ∧ z < 256) (hu : 0 ≤ u ∧ u < 256) :
    (((Go.bits .or .u32 (Go.bits .or .u32 (Go.bits .or .u32 (x % 4294967296) (((y % 4294967296) * 256) % 4294967296)) (((z % 4294967296) * 65536) % 4294967296)) (((u % 4294967296) * 16777216) % 4294967296)) * 2654435761) % 4294967296) / 1048576 = hsh x y z u := by
  obtain ⟨x, rfl⟩ := Int.eq_ofNat_of_zero_le hx.1
  obtain ⟨y, rfl⟩ := Int.eq_ofNat_of_zero_le hy.1
  obtain ⟨z, rfl⟩ := Int.eq_ofNat_of_zero_le hz.1
  obtain ⟨u, rfl⟩ := Int.eq_ofNat_of_zero_le hu.1
  rw [show (x : Int) % 4294967296 = x by omega, show ((y : Int) % 4294967296) * 256 % 4294967296 = ((y * 256 : Nat) : Int) by omega, show ((z : Int) % 4294967296) * 65536 % 4294967296 = ((z * 65536 : Nat) : Int) by omega, show ((u : Int) % 4294967296) * 16777216 % 4294967296 = ((u * 16777216 : Nat) : Int) by omega]
  rw [or32 x y 256 8 rfl (by omega) (by omega), or32 (x + y * 256) z 65536 16 rfl (by omega) (by omega), or32 (x + y * 256 + z * 65536) u 16777216 24 rfl (by omega) (by omega)]
  unfold hsh
  have e : ((x + y * 256 + z * 65536 + u * 16777216 : Nat) : Int) = (x : Int) + y * 256 + z * 65536 + u * 16777216 := by omega
  rw [e]
theorem isB_at {l : List Int} (h : isB l) (i : Nat) (hi : i < l.length) : 0 ≤ l.getD i 0 ∧ l.getD i 0 < 256 := by
  rw [List.getD_eq_getElem?_getD, List.getElem?_eq_getElem hi]
  exact h _ (List.getElem_mem hi)
theorem hash_any (w : World) (b : List Int) (i : Nat) (A : Option Addr) (c : Nat) (hC : Kd.C (Kd.int .u8) w A (b.drop i).length (b.drop i)) (hc : (b.drop i).length ≤ c) (hb : isB b) (hi : i + 4 ≤ b.length) :
    Calls Try.prog 87 #[.slice A (b.drop i).length c] w fun e w' => e = .returned (.int .i64 (hs b i)) ∧ Drawn0 w w' := by
  refine PBlocksWords.match_hash.calls A c (b.drop i) (hs b i) w hC hc ?_
  have hl : (b.drop i).length = b.length - i := List.length_drop
  have hr : ∀ j : Nat, rd (b.drop i) (j : Int) = b.getD (i + j) 0 := fun j => by
    unfold rd
    rw [Int.toNat_natCast, List.getD_eq_getElem?_getD, List.getElem?_drop, ← List.getD_eq_getElem?_getD]
  have r0 : rd (b.drop i) 0 = b.getD i 0 := hr 0
  have r1 : rd (b.drop i) 1 = b.getD (i + 1) 0 := hr 1
  have r2 : rd (b.drop i) 2 = b.getD (i + 2) 0 := hr 2
  have r3 : rd (b.drop i) 3 = b.getD (i + 3) 0 := hr 3
  unfold PBlocksWords.match_hash.f
  rw [if_pos (by omega), if_pos (by omega), if_pos (by omega), if_pos (by omega), r0, r1, r2, r3, hash_bits _ _ _ _ (isB_at hb _ (by omega)) (isB_at hb _ (by omega)) (isB_at hb _ (by omega)) (isB_at hb _ (by omega))]
  unfold hs
  congr 1
  have : 0 ≤ hsh (b.getD i 0) (b.getD (i + 1) 0) (b.getD (i + 2) 0) (b.getD (i + 3) 0) := by unfold hsh; omega
  omega
theorem common_f (b : List Int) (p q e : Nat) (hb : b.length ≤ 4000000) (he : e ≤ b.length) (hpq : p ≤ q) : ∀ (d n k : Nat), q + n + d = e → d < k → PBlocksWords.match_common.l0 k b (p : Int) (q : Int) (e : Int) (n : Int) = some ((n + com b (p + n) (q + n) d : Nat) : Int)
  | 0, n, k, hd, hk => by
    obtain ⟨k, rfl⟩ : ∃ m, k = m + 1 := ⟨k - 1, by omega⟩
    simp only [PBlocksWords.match_common.l0]
    rw [show wrap64 ((q : Int) + (n : Int)) = ((q + n : Nat) : Int) by unfold wrap64; omega, if_neg (by omega)]
    rfl
  | d + 1, n, k, hd, hk => by
    obtain ⟨k, rfl⟩ : ∃ m, k = m + 1 := ⟨k - 1, by omega⟩
    simp only [PBlocksWords.match_common.l0]
    rw [show wrap64 ((q : Int) + (n : Int)) = ((q + n : Nat) : Int) by unfold wrap64; omega, show wrap64 ((p : Int) + (n : Int)) = ((p + n : Nat) : Int) by unfold wrap64; omega, if_pos (by omega), if_pos (by omega), if_pos (by omega), if_pos (by omega), if_pos (by omega)]
    unfold com
    have e1 : rd b ((p + n : Nat) : Int) = b.getD (p + n) 0 := by unfold rd; rw [Int.toNat_natCast]
    have e2 : rd b ((q + n : Nat) : Int) = b.getD (q + n) 0 := by unfold rd; rw [Int.toNat_natCast]
    rw [e1, e2]
    by_cases h : b.getD (p + n) 0 = b.getD (q + n) 0
    · rw [if_pos h, if_pos h, show wrap64 ((n : Int) + 1) = ((n + 1 : Nat) : Int) by unfold wrap64; omega, common_f b p q e hb he hpq d (n + 1) k (by omega) (by omega)]
      rw [show p + (n + 1) = p + n + 1 by omega, show q + (n + 1) = q + n + 1 by omega]
      congr 2
      omega
    · rw [if_neg h, if_neg h]
      rfl
theorem common_any (w : World) (b : List Int) (A : Option Addr) (c p q e : Nat) (hC : Kd.C (Kd.int .u8) w A b.length b) (hc : b.length ≤ c) (hb : b.length ≤ 4000000) (he : e ≤ b.length) (hpq : p ≤ q) (hqe : q ≤ e) :
    Calls Try.prog 88 #[.slice A b.length c, .int .i64 p, .int .i64 q, .int .i64 e] w fun en w' => en = .returned (.int .i64 (com b p q (e - q))) ∧ Drawn0 w w' := by
  refine PBlocksWords.match_common.calls (e - q + 1) A c b p q e _ w hC hc ?_
  unfold PBlocksWords.match_common.f
  have h := common_f b p q e hb he hpq (e - q) 0 (e - q + 1) (by omega) (by omega)
  simp only [Nat.add_zero, Nat.zero_add] at h
  exact h
/-- The places in memory. -/
structure CM (w : World) (g gp : Nat) (c : Chs) (n : Nat) : Prop where
  blk : ∃ cs, w.heap[g]? = some (.cells cs 132 (0, 0)) ∧ (∀ h, h < 4096 → cs[h]? = some (.int .i64 (c.heads h : Nat))) ∧ cs[4096]? = some (.slice (some ⟨gp, 0, none⟩) n n)
  prv : ∃ ps, w.heap[gp]? = some (.cells ps 3 (0, 0)) ∧ ∀ q, q < n → ps[q]? = some (.int .i64 (c.prev q : Nat))
section
variable {w w1 : World} {g gp n : Nat} {c : Chs}
theorem CM.ne (h : CM w g gp c n) : g ≠ gp := by
  obtain ⟨cs, h1, -⟩ := h.blk
  obtain ⟨ps, h2, -⟩ := h.prv
  exact blk_ne h1 h2 (by decide)
theorem CM.lt (h : CM w g gp c n) : g < w.heap.size ∧ gp < w.heap.size := by
  obtain ⟨cs, h1, -⟩ := h.blk
  obtain ⟨ps, h2, -⟩ := h.prv
  exact ⟨blk_lt h1, blk_lt h2⟩
theorem CM.keep (h : CM w g gp c n) (hg : w1.heap[g]? = w.heap[g]?) (hp : w1.heap[gp]? = w.heap[gp]?) : CM w1 g gp c n := by
  obtain ⟨cs, h1, h2⟩ := h.blk
  obtain ⟨ps, h3, h4⟩ := h.prv
  exact ⟨⟨cs, hg.trans h1, h2⟩, ⟨ps, hp.trans h3, h4⟩⟩
theorem CM.below (h : CM w g gp c n) (hb : Below w.heap.size w w1) : CM w1 g gp c n := h.keep (hb.block g h.lt.1) (hb.block gp h.lt.2)
theorem CM.drewN (h : CM w g gp c n) (q : Nat) : CM (w.drewN q) g gp c n := h.keep rfl rfl
theorem CM.head (h : CM w g gp c n) {j : Nat} (hj : j < 4096) : w.cell? ⟨g, j, none⟩ = some (.int .i64 (c.heads j : Nat)) ∧ w.frozen? ⟨g, j, none⟩ = false := by
  obtain ⟨cs, h1, h2, -⟩ := h.blk
  exact ⟨(cell_of_row _ _ _ _ _ _ h1).trans (h2 j hj), blk_frozen h1 j⟩
theorem CM.row (h : CM w g gp c n) : w.cell? ⟨g, 4096, none⟩ = some (.slice (some ⟨gp, 0, none⟩) n n) := by
  obtain ⟨cs, h1, -, h2⟩ := h.blk
  exact (cell_of_row _ _ _ _ _ _ h1).trans h2
theorem CM.prevc (h : CM w g gp c n) {q : Nat} (hq : q < n) : w.cell? ⟨gp, q, none⟩ = some (.int .i64 (c.prev q : Nat)) ∧ w.frozen? ⟨gp, q, none⟩ = false := by
  obtain ⟨ps, h1, h2⟩ := h.prv
  exact ⟨(cell_of_row _ _ _ _ _ _ h1).trans (h2 q hq), blk_frozen h1 q⟩
theorem CM.setp (h : CM w g gp c n) (q v : Nat) : CM (w.setCell ⟨gp, q, none⟩ (.int .i64 (v : Nat))) g gp ⟨c.heads, fun j => if j = q then v else c.prev j⟩ n := by
  obtain ⟨cs, h1, h2⟩ := h.blk
  obtain ⟨ps, h3, h4⟩ := h.prv
  refine ⟨⟨cs, (Below.heap_setCell w ⟨gp, q, none⟩ _ g h.ne).trans h1, h2⟩, ⟨_, blk_set h3 q _, fun j hj => ?_⟩⟩
  have hs : j < ps.size := by have := h4 j hj; exact (Array.getElem?_eq_some_iff.1 this).1
  simp only
  by_cases e : j = q
  · subst e
    rw [if_pos rfl, Array.getElem?_setIfInBounds_self_of_lt hs]
  · rw [if_neg e, Array.getElem?_setIfInBounds_ne (fun h => e h.symm)]
    exact h4 j hj
theorem CM.seth (h : CM w g gp c n) (q v : Nat) (hq : q < 4096) : CM (w.setCell ⟨g, q, none⟩ (.int .i64 (v : Nat))) g gp ⟨fun j => if j = q then v else c.heads j, c.prev⟩ n := by
  obtain ⟨cs, h1, h2, h5⟩ := h.blk
  obtain ⟨ps, h3, h4⟩ := h.prv
  refine ⟨⟨_, blk_set h1 q _, fun j hj => ?_, ?_⟩, ⟨ps, (Below.heap_setCell w ⟨g, q, none⟩ _ gp (Ne.symm h.ne)).trans h3, h4⟩⟩
  · have hs : j < cs.size := (Array.getElem?_eq_some_iff.1 (h2 j hj)).1
    simp only
    by_cases e : j = q
    · subst e
      rw [if_pos rfl, Array.getElem?_setIfInBounds_self_of_lt hs]
    · rw [if_neg e, Array.getElem?_setIfInBounds_ne (fun h => e h.symm)]
      exact h2 j hj
  · rw [Array.getElem?_setIfInBounds_ne (by omega)]
    exact h5
/-- Nothing but these two blocks has turned. -/
def Two (w w' : World) (g gp : Nat) : Prop := (w'.os = w.os ∧ w'.tape = w.tape ∧ w'.output = w.output) ∧ w.heap.size ≤ w'.heap.size ∧ ∀ k, k < w.heap.size → k ≠ g → k ≠ gp → w'.heap[k]? = w.heap[k]?
end
end Go.Proofs.Ytpdggoapjbjmhaa.Ma
/- Blocks are packed: a place is known, the longest copy is found: walks. -/
set_option linter.unusedVariables false
set_option linter.unusedSimpArgs false
namespace Go.Proofs.Ytpdggoapjbjmhaa.Ma
open Go.RowKit Go.Proofs.Ytpdggoapjbjmhaa.Lz Go.Proofs.YtpdggoapjbjmhaaW.PrintWords Go.Proofs.YtpdggoapjbjmhaaW.PrintLast Go.Proofs.YtpdggoapjbjmhaaW.PrintMore
/-- The bytes from a place on. -/
theorem cut_tail (A : Option Addr) (c : Nat) (b : List Int) (i : Nat) (hi : i ≤ b.length) (hc : b.length ≤ c) :
    ∃ (A' : Option Addr) (m c' : Nat), m = (b.drop i).length ∧ m ≤ c' ∧ (∀ W : World, (Instr.slice 37 (.slice A b.length c) (some (.int .i64 (i : Int))) none none).run Try.prog W = .ok (.slice A' m c') W) ∧ ∀ w : World, Kd.C (Kd.int .u8) w A b.length b → Kd.C (Kd.int .u8) w A' m (b.drop i) := by
  have hi8 : ∃ x, Try.prog.info? 5 = some x ∧ x.size = 1 := by
    have h : (Try.prog.info? 5).map (·.size) = some 1 := by kernel_rfl
    cases hx : Try.prog.info? 5 with
    | none => rw [hx] at h; simp at h
    | some x => rw [hx] at h; exact ⟨x, rfl, by simpa using h⟩
  obtain ⟨x, hx, hs⟩ := hi8
  obtain ⟨A', h1, h2⟩ := print_cut_of (P := Try.prog) (Value.int .u8) (0 : Int) 37 5 .i64 Try.underlying37 hx hs A b.length c i hi
  refine ⟨A', b.length - i, c - i, by rw [List.length_drop], by omega, h1, fun w hC => ?_⟩
  exact Kd.C_of_reads (h1 := fun _ => rfl) (h2 w b hc (Kd.reads_of_C hC))
/-- Bytes that stand where these two blocks turn. -/
def Rd (w : World) (g gp : Nat) (A : Option Addr) (b : List Int) : Prop := ∀ w', Two w w' g gp → Kd.C (Kd.int .u8) w' A b.length b
section
variable {w w1 w2 : World} {g gp : Nat} {A : Option Addr} {b : List Int} {c : Chs}
theorem Two.refl (w : World) (g gp : Nat) : Two w w g gp := ⟨⟨rfl, rfl, rfl⟩, Nat.le_refl _, fun _ _ _ _ => rfl⟩
theorem Two.trans (h : Two w w1 g gp) (h2 : Two w1 w2 g gp) : Two w w2 g gp := ⟨⟨h2.1.1.trans h.1.1, h2.1.2.1.trans h.1.2.1, h2.1.2.2.trans h.1.2.2⟩, Nat.le_trans h.2.1 h2.2.1, fun k hk h3 h4 => (h2.2.2 k (Nat.lt_of_lt_of_le hk h.2.1) h3 h4).trans (h.2.2 k hk h3 h4)⟩
theorem Two.drawn (h : Drawn0 w w1) (g gp : Nat) : Two w w1 g gp := by
  obtain ⟨q, rfl⟩ := h.out
  exact ⟨⟨rfl, rfl, rfl⟩, Nat.le_refl _, fun _ _ _ _ => rfl⟩
theorem Two.setg (w : World) (g gp j : Nat) (u : Value) : Two w (w.setCell ⟨g, j, none⟩ u) g gp := by
  have h := (Below.refl g w).setCell (p := ⟨g, j, none⟩) (Nat.le_refl _) u
  exact ⟨⟨h.os, h.tape, h.output⟩, by simp, fun k _ h1 _ => Below.heap_setCell _ _ _ _ h1⟩
theorem Two.setp (w : World) (g gp j : Nat) (u : Value) : Two w (w.setCell ⟨gp, j, none⟩ u) g gp := by
  have h := (Below.refl gp w).setCell (p := ⟨gp, j, none⟩) (Nat.le_refl _) u
  exact ⟨⟨h.os, h.tape, h.output⟩, by simp, fun k _ _ h1 => Below.heap_setCell _ _ _ _ h1⟩
theorem Two.below {base : Nat} {w0 : World} (h : Two w w1 g gp) (hB : Below base w0 w) (hs : base ≤ w.heap.size) (hg : base ≤ g) (hp : base ≤ gp) : Below base w0 w1 :=
  ⟨h.1.1.trans hB.os, h.1.2.1.trans hB.tape, h.1.2.2.trans hB.output, Nat.le_trans hB.size h.2.1, fun k hk => (h.2.2 k (by omega) (by omega) (by omega)).trans (hB.block k hk)⟩
theorem Rd.now (h : Rd w g gp A b) : Kd.C (Kd.int .u8) w A b.length b := h w (Two.refl _ _ _)
theorem Rd.next (h : Rd w g gp A b) (h2 : Two w w1 g gp) : Rd w1 g gp A b := fun w' h3 => h w' (h2.trans h3)
theorem CM.drawn {n : Nat} (h : CM w g gp c n) (h2 : Drawn0 w w1) : CM w1 g gp c n := by
  obtain ⟨q, rfl⟩ := h2.out
  exact h.drewN q
set_option maxHeartbeats 4000000 in
set_option maxRecDepth 100000 in
theorem put_any (h : CM w g gp c b.length) (cap i : Nat) (hR : Rd w g gp A b) (hcap : b.length ≤ cap) (hb : isB b) (hN : b.length ≤ 4000000) (hi : i < b.length) :
    Calls Try.prog 83 #[.pointer (some ⟨g, 0, none⟩), .slice A b.length cap, .int .i64 i] w fun e w' => e = .returned (.tuple #[]) ∧ CM w' g gp (put b c i) b.length ∧ Two w w' g gp := by
  have KH := Aside0.mk h
  have KR := Aside0.mk hR
  have Kb := Aside0.mk hb
  obtain ⟨n, hn⟩ : ∃ n, n = b.length := ⟨_, rfl⟩
  unfold Ma.put
  by_cases hlt : b.length < i + 4
  · rw [if_pos hlt]
    rw [← hn] at hlt KH hcap ⊢
    clear h hR hb hn
    go_enter Try.func83, Try.ntmps83
    go_wp2
    refine bodyPost_ret (v := .tuple #[]) (by simp [results, go_sem]) rfl ?_
    exact ⟨rfl, KH.out, Two.refl _ _ _⟩
  · rw [if_neg hlt]
    obtain ⟨A', m, c', hm, hmc, hcut, hC'⟩ := cut_tail A cap b i (by omega) hcap
    have KHs : Aside0 (∀ w1 : World, Two w w1 g gp → Calls Try.prog 87 #[.slice A' m c'] w1 fun e w' => e = .returned (.int .i64 (hs b i)) ∧ Drawn0 w1 w') := ⟨fun w1 h1 => by
      have h2 := hC' w1 (hR w1 h1)
      rw [hm] at h2 hmc ⊢
      exact hash_any w1 b i A' c' h2 hmc hb (by omega)⟩
    have hsl := hs_lt b i
    obtain ⟨k, hk⟩ : ∃ k, k = hs b i := ⟨_, rfl⟩
    rw [← hk] at KHs hsl ⊢
    have hsl2 : (k : Int) < 4096 := by omega
    have hi2 : (i : Int) < (b.length : Int) := by omega
    rw [← hn] at hcut KH hcap hlt hi hi2 hN ⊢
    clear h hR hb hm hC' hmc hn hk
    go_enter Try.func83, Try.ntmps83
    go_wp2_with (go_at_call 87; refine (KHs.out _ (Two.refl _ _ _)).mono ?_; rintro e w1 ⟨rfl, hd⟩; have KD := Aside0.mk hd; clear hcut)
    have KM1 := Aside0.mk (KH.out.drawn hd)
    obtain ⟨h0, h1⟩ := KM1.out.head hsl
    obtain ⟨h2, h3⟩ := KM1.out.prevc hi
    have h4 := KM1.out.row
    clear hd
    refine start_ (n := 13) (S := fun w' => w'.cell? ⟨g, k, none⟩ = some (.int .i64 (c.heads k : Nat)) ∧ w'.cell? ⟨g, 4096, none⟩ = some (.slice (some ⟨gp, 0, none⟩) n n) ∧ w'.cell? ⟨gp, i, none⟩ = some (.int .i64 (c.prev i : Nat)) ∧ w'.frozen? ⟨gp, i, none⟩ = false) (ds := [12]) #[false, false, false, false, false, false, false, false, false, false, false, false, false] (by kernel_rfl) rfl rfl ⟨(show w1.cell? _ = _ from h0), (show w1.cell? _ = _ from h4), (show w1.cell? _ = _ from h2), (show w1.frozen? _ = _ from h3)⟩ (fun hHeld => ?_)
    refine pure_ (i := 0) (N := some 16) (v := ?_) (a' := ?_) #[true, false, false, false, false, false, false, false, false, false, false, false, false] rfl rfl (by kernel_rfl) (fun _ _ _ h => h) (Or.inl ⟨by rfl, ?_⟩) ?_ ?_
    rotate_left
    · intro w'
      go_simp
      with_reducible rfl
    rotate_left
    · simp only [Act.put, List.setIfInBounds_toArray, List.set_cons_zero, List.set_cons_succ, i64_w, i32_w]
      rfl
    refine pure_ (i := 1) (N := some 17) (v := ?_) (a' := ?_) #[true, true, false, false, false, false, false, false, false, false, false, false, false] rfl rfl (by kernel_rfl) (fun _ _ _ h => h) (Or.inl ⟨by rfl, ?_⟩) ?_ ?_
    rotate_left
    · intro w'
      go_simp
      with_reducible rfl
    rotate_left
    · simp only [Act.put, List.setIfInBounds_toArray, List.set_cons_zero, List.set_cons_succ, i64_w, i32_w]
      rfl
    refine pure_ (i := 2) (N := some 18) (v := ?_) (a' := ?_) #[true, true, true, false, false, false, false, false, false, false, false, false, false] rfl rfl (by kernel_rfl) (fun _ _ _ h => h) (Or.inl ⟨by rfl, ?_⟩) ?_ ?_
    rotate_left
    · intro w'
      go_simp
      with_reducible rfl
    rotate_left
    · simp only [Act.put, List.setIfInBounds_toArray, List.set_cons_zero, List.set_cons_succ, i64_w, i32_w]
      rfl
    refine pure_ (i := 4) (N := some 20) (v := ?_) (a' := ?_) #[true, true, true, false, true, false, false, false, false, false, false, false, false] rfl rfl (by kernel_rfl) (fun _ _ _ h => h) (Or.inl ⟨by rfl, ?_⟩) ?_ ?_
    rotate_left
    · intro w'
      go_simp
      with_reducible rfl
    rotate_left
    · simp only [Act.put, List.setIfInBounds_toArray, List.set_cons_zero, List.set_cons_succ, i64_w, i32_w]
      rfl
    refine pure_ (i := 5) (N := some 21) (v := ?_) (a' := ?_) #[true, true, true, false, true, true, false, false, false, false, false, false, false] rfl rfl (by kernel_rfl) (fun _ _ _ h => h) (Or.inl ⟨by rfl, ?_⟩) ?_ ?_
    rotate_left
    · intro w'
      go_simp
      with_reducible rfl
    rotate_left
    · simp only [Act.put, List.setIfInBounds_toArray, List.set_cons_zero, List.set_cons_succ, i64_w, i32_w]
      rfl
    refine pure_ (i := 6) (N := some 22) (v := ?_) (a' := ?_) #[true, true, true, false, true, true, true, false, false, false, false, false, false] rfl rfl (by kernel_rfl) (fun _ _ _ h => h) (Or.inl ⟨by rfl, ?_⟩) ?_ ?_
    rotate_left
    · intro w'
      go_simp
      with_reducible rfl
    rotate_left
    · simp only [Act.put, List.setIfInBounds_toArray, List.set_cons_zero, List.set_cons_succ, i64_w, i32_w]
      rfl
    refine pure_ (i := 7) (N := some 23) (v := ?_) (a' := ?_) #[true, true, true, false, true, true, true, true, false, false, false, false, false] rfl rfl (by kernel_rfl) (fun _ _ _ h => h) (Or.inl ⟨by rfl, ?_⟩) ?_ ?_
    rotate_left
    · intro w'
      go_simp
      with_reducible rfl
    rotate_left
    · simp only [Act.put, List.setIfInBounds_toArray, List.set_cons_zero, List.set_cons_succ, i64_w, i32_w]
      rfl
    refine pure_ (i := 8) (N := some 24) (v := ?_) (a' := ?_) #[true, true, true, false, true, true, true, true, true, false, false, false, false] rfl rfl (by kernel_rfl) (fun _ _ _ h => h) (Or.inl ⟨by rfl, ?_⟩) ?_ ?_
    rotate_left
    · intro w'
      go_simp
      with_reducible rfl
    rotate_left
    · simp only [Act.put, List.setIfInBounds_toArray, List.set_cons_zero, List.set_cons_succ, i64_w, i32_w]
      rfl
    refine pure_ (i := 9) (N := some 25) (v := ?_) (a' := ?_) #[true, true, true, false, true, true, true, true, true, true, false, false, false] rfl rfl (by kernel_rfl) (fun _ _ _ h => h) (Or.inl ⟨by rfl, ?_⟩) ?_ ?_
    rotate_left
    · intro w'
      go_simp
      with_reducible rfl
    rotate_left
    · simp only [Act.put, List.setIfInBounds_toArray, List.set_cons_zero, List.set_cons_succ, i64_w, i32_w]
      rfl
    refine take_ (i := 3) (N := some 19) (v := ?_) (a' := ?_) #[true, true, true, true, true, true, true, true, true, true, false, false, false] rfl rfl (by kernel_rfl) (fun _ _ _ h => h) (Or.inl ⟨by rfl, ?_⟩) hHeld ?_ ?_
    rotate_left
    · rintro w' ⟨s0, s1, s2, s3⟩
      go_simp
      with_reducible rfl
    rotate_left
    · simp only [Act.put, List.setIfInBounds_toArray, List.set_cons_zero, List.set_cons_succ, i64_w, i32_w]
      rfl
    refine take_ (i := 10) (N := some 26) (v := ?_) (a' := ?_) #[true, true, true, true, true, true, true, true, true, true, true, false, false] rfl rfl (by kernel_rfl) (fun _ _ _ h => h) (Or.inl ⟨by rfl, ?_⟩) hHeld ?_ ?_
    rotate_left
    · rintro w' ⟨s0, s1, s2, s3⟩
      go_simp
      with_reducible rfl
    rotate_left
    · simp only [Act.put, List.setIfInBounds_toArray, List.set_cons_zero, List.set_cons_succ, i64_w, i32_w]
      rfl
    refine pure_ (i := 11) (N := some 27) (v := ?_) (a' := ?_) #[true, true, true, true, true, true, true, true, true, true, true, true, false] rfl rfl (by kernel_rfl) (fun _ _ _ h => h) (Or.inl ⟨by rfl, ?_⟩) ?_ ?_
    rotate_left
    · intro w'
      go_simp
      with_reducible rfl
    rotate_left
    · simp only [Act.put, List.setIfInBounds_toArray, List.set_cons_zero, List.set_cons_succ, i64_w, i32_w]
      rfl
    refine last_ (i := 12) (N := none) #[true, true, true, true, true, true, true, true, true, true, true, true, true] rfl rfl (by kernel_rfl) (by decide) (fun K hK => ?_)
    refine skip_ (w1 := ?_) (by rfl) rfl ?_ ?_
    rotate_left
    · go_simp
      rfl
    refine hK.out _ _ ?_
    clear hK K
    refine done_ (by kernel_rfl) ?_
    have KM2 := Aside0.mk (KM1.out.setp i (c.heads k))
    have KT1 : Aside0 (Two w w1 g gp) := ⟨Two.drawn KD.out g gp⟩
    generalize hW : World.drew _ = W
    have KM3 : Aside0 (CM W g gp ⟨c.heads, fun j => if j = i then c.heads k else c.prev j⟩ n) := ⟨by rw [← hW]; exact KM2.out.keep rfl rfl⟩
    have KT3 : Aside0 (Two w W g gp) := ⟨by rw [← hW]; exact (KT1.out.trans (Two.setp w1 g gp i _)).trans ⟨⟨rfl, rfl, rfl⟩, Nat.le_refl _, fun _ _ _ _ => rfl⟩⟩
    obtain ⟨h0, h1⟩ := KM3.out.head hsl
    clear hHeld hW
    go_wp2
    go_end0
    refine ⟨rfl, ?_, KT3.out.trans (Two.setg W g gp k _)⟩
    exact KM3.out.seth k (i + 1) hsl
end
end Go.Proofs.Ytpdggoapjbjmhaa.Ma
/- Blocks are packed: the longest copy is found: a walk. -/
set_option linter.unusedVariables false
set_option linter.unusedSimpArgs false
namespace Go.Proofs.Ytpdggoapjbjmhaa.Ma
open Go.RowKit Go.Proofs.Ytpdggoapjbjmhaa.Lz Go.Proofs.YtpdggoapjbjmhaaW.PrintWords Go.Proofs.YtpdggoapjbjmhaaW.PrintLast Go.Proofs.YtpdggoapjbjmhaaW.PrintMore
theorem fnd_stop {b : List Int} {c : Chs} {i p off m : Nat} (h : p = 0 ∨ 65535 < i - (p - 1)) : ∀ f, fnd b c i f p off m = (off, m)
  | 0 => rfl
  | f + 1 => by unfold fnd; rw [if_pos h]
theorem fnd_up {b : List Int} {c : Chs} {i p off m f x : Nat} (h : ¬ (p = 0 ∨ 65535 < i - (p - 1))) (hx : com b (p - 1) i (b.length - 5 - i) = x) (h2 : m < x) : fnd b c i (f + 1) p off m = fnd b c i f (c.prev (p - 1)) (i - (p - 1)) x := by
  rw [fnd, if_neg h, hx, if_pos h2]
theorem fnd_same {b : List Int} {c : Chs} {i p off m f x : Nat} (h : ¬ (p = 0 ∨ 65535 < i - (p - 1))) (hx : com b (p - 1) i (b.length - 5 - i) = x) (h2 : ¬ m < x) : fnd b c i (f + 1) p off m = fnd b c i f (c.prev (p - 1)) off m := by
  rw [fnd, if_neg h, hx, if_neg h2]
section
variable {w : World} {g gp : Nat} {A : Option Addr} {b : List Int} {c : Chs}
theorem drawn_trans {w w1 w2 : World} (h : Drawn0 w w1) (h2 : Drawn0 w1 w2) : Drawn0 w w2 := by
  obtain ⟨q, rfl⟩ := h2.out
  exact h.step q
/-- What find answers. -/
def FindP (w : World) (g gp : Nat) (c : Chs) (n : Nat) (r : Nat × Nat) (e : Ending) (w' : World) : Prop := e = .returned (.tuple #[.int .i64 r.1, .int .i64 r.2]) ∧ Drawn0 w w'
theorem find_end {w' : World} {i off m n : Nat} (hf : (off, m) = fnd b c i 96 (c.heads (hs b i)) 0 0) (hd : Drawn0 w w') : (m < 4 → FindP w g gp c n (find b c i) (.returned (.tuple #[.int .i64 0, .int .i64 0])) w') ∧ (¬ m < 4 → FindP w g gp c n (find b c i) (.returned (.tuple #[.int .i64 off, .int .i64 m])) w') := by
  unfold find FindP
  rw [← hf]
  exact ⟨fun h => ⟨by rw [if_pos h]; rfl, hd⟩, fun h => ⟨by rw [if_neg h], hd⟩⟩
set_option maxHeartbeats 4000000 in
set_option maxRecDepth 100000 in
theorem find_any {i : Nat} (h : CM w g gp c b.length) (hI : Inv c i) (cap : Nat) (hR : Rd w g gp A b) (hcap : b.length ≤ cap) (hb : isB b) (hN : b.length ≤ 4000000) (hi : i + 12 ≤ b.length) :
    Calls Try.prog 82 #[.pointer (some ⟨g, 0, none⟩), .slice A b.length cap, .int .i64 i] w (FindP w g gp c b.length (find b c i)) := by
  obtain ⟨A', m, c', hm, hmc, hcut, hC'⟩ := cut_tail A cap b i (by omega) hcap
  have KHs : Aside0 (∀ w1 : World, Two w w1 g gp → Calls Try.prog 87 #[.slice A' m c'] w1 fun e w' => e = .returned (.int .i64 (hs b i)) ∧ Drawn0 w1 w') := ⟨fun w1 h1 => by
    have h2 := hC' w1 (hR w1 h1)
    rw [hm] at h2 hmc ⊢
    exact hash_any w1 b i A' c' h2 hmc hb (by omega)⟩
  have KCo : Aside0 (∀ (w1 : World) (p : Nat), Two w w1 g gp → p ≤ i → Calls Try.prog 88 #[.slice A b.length cap, .int .i64 p, .int .i64 i, .int .i64 ((b.length - 5 : Nat) : Int)] w1 fun en w' => en = .returned (.int .i64 (com b p i (b.length - 5 - i))) ∧ Drawn0 w1 w') := ⟨fun w1 p h1 hp => common_any w1 b A cap p i (b.length - 5) (hR w1 h1) hcap hN (by omega) hp (by omega)⟩
  have KH := Aside0.mk h
  have KI := Aside0.mk hI
  have hsl := hs_lt b i
  obtain ⟨k, hk⟩ : ∃ k, k = hs b i := ⟨_, rfl⟩
  have KE : Aside0 (∀ (off m : Nat) (w' : World), (off, m) = fnd b c i 96 (c.heads k) 0 0 → Drawn0 w w' → _) := ⟨fun off m w' hf hd => find_end (g := g) (gp := gp) (n := b.length) (hk ▸ hf) hd⟩
  rw [← hk] at KHs hsl
  have hsl2 : (k : Int) < 4096 := by omega
  obtain ⟨h0, h1⟩ := KH.out.head hsl
  obtain ⟨n, hn⟩ : ∃ n, n = b.length := ⟨_, rfl⟩
  have Kn := Aside0.mk hn
  rw [← hn] at hcut KH KCo hcap hi hN KE ⊢
  have hh0 := hI.heads k
  have hi5 : (n : Int) - 5 = ((n - 5 : Nat) : Int) := by omega
  obtain ⟨e5, he5⟩ : ∃ e5, e5 = n - 5 := ⟨_, rfl⟩
  rw [← he5] at KCo hi5
  have Ke5 := Aside0.mk he5
  obtain ⟨p0, hp0⟩ : ∃ p0, p0 = c.heads k := ⟨_, rfl⟩
  rw [← hp0] at h0 hh0 KE
  clear h hI hR hb hm hC' hmc hn hk h1 he5 hp0
  go_enter Try.func82, Try.ntmps82
  go_wp2
  go_quiet ((go_at_call 87; exact Calls.quiet_of ((KHs.out _ (Two.drawn (Drawn0.step (Drawn0.refl _) _) g gp)).mono fun _ _ hq => ⟨hq.1, hq.2.out⟩)))
  have hd0 : Drawn0 w (w.drewN nq) := Drawn0.step (Drawn0.refl _) _
  have KD0 := Aside0.mk hd0
  clear hd0 h0 hcut
  go_wp2
  go_loopw [6, 7, 9, 23] (fun u6 u7 u9 u23 wr => ∃ t p off m0 : Nat, t ≤ 96 ∧ u23 = .int .i64 t ∧ u9 = .int .i64 p ∧ u6 = .int .i64 off ∧ u7 = .int .i64 m0 ∧ p ≤ i ∧ Aside0 (fnd b c i (96 - t) p off m0 = fnd b c i 96 p0 0 0) ∧ Aside0 (Drawn0 w wr)) (fun _ _ _ u23 _ => 96 - (intOf u23).toNat)
  case atStart => exact ⟨0, p0, 0, 0, by omega, rfl, rfl, rfl, rfl, hh0, ⟨rfl⟩, KD0⟩
  case round =>
    obtain ⟨t, p, off, m0, ht, rfl, rfl, rfl, rfl, hp, KF0, KD1⟩ := hrel
    by_cases hlt : t < 96
    · by_cases hp0 : p = 0
      · subst hp0
        have KF : (off, m0) = fnd b c i 96 p0 0 0 := by rw [← KF0.out, fnd_stop (Or.inl rfl)]
        have KF := Aside0.mk KF
        by_cases h4 : m0 < 4
        · go_wp2
          go_ret2
          exact (KE.out off m0 _ KF.out KD1.out).1 h4
        · go_wp2
          go_ret2
          exact (KE.out off m0 _ KF.out KD1.out).2 h4
      · obtain ⟨q, hq⟩ : ∃ q, p = q + 1 := ⟨p - 1, by omega⟩
        subst hq
        have hpe : (((q : Int) + 1) == 0) = false := by simp; omega
        have hq1 : ((q + 1 : Nat) : Int) - 1 = (q : Int) := by omega
        have hq2 : (i : Int) - (q : Int) = ((i - q : Nat) : Int) := by omega
        by_cases hfar : 65535 < i - q
        · have KF : (off, m0) = fnd b c i 96 p0 0 0 := by rw [← KF0.out, fnd_stop (Or.inr (by rw [Nat.add_sub_cancel]; exact hfar))]
          have KF := Aside0.mk KF
          have hfar2 : decide ((65535 : Int) < ((i - q : Nat) : Int)) = true := decide_eq_true (by omega)
          by_cases h4 : m0 < 4
          · go_wp2
            go_ret2
            exact (KE.out off m0 _ KF.out KD1.out).1 h4
          · go_wp2
            go_ret2
            exact (KE.out off m0 _ KF.out KD1.out).2 h4
        · have hfar3 : ¬ (q + 1 = 0 ∨ 65535 < i - (q + 1 - 1)) := by omega
          have hfar2 : decide ((65535 : Int) < ((i - q : Nat) : Int)) = false := decide_eq_false (by omega)
          obtain ⟨x, hx0⟩ : ∃ x, com b q i (e5 - i) = x := ⟨_, rfl⟩
          have hx : com b q i (b.length - 5 - i) = x := by rw [← hx0, Ke5.out, Kn.out]
          have KC1 := Aside0.mk (KCo.out wr q (Two.drawn KD1.out g gp) (by omega))
          rw [hx0] at KC1
          have hqi : c.prev q ≤ i := by have := KI.out.prev q; omega
          have hqn : q < n := by omega
          have hqn2 : (q : Int) < (n : Int) := by omega
          obtain ⟨f, hf⟩ : ∃ f, 96 - t = f + 1 := ⟨95 - t, by omega⟩
          have hf2 : Aside0 (96 - (t + 1) = f) := ⟨by omega⟩
          by_cases hmx : m0 < x
          · have KF : Aside0 (fnd b c i f (c.prev q) (i - q) x = fnd b c i 96 p0 0 0) := ⟨by rw [← KF0.out, hf, fnd_up hfar3 hx hmx]; rfl⟩
            obtain ⟨pq, hpq⟩ : ∃ pq, c.prev q = pq := ⟨_, rfl⟩
            rw [hpq] at KF hqi
            have Kpq := Aside0.mk hpq
            clear hx hx0 hf hfar3 hpq
            go_wp2_with (go_at_call 88; refine KC1.out.mono ?_; rintro e w2 ⟨rfl, hd⟩; have KD2 : Aside0 (Drawn0 w w2) := ⟨drawn_trans KD1.out hd⟩; have hc0 := ((KH.out.drawn KD2.out).prevc hqn).1; have hc1 := (KH.out.drawn KD2.out).row; rw [Kpq.out] at hc0; clear hd)
            exact ⟨⟨t + 1, pq, i - q, x, by omega, by go_num, rfl, by go_num, rfl, hqi, ⟨by rw [hf2.out]; exact KF.out⟩, KD2⟩, by simp [intOf]; omega⟩
          · have KF : Aside0 (fnd b c i f (c.prev q) off m0 = fnd b c i 96 p0 0 0) := ⟨by rw [← KF0.out, hf, fnd_same hfar3 hx hmx]; rfl⟩
            obtain ⟨pq, hpq⟩ : ∃ pq, c.prev q = pq := ⟨_, rfl⟩
            rw [hpq] at KF hqi
            have Kpq := Aside0.mk hpq
            clear hx hx0 hf hfar3 hpq
            go_wp2_with (go_at_call 88; refine KC1.out.mono ?_; rintro e w2 ⟨rfl, hd⟩; have KD2 : Aside0 (Drawn0 w w2) := ⟨drawn_trans KD1.out hd⟩; have hc0 := ((KH.out.drawn KD2.out).prevc hqn).1; have hc1 := (KH.out.drawn KD2.out).row; rw [Kpq.out] at hc0; clear hd)
            exact ⟨⟨t + 1, pq, off, m0, by omega, by go_num, rfl, rfl, rfl, hqi, ⟨by rw [hf2.out]; exact KF.out⟩, KD2⟩, by simp [intOf]; omega⟩
    · obtain rfl : t = 96 := by omega
      have KF : (off, m0) = fnd b c i 96 p0 0 0 := by rw [← KF0.out]; rfl
      have KF := Aside0.mk KF
      by_cases h4 : m0 < 4
      · go_wp2
        go_ret2
        exact (KE.out off m0 _ KF.out KD1.out).1 h4
      · go_wp2
        go_ret2
        exact (KE.out off m0 _ KF.out KD1.out).2 h4
end
end Go.Proofs.Ytpdggoapjbjmhaa.Ma
/- Blocks are packed: a text's sequences: a walk. -/
set_option linter.unusedVariables false
set_option linter.unusedSimpArgs false
namespace Go.Proofs.Ytpdggoapjbjmhaa.Ma
open Go.RowKit Go.Proofs.Ytpdggoapjbjmhaa.Lz Go.Proofs.YtpdggoapjbjmhaaW.PrintWords Go.Proofs.YtpdggoapjbjmhaaW.PrintLast Go.Proofs.YtpdggoapjbjmhaaW.PrintMore
theorem chs_zero : Try.zeroCells132 = (List.replicate 4096 (Value.int .i64 0) ++ [Value.slice none 0 0]).toArray := by kernel_rfl
theorem row_at {α : Type} (N : Nat) (x v : α) : (∀ h, h < N → ((List.replicate N x ++ [v]).toArray)[h]? = some x) ∧ ((List.replicate N x ++ [v]).toArray)[N]? = some v := by
  refine ⟨fun h hh => ?_, ?_⟩
  · rw [List.getElem?_toArray, List.getElem?_append_left (by simpa using hh), List.getElem?_replicate, if_pos hh]
  · rw [List.getElem?_toArray, List.getElem?_append_right (by simp)]
    simp
theorem row_set {α : Type} (N : Nat) (x y v : α) (a : Array α) (ha : a = (List.replicate N x ++ [y]).toArray) : (∀ h, h < N → (a.setIfInBounds N v)[h]? = some x) ∧ (a.setIfInBounds N v)[N]? = some v := by
  have h1 := row_at N x y
  rw [← ha] at h1
  refine ⟨fun h hh => ?_, ?_⟩
  · rw [Array.getElem?_setIfInBounds_ne (by omega)]
    exact h1.1 h hh
  · exact Array.getElem?_setIfInBounds_self_of_lt (Array.getElem?_eq_some_iff.1 h1.2).1
theorem chs_at (v : Value) : (∀ h, h < 4096 → (Try.zeroCells132.setIfInBounds 4096 v)[h]? = some (.int .i64 0)) ∧ (Try.zeroCells132.setIfInBounds 4096 v)[4096]? = some v := row_set 4096 _ _ v _ chs_zero
theorem made_at (n q : Nat) (hq : q < n) : (madeCells #[Value.int .i64 0] n)[q]? = some (.int .i64 0) := by
  rw [Array.getElem?_eq_getElem (by simp [size_madeCells]; exact hq)]
  simp [madeCells, Nat.mod_one]
theorem info8 : ∃ x, Try.prog.info? 5 = some x ∧ x.size = 1 := by
  have h : (Try.prog.info? 5).map (·.size) = some 1 := by kernel_rfl
  cases hx : Try.prog.info? 5 with
  | none => rw [hx] at h; simp at h
  | some x => rw [hx] at h; exact ⟨x, rfl, by simpa using h⟩
/-- The bytes from a place to another. -/
theorem cut_mid2 (A : Option Addr) (c : Nat) (b : List Int) (p q : Nat) (hp : p ≤ q) (hq : q ≤ b.length) (hc : b.length ≤ c) :
    ∃ (A' : Option Addr) (m c' : Nat), ((b.drop p).take (q - p)).length = m ∧ m ≤ c' ∧ (∀ W : World, (Instr.slice 37 (.slice A b.length c) (some (.int .i64 (p : Int))) (some (.int .i64 (q : Int))) none).run Try.prog W = .ok (.slice A' m c') W) ∧ ∀ w : World, Kd.C (Kd.int .u8) w A b.length b → Kd.C (Kd.int .u8) w A' ((b.drop p).take (q - p)).length ((b.drop p).take (q - p)) := by
  obtain ⟨x, hx, hs⟩ := info8
  have e : (b.take q).drop p = (b.drop p).take (q - p) := by rw [List.drop_take]
  obtain ⟨A', h1, h2, h3⟩ := print_mid_of (P := Try.prog) (Value.int .u8) (0 : Int) 37 5 .i64 .i64 Try.underlying37 hx hs A c b (p : Int) (q : Int) (by omega) (by omega) (by omega) hc
  simp only [Int.toNat_natCast, e] at h1 h2 h3
  exact ⟨A', _, c - p, rfl, h3, h1, fun w hC => Kd.C_of_reads (h1 := fun _ => rfl) (h2 w (Kd.reads_of_C hC))⟩
theorem puts_snoc (b : List Int) : ∀ (j : Nat) (c : Chs) (i : Nat), puts b c i (j + 1) = put b (puts b c i j) (i + j)
  | 0, _, _ => rfl
  | j + 1, c, i => by
    have h := puts_snoc b j (put b c i) (i + 1)
    rw [show i + 1 + j = i + (j + 1) by omega] at h
    exact h
/-- What stands at the head of the loop. -/
structure SI (w : World) (b : List Int) (g gp : Nat) (wr : World) (u : Value) (acc : List Sq) (c : Chs) (i from_ f : Nat) : Prop where
  cm : CM wr g gp c b.length
  inv : Inv c i
  row : RowL w w.heap.size wr u acc
  below : Below w.heap.size w wr
  cnt : acc.length ≤ from_
  fuel : b.length < i + f
  eq : sqs b = acc ++ seqs b f c i from_
section
variable {w w1 wr : World} {b : List Int} {g gp : Nat} {A : Option Addr} {u : Value} {acc : List Sq} {c : Chs} {i from_ f : Nat}
theorem rd_of (hC : Kd.C (Kd.int .u8) w A b.length b) (hB : Below w.heap.size w w1) (hg : w.heap.size ≤ g) (hp : w.heap.size ≤ gp) : Rd w1 g gp A b := fun w' h2 =>
  (Kd.heap_int .u8).C (fun k hk => (h2.2.2 k (Nat.lt_of_lt_of_le hk hB.size) (by omega) (by omega)).trans (hB.block k hk)) hC
theorem row_two (h : RowL w w.heap.size wr u acc) (hc : CM wr g gp c b.length) (h2 : Two wr w1 g gp) : RowL w w.heap.size w1 u acc := by
  refine h.frame fun k hk => ?_
  have hlt := h.lt k hk
  obtain ⟨cells, h1, -⟩ := h
  obtain ⟨cs, hg, -⟩ := hc.blk
  obtain ⟨ps, hp, -⟩ := hc.prv
  have n1 : some g ≠ u.ownBlock := own_ne h1 hg (by decide)
  have n2 : some gp ≠ u.ownBlock := own_ne h1 hp (by decide)
  exact h2.2.2 k hlt (fun e => n1 (by rw [hk, e])) (fun e => n2 (by rw [hk, e]))
end
set_option maxHeartbeats 4000000 in
set_option maxRecDepth 100000 in
theorem sequences_any (w : World) (b : List Int) (A : Option Addr) (cap : Nat) (hC : Kd.C (Kd.int .u8) w A b.length b) (hcap : b.length ≤ cap) (hb : isB b) (hN : b.length ≤ 1048576) :
    Calls Try.prog 77 #[.slice A b.length cap] w fun e w' => ∃ v, e = .returned v ∧ RowL w w.heap.size w' v (sqs b) ∧ Below w.heap.size w w' := by
  have KC : Aside0 (∀ w', Below w.heap.size w w' → Kd.C (Kd.int .u8) w' A b.length b) := ⟨fun w' hB => Kd.C_below hC hB⟩
  have KC0 := Aside0.mk hC
  have Kb := Aside0.mk hb
  have hmk := print_make (P := Try.prog) 32 3 .i64 8 Try.underlying32 (by kernel_rfl) (by decide) b.length (by omega)
  have KI0 : Aside0 (SI w b (w.heap.size + 1) w.heap.size ((w.alloc (.cells (madeCells #[.int .i64 0] b.length) 3)).alloc (.cells (Try.zeroCells132.setIfInBounds 4096 (.slice (some ⟨w.heap.size, 0, none⟩) b.length b.length)) 132)) (.slice none 0 0) [] chs0 0 0 (b.length + 1)) := ⟨by
    have h1 := heap_alloc_new w (.cells (madeCells #[.int .i64 0] b.length) 3)
    have h2 := heap_alloc_new (w.alloc (.cells (madeCells #[.int .i64 0] b.length) 3)) (.cells (Try.zeroCells132.setIfInBounds 4096 (.slice (some ⟨w.heap.size, 0, none⟩) b.length b.length)) 132)
    have hb1 := below_alloc (Below.refl _ w) (.cells (madeCells #[.int .i64 0] b.length) 3)
    have hb2 := below_alloc (Below.refl _ (w.alloc (.cells (madeCells #[.int .i64 0] b.length) 3))) (.cells (Try.zeroCells132.setIfInBounds 4096 (.slice (some ⟨w.heap.size, 0, none⟩) b.length b.length)) 132)
    have hs : (w.alloc (.cells (madeCells #[.int .i64 0] b.length) 3)).heap.size = w.heap.size + 1 := by simp
    rw [hs] at h2
    exact ⟨⟨⟨_, h2, fun h hh => (chs_at _).1 h hh, (chs_at _).2⟩, ⟨_, blk_below h1 hb2, fun q hq => made_at _ q hq⟩⟩, Inv.zero, RowL.nil _ _ _, below_then hb1 hb1.size hb2, Nat.le_refl _, by omega, rfl⟩⟩
  obtain ⟨n, hn⟩ : ∃ n, n = b.length := ⟨_, rfl⟩
  rw [← hn] at hcap hN hmk KI0 ⊢
  have Kn := Aside0.mk hn
  clear hC hb hn
  go_enter Try.func77, Try.ntmps77
  go_wp2
  go_loopw [4, 5, 6] (fun u4 u5 u6 wr => ∃ (acc : List Sq) (c : Chs) (i from_ f : Nat) (A9 : Option Addr) (c9 : Nat), u6 = .int .i64 i ∧ u5 = .int .i64 from_ ∧ u4 = .slice A9 acc.length c9 ∧ from_ ≤ i ∧ i ≤ n ∧ Aside0 (SI w b (w.heap.size + 1) w.heap.size wr (.slice A9 acc.length c9) acc c i from_ f)) (fun _ _ u6 _ => n - (intOf u6).toNat)
  case atStart => exact ⟨[], chs0, 0, 0, n + 1, none, 0, rfl, rfl, rfl, Nat.le_refl _, Nat.zero_le _, KI0⟩
  case round =>
    obtain ⟨acc, c, i, from_, f, A9, c9, rfl, rfl, rfl, hfi, hin, KI⟩ := hrel
    obtain ⟨la, hla⟩ : ∃ la, la = acc.length := ⟨_, rfl⟩
    rw [← hla] at KI ⊢
    have Kla := Aside0.mk hla
    have hlb : la ≤ 1048576 := by have := KI.out.cnt; omega
    clear hla
    have hsz := KI.out.below.size
    have KRd : Aside0 (Rd wr (w.heap.size + 1) w.heap.size A b) := ⟨rd_of KC0.out KI.out.below (by omega) (Nat.le_refl _)⟩
    by_cases h12 : i + 12 ≤ n
    · have KF := Aside0.mk (find_any KI.out.cm KI.out.inv cap KRd.out (by rw [← Kn.out]; exact hcap) Kb.out (by rw [← Kn.out]; omega) (by rw [← Kn.out]; exact h12))
      rw [← Kn.out] at KF
      obtain ⟨f1, hf1⟩ : ∃ f1, f = f1 + 1 := ⟨f - 1, by have := KI.out.fuel; have := Kn.out; omega⟩
      subst hf1
      obtain ⟨⟨off, m⟩, hom⟩ : ∃ r, find b c i = r := ⟨_, rfl⟩
      rw [hom] at KF
      have Kom := Aside0.mk hom
      clear hom
      by_cases hm0 : m = 0
      · subst hm0
        have hit : i < n := by omega
        have KP : Aside0 (∀ w1 : World, CM w1 (w.heap.size + 1) w.heap.size c n → Rd w1 (w.heap.size + 1) w.heap.size A b → Calls Try.prog 83 #[.pointer (some ⟨w.heap.size + 1, 0, none⟩), .slice A n cap, .int .i64 i] w1 fun e w' => e = .returned (.tuple #[]) ∧ CM w' (w.heap.size + 1) w.heap.size (put b c i) n ∧ Two w1 w' (w.heap.size + 1) w.heap.size) := ⟨fun w1 h1 h2 => by
          have hN' := hN
          rw [Kn.out] at h1 hcap hit ⊢
          exact put_any h1 cap i h2 hcap Kb.out (by rw [← Kn.out]; omega) hit⟩
        go_wp2_with (go_at_call 82; refine KF.out.mono ?_; rintro e w1 ⟨rfl, hd⟩; have KD := Aside0.mk hd; clear hd; apply Aside0.out)
        refine ⟨?_⟩
        have KM1 := Aside0.mk (KI.out.cm.drawn KD.out)
        rw [← Kn.out] at KM1
        have KT1 : Aside0 (Two wr w1 (w.heap.size + 1) w.heap.size) := ⟨Two.drawn KD.out _ _⟩
        go_wp2_with (go_at_call 83; refine (KP.out w1 KM1.out (KRd.out.next KT1.out)).mono ?_; rintro e w2 ⟨rfl, hM2, hT2⟩; have KM2 := Aside0.mk hM2; have KT2 := Aside0.mk hT2; clear hM2 hT2)
        refine ⟨⟨acc, put b c i, i + 1, from_, f1, A9, c9, by go_num, rfl, by rw [Kla.out], by omega, by omega, ⟨?_⟩⟩, by simp [intOf]; omega⟩
        have hT := KT1.out.trans KT2.out
        refine ⟨by rw [← Kn.out]; exact KM2.out, KI.out.inv.put b, ?_, hT.below KI.out.below KI.out.below.size (by omega) (Nat.le_refl _), KI.out.cnt, by have := KI.out.fuel; omega, ?_⟩
        · rw [← Kla.out]
          exact row_two KI.out.row KI.out.cm hT
        · have h := KI.out.eq
          rw [seqs, if_pos (by rw [← Kn.out]; exact h12), Kom.out, if_pos rfl] at h
          exact h
      · have hI := KI.out.inv
        have hfs := find_spec (b := b) hI (by rw [Kom.out]; exact hm0)
        rw [Kom.out] at hfs
        simp only at hfs
        rw [← Kn.out] at hfs
        obtain ⟨g1, g2, g3, g4, g5, -⟩ := hfs
        have hm0e : ((m : Int) == 0) = false := by simp; omega
        have KP : Aside0 (∀ (w1 : World) (c1 : Chs) (i1 : Nat), i1 < n → CM w1 (w.heap.size + 1) w.heap.size c1 n → Rd w1 (w.heap.size + 1) w.heap.size A b → Calls Try.prog 83 #[.pointer (some ⟨w.heap.size + 1, 0, none⟩), .slice A n cap, .int .i64 i1] w1 fun e w' => e = .returned (.tuple #[]) ∧ CM w' (w.heap.size + 1) w.heap.size (put b c1 i1) n ∧ Two w1 w' (w.heap.size + 1) w.heap.size) := ⟨fun w1 c1 i1 hi1 h1 h2 => by
          have hN' := hN
          rw [Kn.out] at h1 hcap hi1 ⊢
          exact put_any h1 cap i1 h2 hcap Kb.out (by rw [← Kn.out]; omega) hi1⟩
        obtain ⟨AL, nn, cL, hnn, hncL, hcut, hCL⟩ := cut_mid2 A cap b from_ i hfi (by rw [← Kn.out]; exact hin) (by rw [← Kn.out]; exact hcap)
        rw [← Kn.out] at hcut
        have Knn := Aside0.mk hnn
        have KCL : Aside0 (∀ w', Below w.heap.size w w' → Kd.C (Kd.int .u8) w' AL ((b.drop from_).take (i - from_)).length ((b.drop from_).take (i - from_))) := ⟨fun w' hB => hCL w' (KC.out w' hB)⟩
        clear hnn hCL hI hm0
        go_wp2_with (go_at_call 82; refine KF.out.mono ?_; rintro e w1 ⟨rfl, hd⟩; have KD := Aside0.mk hd; clear hd; apply Aside0.out)
        refine ⟨?_⟩
        have KM1 := Aside0.mk (KI.out.cm.drawn KD.out)
        have KT1 : Aside0 (Two wr w1 (w.heap.size + 1) w.heap.size) := ⟨Two.drawn KD.out _ _⟩
        have KR1 := Aside0.mk (row_two KI.out.row KI.out.cm KT1.out)
        have KB1 := Aside0.mk (KT1.out.below KI.out.below KI.out.below.size (by omega) (Nat.le_refl _))
        go_wp2_with ((with_reducible refine gate_builtin (b := .append) (xs := #[.tmp 34, .tmp 42]) rfl ?_); apply Aside0.out)
        refine ⟨?_⟩
        obtain ⟨cells, hcells, hsc⟩ := KR1.out
        have hla := Kla.out
        rw [← hla] at hcells
        refine print_append_cells (w0 := w) (W := w1) w.heap.size rfl (.tmp 34) (.tmp 42) 98 114 (.agg #[.slice none 0 0, .int .i64 0, .int .i64 0]) 3 40 rfl Try.underlying98 infoSeq rfl (by decide) (by decide) (.slice A9 la c9) la cells [.slice AL nn cL, .int .i64 off, .int .i64 m] rfl rfl rfl (by simp [Value.oneCell']) hcells KB1.out KB1.out.size (by omega) ?_
        intro v5 w5 h5 hb5 hg5 hat5
        obtain ⟨A5, c55, rfl⟩ := row_slice h5
        have hl5 : (acc ++ [((b.drop from_).take (i - from_), (off : Int), (m : Int))]).length = la + 1 := by rw [List.length_append, ← hla]; rfl
        have KR5 : Aside0 (RowL w w.heap.size w5 (.slice A5 (la + 1) c55) (acc ++ [((b.drop from_).take (i - from_), (off : Int), (m : Int))])) := ⟨RowL_snoc hsc Knn.out KCL.out hncL (by rw [← hla]; exact h5)⟩
        have KM5 : Aside0 (CM w5 (w.heap.size + 1) w.heap.size c n) := ⟨by
          have hM := KM1.out
          rw [← Kn.out] at hM
          obtain ⟨cs, hg, -⟩ := hM.blk
          obtain ⟨ps, hp, -⟩ := hM.prv
          exact hM.keep (hg5.block _ hM.lt.1 (own_ne hcells hg (by decide))) (hg5.block _ hM.lt.2 (own_ne hcells hp (by decide)))⟩
        have Kb5 := Aside0.mk hb5
        have Kl5 := Aside0.mk hl5
        clear h5 hb5 hg5 hat5 hsc hcells hla hcut hl5
        go_wp2
        go_loopw [6, 45] (fun u6 u45 wq => ∃ j : Nat, j ≤ m ∧ u45 = .int .i64 j ∧ u6 = .int .i64 ((i + j : Nat) : Int) ∧ Aside0 (CM wq (w.heap.size + 1) w.heap.size (puts b c i j) n) ∧ Aside0 (RowL w w.heap.size wq (.slice A5 (la + 1) c55) (acc ++ [((b.drop from_).take (i - from_), (off : Int), (m : Int))])) ∧ Aside0 (Below w.heap.size w wq)) (fun _ u45 _ => m - (intOf u45).toNat)
        case atStart => exact ⟨0, Nat.zero_le _, rfl, rfl, KM5, KR5, Kb5⟩
        case round =>
          obtain ⟨j, hj, rfl, rfl, KM6, KR6, KB6⟩ := hrel
          by_cases hjm : j < m
          · have hij : i + j < n := by omega
            obtain ⟨i2, hi2⟩ : ∃ i2, i2 = i + j := ⟨_, rfl⟩
            rw [← hi2] at hij ⊢
            have Ki2 := Aside0.mk hi2
            clear hi2
            have KRd6 : Aside0 (Rd wr (w.heap.size + 1) w.heap.size A b) := ⟨rd_of KC0.out KB6.out (by omega) (Nat.le_refl _)⟩
            go_wp2_with (go_at_call 83; refine (KP.out wr (puts b c i j) i2 hij KM6.out KRd6.out).mono ?_; rintro e w7 ⟨rfl, hM7, hT7⟩; have KM7 := Aside0.mk hM7; have KT7 := Aside0.mk hT7; clear hM7 hT7)
            refine ⟨⟨j + 1, by omega, by go_num, by rw [← Nat.add_assoc, ← Ki2.out]; go_num, ⟨by rw [puts_snoc, ← Ki2.out]; exact KM7.out⟩, ⟨row_two KR6.out (by rw [← Kn.out]; exact KM6.out) KT7.out⟩, ⟨KT7.out.below KB6.out KB6.out.size (by omega) (Nat.le_refl _)⟩⟩, by simp [intOf]; omega⟩
          · obtain rfl : j = m := by omega
            go_wp2
            refine ⟨⟨acc ++ [((b.drop from_).take (i - from_), (off : Int), (j : Int))], puts b c i j, i + j, i + j, f1, A5, c55, rfl, rfl, by rw [Kl5.out], Nat.le_refl _, by omega, ⟨?_⟩⟩, by simp [intOf]; omega⟩
            refine ⟨by rw [← Kn.out]; exact KM6.out, KI.out.inv.puts j, by rw [Kl5.out]; exact KR6.out, KB6.out, ?_, by have := KI.out.fuel; omega, ?_⟩
            · have := KI.out.cnt
              rw [List.length_append]
              simp only [List.length_singleton]
              omega
            · have h := KI.out.eq
              rw [seqs, if_pos (by rw [← Kn.out]; exact h12), Kom.out, if_neg (by simp only; omega)] at h
              rw [h, List.append_assoc]
              rfl
    · obtain ⟨f1, hf1⟩ : ∃ f1, f = f1 + 1 := ⟨f - 1, by have := KI.out.fuel; have := Kn.out; omega⟩
      subst hf1
      have KE : Aside0 (sqs b = acc ++ [(b.drop from_, 0, 0)]) := ⟨by
        have h := KI.out.eq
        rw [seqs, if_neg (by rw [← Kn.out]; exact h12)] at h
        exact h⟩
      obtain ⟨AL, nn, cL, hnn, hncL, hcut, hCL⟩ := cut_tail A cap b from_ (by rw [← Kn.out]; omega) (by rw [← Kn.out]; exact hcap)
      rw [← Kn.out] at hcut
      have Knn := Aside0.mk hnn
      have KCL : Aside0 (∀ w', Below w.heap.size w w' → Kd.C (Kd.int .u8) w' AL (b.drop from_).length (b.drop from_)) := ⟨fun w' hB => by rw [← Knn.out]; exact hCL w' (KC.out w' hB)⟩
      clear hnn hCL
      go_wp2_with ((with_reducible refine gate_builtin (b := .append) (xs := #[.tmp 55, .tmp 60]) rfl ?_); apply Aside0.out)
      refine ⟨?_⟩
      obtain ⟨cells, hcells, hsc⟩ := KI.out.row
      have hla := Kla.out
      rw [← hla] at hcells
      refine print_append_cells (w0 := w) (W := wr) w.heap.size rfl (.tmp 55) (.tmp 60) 98 114 (.agg #[.slice none 0 0, .int .i64 0, .int .i64 0]) 3 40 rfl Try.underlying98 infoSeq rfl (by decide) (by decide) (.slice A9 la c9) la cells [.slice AL nn cL, .int .i64 0, .int .i64 0] rfl rfl rfl (by simp [Value.oneCell']) hcells KI.out.below KI.out.below.size (by omega) ?_
      intro v5 w5 h5 hb5 hg5 hat5
      obtain ⟨A5, c55, rfl⟩ := row_slice h5
      have KR5 : Aside0 (RowL w w.heap.size w5 (.slice A5 (la + 1) c55) (acc ++ [(b.drop from_, 0, 0)])) := ⟨RowL_snoc hsc Knn.out.symm KCL.out hncL (by rw [← hla]; exact h5)⟩
      have Kb5 := Aside0.mk hb5
      clear h5 hb5 hg5 hat5 hsc hcells hla hcut
      go_wp2
      go_ret
      exact ⟨_, rfl, by rw [KE.out]; exact KR5.out, Kb5.out⟩
end Go.Proofs.Ytpdggoapjbjmhaa.Ma
/- Blocks are packed: how long one may be; a text's block: walks. -/
set_option linter.unusedVariables false
set_option linter.unusedSimpArgs false
namespace Go.Proofs.Ytpdggoapjbjmhaa.Ma
open Go.RowKit Go.Proofs.Ytpdggoapjbjmhaa.Lz Go.Proofs.YtpdggoapjbjmhaaW.PrintWords Go.Proofs.YtpdggoapjbjmhaaW.PrintLast Go.Proofs.YtpdggoapjbjmhaaW.PrintMore
theorem bound_any (n : Int) (hn : n ≤ 9223372036854775807) (w : World) : Calls Try.prog 78 #[.int .i64 n] w fun e w' => e = .returned (.int .i64 (bound n)) ∧ w = w' := by
  unfold bound
  by_cases h1 : n < 0 ∨ 1048576 < n
  · rw [if_pos h1]
    have h2 : n < 0 ∨ (0 ≤ n ∧ 1048576 < n) := by omega
    clear h1 hn
    rcases h2 with h | ⟨h, h2⟩
    all_goals
      go_enter Try.func78, Try.ntmps78
      go_wp2
      go_ret
      exact ⟨rfl, rfl⟩
  · rw [if_neg h1]
    have h2 : 0 ≤ n := by omega
    have h3 : n ≤ 1048576 := by omega
    clear h1 hn
    by_cases h4 : n < 15
    · rw [if_pos h4]
      go_enter Try.func78, Try.ntmps78
      go_wp2
      go_ret
      exact ⟨rfl, rfl⟩
    · rw [if_neg h4]
      have h5 : 15 ≤ n := by omega
      go_enter Try.func78, Try.ntmps78
      go_wp2
      go_ret
      exact ⟨rfl, rfl⟩
theorem lit1S {w : World} {A : Option Addr} {c : Nat} {l : List Int} (hC : Kd.C (Kd.int .u8) w A l.length l) (hc : l.length ≤ c) : Kd.C kS (w.alloc (.cells #[.slice A l.length c, .int .i64 0, .int .i64 0] 114)) (some ⟨w.heap.size, 0, none⟩) 1 [(l, 0, 0)] := by
  have hb := heap_alloc_new w (.cells #[.slice A l.length c, .int .i64 0, .int .i64 0] 114)
  refine ⟨rfl, by decide, fun _ => ⟨_, rfl, fun j p hj => ?_⟩⟩
  have hc2 := Kd.C_below hC (below_alloc (Below.refl _ _) (.cells #[.slice A l.length c, .int .i64 0, .int .i64 0] 114))
  match j, hj with
  | 0, hj =>
    obtain rfl : (l, (0 : Int), (0 : Int)) = p := by simpa using hj
    refine ⟨[.slice A l.length c, .int .i64 0, .int .i64 0], rfl, ⟨[_], [_, _], rfl, ⟨_, _, rfl, hc, hc2⟩, ⟨[_], [_], rfl, rfl, rfl⟩⟩, fun i u hu => ?_⟩
    rw [add_plain, cell_of_row _ _ _ _ _ _ hb]
    match i, hu with
    | 0, hu => exact hu
    | 1, hu => exact hu
    | 2, hu => exact hu
    | i + 3, hu => simp at hu
  | j + 1, hj => simp at hj
theorem sub_isB {b : List Int} (hb : isB b) {p q : Nat} : isB ((b.drop p).take q) := fun x hx => hb x (List.mem_of_mem_drop (List.mem_of_mem_take hx))
theorem told_fine {b : List Int} {l : List Sq} {f : Nat} (h : Told b l f) (hb : isB b) (hN : b.length ≤ 1048576) : Fine l := fun s hs => by
  obtain ⟨p, q, hp⟩ := h.sub s hs
  obtain ⟨h1, h2, h3, h4, h5⟩ := h.bds s hs
  exact ⟨by omega, by rw [hp]; exact sub_isB hb, ⟨by omega, by omega⟩, ⟨by omega, by omega⟩⟩
theorem one_told {b : List Int} (hb : b.length ≤ 1048576) : RightL 0 [(b, 0, 0)] := by
  refine ⟨?_, trivial⟩
  unfold wrongP
  rw [if_neg (by simp), if_neg (by simp), if_neg (by simp; omega)]
set_option maxHeartbeats 4000000 in
set_option maxRecDepth 100000 in
theorem encode_any (w : World) (b : List Int) (A : Option Addr) (cap : Nat) (hC : Kd.C (Kd.int .u8) w A b.length b) (hcap : b.length ≤ cap) (hb : isB b) (hN : b.length ≤ 1048576) :
    Calls Try.prog 65 #[.slice A b.length cap] w fun e w' => ∃ v, e = .returned (.tuple #[v, .int .i64 0]) ∧ Row.OwnB w' w.heap.size v (enc b) ∧ Below w.heap.size w w' := by
  have KC : Aside0 (∀ w', Below w.heap.size w w' → Kd.C (Kd.int .u8) w' A b.length b) := ⟨fun w' hB => Kd.C_below hC hB⟩
  have hT := sqs_told hN
  have KS := Aside0.mk (sequences_any w b A cap hC hcap hb hN)
  have KJ : Aside0 (∀ (w1 : World) (A1 : Option Addr) (c1 : Nat), Kd.C kS w1 A1 (sqs b).length (sqs b) → (sqs b).length ≤ c1 → Calls Try.prog 76 #[.slice A1 (sqs b).length c1] w1 fun e w' => ∃ v, e = .returned (.tuple #[v, .int .i64 0]) ∧ Row.OwnB w' w1.heap.size v (segs (sqs b)) ∧ Below w1.heap.size w1 w') := ⟨fun w1 A1 c1 h1 h2 => by
    have h := join_any w1 (sqs b) A1 c1 h1 h2 (told_fine hT hb hN) (by have := hT.cnt; omega)
    rw [joinA_right hT.ne hT.right] at h
    exact h⟩
  have KB := Aside0.mk (fun w1 => bound_any (b.length : Int) (by omega) w1)
  have KJ1 : Aside0 (∀ (w1 : World) (A1 : Option Addr), Kd.C kS w1 A1 1 [(b, 0, 0)] → Calls Try.prog 76 #[.slice A1 1 1] w1 fun e w' => ∃ v, e = .returned (.tuple #[v, .int .i64 0]) ∧ Row.OwnB w' w1.heap.size v (segs [(b, 0, 0)]) ∧ Below w1.heap.size w1 w') := ⟨fun w1 A1 h1 => by
    have h := join_any w1 [(b, 0, 0)] A1 1 h1 (Nat.le_refl _) (fun s hs => by rw [List.mem_singleton.1 hs]; exact ⟨by simp only; omega, hb, ⟨by simp only; omega, by simp only; omega⟩, ⟨by simp only; omega, by simp only; omega⟩⟩) (by simp)
    rw [joinA_right (by simp) (one_told hN)] at h
    exact h⟩
  obtain ⟨bd, hbd⟩ : ∃ bd, bd = bound b.length := ⟨_, rfl⟩
  rw [← hbd] at KB
  have Kbd := Aside0.mk hbd
  obtain ⟨n, hn⟩ : ∃ n, n = b.length := ⟨_, rfl⟩
  rw [← hn] at hcap hN KB KS KC ⊢
  have Kn := Aside0.mk hn
  have hNi : (n : Int) ≤ 1048576 := by omega
  clear hC hb hn hT hbd
  go_enter Try.func65, Try.ntmps65
  go_wp2_with (go_at_call 77; apply Aside0.out)
  refine ⟨?_⟩
  refine KS.out.mono ?_
  rintro e w1 ⟨v1, rfl, hR, hB⟩
  obtain ⟨A1, c1, rfl, hle1, hC1⟩ := RowL_C hR hB
  have KB1 := Aside0.mk hB
  have KJ := Aside0.mk (KJ.out w1 A1 c1 hC1 hle1)
  clear hR hB hC1 hle1
  go_wp2_with (go_at_call 76; apply Aside0.out)
  refine ⟨?_⟩
  refine KJ.out.mono ?_
  rintro e w2 ⟨v2, rfl, hO, hB⟩
  obtain ⟨A2, c2, rfl, -, -⟩ := hO.slice
  obtain ⟨x, hx⟩ : ∃ x, x = (segs (sqs b)).length := ⟨_, rfl⟩
  rw [← hx] at hO ⊢
  have KB2 := Aside0.mk (below_then KB1.out KB1.out.size hB)
  have KO2 := Aside0.mk (hO.lower KB1.out.size)
  have Kx := Aside0.mk hx
  clear hO hB hx
  by_cases hbig : bd < (x : Int)
  · have KE : Aside0 (enc b = segs [(b, 0, 0)]) := ⟨by unfold enc; rw [← Kbd.out, ← Kx.out, if_pos hbig]⟩
    have KL := Aside0.mk (lit1S (by rw [← Kn.out]; exact KC.out w2 KB2.out) (by rw [← Kn.out]; exact hcap))
    rw [← Kn.out] at KL
    go_wp2_with (first | (go_at_call 78; refine (KB.out _).mono ?_; rintro e w' ⟨rfl, rfl⟩) | (go_at_call 76; apply Aside0.out))
    refine ⟨?_⟩
    refine (KJ1.out _ _ KL.out).mono ?_
    rintro e w3 ⟨v3, rfl, hO, hB⟩
    obtain ⟨A3, c3, rfl, -, -⟩ := hO.slice
    have hb3 := below_alloc (Below.refl _ w2) (.cells #[.slice A n cap, .int .i64 0, .int .i64 0] 114)
    have KB3 := Aside0.mk (below_then KB2.out KB2.out.size (hb3.trans (hB.mono hb3.size)))
    have KO3 := Aside0.mk (hO.lower (Nat.le_trans KB2.out.size hb3.size))
    clear hO hB hb3
    go_wp2
    go_ret2
    exact ⟨_, rfl, by rw [KE.out]; exact KO3.out, KB3.out⟩
  · have KE : Aside0 (enc b = segs (sqs b)) := ⟨by unfold enc; rw [← Kbd.out, ← Kx.out, if_neg hbig]⟩
    go_wp2_with (go_at_call 78; refine (KB.out _).mono ?_; rintro e w' ⟨rfl, rfl⟩)
    go_ret2
    exact ⟨_, rfl, by rw [KE.out]; exact KO2.out, KB2.out⟩
end Go.Proofs.Ytpdggoapjbjmhaa.Ma
