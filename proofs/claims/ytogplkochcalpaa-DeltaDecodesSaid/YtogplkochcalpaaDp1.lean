/- Deltas: what the document's Store, Crc, Load, as printed, come to: plain. -/
import Derived.Test.YtogplkochcalpaaPDg
import Derived.Test.YtogplkochcalpaaDA
set_option linter.unusedVariables false
set_option linter.unusedSimpArgs false
namespace Go.Proofs.Ytogplkochcalpaa.De
open Go.RowKit Go.Proofs.Ytogplkochcalpaa.PD Go.Proofs.Ytogplkochcalpaa.Fd Go.Proofs.Ytogplkochcalpaa.Bg Go.Proofs.YtogplkochcalpaaW.PrintWords Go.Proofs.YtogplkochcalpaaW.PrintLast Go.Proofs.YtogplkochcalpaaW.PrintMore
theorem nat_tdiv (x k : Nat) : Int.tdiv (x : Int) (k : Int) = ((x / k : Nat) : Int) := by rw [Int.tdiv_eq_ediv_of_nonneg (by omega)]; rfl
theorem nat_tmod (x k : Nat) : Int.tmod (x : Int) (k : Int) = ((x % k : Nat) : Int) := by rw [Int.tmod_eq_emod_of_nonneg (by omega)]; rfl
theorem w64_nat (x : Nat) (h : x < 9223372036854775808) : wrap64 (x : Int) = (x : Int) := by unfold wrap64; omega
theorem store_l0 (n w : Nat) (hw : w ≤ 8) (hn : n < 18446744073709551616) : ∀ j i k : Nat, i + j = w → j < k → portmanteauref01_Store.l0 k ((n / 2 ^ (8 * i) : Nat) : Int) (w : Int) (le n i) (i : Int) = some (le n w)
  | 0, i, k + 1, hi, hk => by
    obtain rfl : i = w := by omega
    rw [portmanteauref01_Store.l0, if_neg (by omega)]
  | j + 1, i, k + 1, hi, hk => by
    have hx : n / 2 ^ (8 * i) < 18446744073709551616 := Nat.lt_of_le_of_lt (Nat.div_le_self _ _) hn
    have e1 : IntKind.u64.wrap (Int.tdiv ((n / 2 ^ (8 * i) : Nat) : Int) 256) = ((n / 2 ^ (8 * (i + 1)) : Nat) : Int) := by
      have hle : n / 2 ^ (8 * (i + 1)) ≤ n := Nat.div_le_self _ _
      rw [show (256 : Int) = ((256 : Nat) : Int) from rfl, nat_tdiv, div_pow]
      generalize n / 2 ^ (8 * (i + 1)) = y at hle ⊢
      exact u64_small _ (by omega) (by omega)
    have e2 : le n i ++ [Int.tmod ((n / 2 ^ (8 * i) : Nat) : Int) 256 % 256] = le n (i + 1) := by
      rw [show (256 : Int) = ((256 : Nat) : Int) from rfl, nat_tmod, le]
      congr 2
      omega
    have e3 : wrap64 ((i : Int) + 1) = ((i + 1 : Nat) : Int) := w64_nat (i + 1) (by omega)
    rw [portmanteauref01_Store.l0, if_pos (by omega), if_pos (by rw [le_length]; omega), e1, e2, e3]
    exact store_l0 n w hw hn j (i + 1) k (by omega) (by omega)
theorem store_f (n w k : Nat) (hw : w ≤ 8) (hn : n < 18446744073709551616) (hk : 9 ≤ k) : portmanteauref01_Store.f k (n : Int) (w : Int) = some (le n w) := by
  have h := store_l0 n w hw hn w 0 k (by omega) (by omega)
  rw [Nat.mul_zero, Nat.pow_zero, Nat.div_one] at h
  exact h
theorem store_fI (n : Int) (w k : Nat) (h0 : 0 ≤ n) (hw : w ≤ 8) (hn : n < 18446744073709551616) (hk : 9 ≤ k) : portmanteauref01_Store.f k n (w : Int) = some (le n.toNat w) := by
  have h := store_f n.toNat w k hw (by omega) hk
  rwa [Int.toNat_of_nonneg h0] at h
theorem entry_l0 : ∀ j s k : Nat, j ≤ 8 → j < k → s < 4294967296 → portmanteauref02_Entry.l0 k (s : Int) ((8 - j : Nat) : Int) = some ((Crc.iter j s : Nat) : Int)
  | 0, s, k + 1, hj, hk, hs => by rw [portmanteauref02_Entry.l0, if_neg (by omega)]; rfl
  | j + 1, s, k + 1, hj, hk, hs => by
    have e3 : wrap64 (((8 - (j + 1) : Nat) : Int) + 1) = ((8 - j : Nat) : Int) := by unfold wrap64; omega
    have ed : (Int.tdiv (s : Int) 2) % 4294967296 = (s : Int) / 2 := by
      rw [Int.tdiv_eq_ediv_of_nonneg (by omega)]; omega
    have em : Int.tmod (s : Int) 2 = (s : Int) % 2 := Int.tmod_eq_emod_of_nonneg (by omega)
    rw [portmanteauref02_Entry.l0, if_pos (by omega), e3, ed, em, Crc.iter_succ]
    by_cases ho : s % 2 = 1
    · rw [if_pos (by omega), Bits.stepM_odd s hs ho]
      exact entry_l0 j (Crc.M s) k (by omega) (by omega) (Crc.M_lt s hs)
    · rw [if_neg (by omega), Bits.stepM_even s ho]
      exact entry_l0 j (Crc.M s) k (by omega) (by omega) (Crc.M_lt s hs)
theorem entry_f (s k : Nat) (hs : s < 4294967296) (hk : 9 ≤ k) : portmanteauref02_Entry.f k (s : Int) = some ((Crc.iter 8 s : Nat) : Int) := entry_l0 8 s k (by omega) (by omega) hs
theorem crc_l0 (l : List Int) (hl : ∀ x ∈ l, 0 ≤ x ∧ x < 256) (hm : l.length ≤ 140737488351232) : ∀ j i s k : Nat, i + j = l.length → j + 10 ≤ k → s < 4294967296 → portmanteauref02_Crc.l0 k (s : Int) l (i : Int) = some ((4294967295 - Crc.run s ((l.drop i).map Int.toNat) : Nat) : Int) := by
  intro j
  induction j with
  | zero =>
    intro i s k hi hk hs
    obtain ⟨k, rfl⟩ : ∃ k', k = k' + 1 := ⟨k - 1, by omega⟩
    rw [portmanteauref02_Crc.l0, if_neg (by omega), List.drop_of_length_le (by omega)]
    show some ((4294967295 - (s : Int)) % 4294967296) = some ((4294967295 - s : Nat) : Int)
    congr 1; omega
  | succ j ih =>
    intro i s k hi hk hs
    obtain ⟨k, rfl⟩ : ∃ k', k = k' + 1 := ⟨k - 1, by omega⟩
    have c1 : (i : Int) < (l.length : Int) := by omega
    have c2 : 0 ≤ (i : Int) := by omega
    have c3 : i + 1 + j = l.length := by omega
    have c4 : j + 10 ≤ k := by omega
    have c5 : 9 ≤ k := by omega
    have hx := hl l[i] (List.getElem_mem _)
    have hr : rd l (i : Int) = l[i] := by
      unfold rd
      rw [Int.toNat_natCast, List.getD_eq_getElem?_getD, List.getElem?_eq_getElem (by omega)]
      rfl
    obtain ⟨x, hxe⟩ := Int.eq_ofNat_of_zero_le hx.1
    have hx2 : x < 256 := by omega
    have e1 : Go.bits .xor .u32 (Int.tmod (s : Int) 256) ((rd l (i : Int)) % 4294967296) = ((s % 256 ^^^ x : Nat) : Int) := by
      rw [hr, hxe, Int.tmod_eq_emod_of_nonneg (by omega), show ((x : Int) % 4294967296) = (x : Int) by omega]
      exact Bits.xor32 s x hx2
    have e2 : Go.bits .xor .u32 ((Int.tdiv (s : Int) 256) % 4294967296) ((Crc.iter 8 (s % 256 ^^^ x) : Nat) : Int) = ((Crc.step s x : Nat) : Int) := by
      rw [Int.tdiv_eq_ediv_of_nonneg (by omega), show ((s : Int) / 256 % 4294967296) = (s : Int) / 256 by omega]
      exact Bits.step32 s x hs hx2
    have e3 : wrap64 ((i : Int) + 1) = ((i + 1 : Nat) : Int) := w64_nat (i + 1) (by clear e1 e2; omega)
    have hd : l.drop i = l[i] :: l.drop (i + 1) := List.drop_eq_getElem_cons (by clear e1 e2; omega)
    have hx8 := Bits.xor8_lt s x hx2
    have e5 := entry_f (s % 256 ^^^ x) k (Nat.lt_trans hx8 (by decide)) c5
    rw [portmanteauref02_Crc.l0, if_pos c1, if_pos c2, e1, e5, Option.bind_some, e2, e3, ih (i + 1) (Crc.step s x) k c3 c4 (Bits.step_lt s x hs hx2), hd, List.map_cons, hxe]
    rfl
theorem crc_f (l : List Int) (hl : ∀ x ∈ l, 0 ≤ x ∧ x < 256) (hm : l.length ≤ 140737488351232) (k : Nat) (hk : l.length + 10 ≤ k) : portmanteauref02_Crc.f k 0 l = some ((Sum.crc 0 l : Nat) : Int) := by
  have h := crc_l0 l hl hm l.length 0 4294967295 k (by omega) hk (by omega)
  rw [List.drop_zero] at h
  unfold portmanteauref02_Crc.f Sum.crc
  rw [show ((4294967295 - 0) % 4294967296 : Int) = ((4294967295 : Nat) : Int) by omega, Nat.sub_zero]
  exact h
theorem load_l0 (l : List Int) (hl : ∀ x ∈ l, 0 ≤ x ∧ x < 256) (at_ w : Nat) (hw : w ≤ 8) (hm : at_ + w ≤ l.length) (hb : l.length ≤ 140737488351232) : ∀ j k : Nat, j ≤ w → j < k → portmanteauref01_Load.l0 k l (at_ : Int) ((rdN l (at_ + j) (w - j) : Nat) : Int) ((j : Int) - 1) = some ((rdN l at_ w : Nat) : Int)
  | 0, k + 1, hj, hk => by rw [portmanteauref01_Load.l0, if_neg (by omega)]; rfl
  | j + 1, k + 1, hj, hk => by
    have hx := hl l[at_ + j] (List.getElem_mem _)
    have hr : rd l ((at_ + j : Nat) : Int) = l[at_ + j] := by
      unfold rd
      rw [Int.toNat_natCast, List.getD_eq_getElem?_getD, List.getElem?_eq_getElem (by omega)]
      rfl
    have ei : wrap64 ((at_ : Int) + (((j + 1 : Nat) : Int) - 1)) = ((at_ + j : Nat) : Int) := by unfold wrap64; omega
    have ej : wrap64 (((j + 1 : Nat) : Int) - 1 - 1) = (j : Int) - 1 := by unfold wrap64; omega
    have hd : (l.drop (at_ + j)).take (w - j) = l[at_ + j] :: (l.drop (at_ + (j + 1))).take (w - (j + 1)) := by
      rw [List.drop_eq_getElem_cons (by omega), show w - j = (w - (j + 1)) + 1 by omega, List.take_succ_cons]; rfl
    have hv : rdN l (at_ + j) (w - j) = (l[at_ + j]).toNat + 256 * rdN l (at_ + (j + 1)) (w - (j + 1)) := by
      unfold rdN
      rw [hd]; rfl
    have hlt : rdN l (at_ + j) (w - j) < 18446744073709551616 := Nat.lt_of_lt_of_le (rdN_lt hl (at_ + j) (w - j) (by omega)) (pow_le8 (show w - j ≤ 8 by omega))
    have ev : IntKind.u64.wrap ((IntKind.u64.wrap (((rdN l (at_ + (j + 1)) (w - (j + 1)) : Nat) : Int) * 256)) + (IntKind.u64.wrap (rd l ((at_ + j : Nat) : Int)))) = ((rdN l (at_ + j) (w - j) : Nat) : Int) := by
      rw [hr, u64_small (((rdN l (at_ + (j + 1)) (w - (j + 1)) : Nat) : Int) * 256) (by omega) (by omega), u64_small l[at_ + j] hx.1 (by omega), u64_small _ (by omega) (by omega)]
      omega
    rw [portmanteauref01_Load.l0, if_pos (by omega), ei, if_pos (by omega), if_pos (by omega), ev, ej]
    exact load_l0 l hl at_ w hw hm hb j k (by omega) (by omega)
theorem load_f (l : List Int) (hl : ∀ x ∈ l, 0 ≤ x ∧ x < 256) (at_ w : Nat) (hw : w ≤ 8) (hm : at_ + w ≤ l.length) (hb : l.length ≤ 140737488351232) (k : Nat) (hk : 9 ≤ k) : portmanteauref01_Load.f k l (at_ : Int) (w : Int) = some ((rdN l at_ w : Nat) : Int) := by
  have h := load_l0 l hl at_ w hw hm hb w k (by omega) (by omega)
  rw [Nat.sub_self] at h
  unfold portmanteauref01_Load.f
  rw [show wrap64 ((w : Int) - 1) = (w : Int) - 1 by unfold wrap64; omega]
  exact h
theorem str_iff (l m : List Int) (hl : ∀ x ∈ l, 0 ≤ x ∧ x < 256) (hm : ∀ x ∈ m, 0 ≤ x ∧ x < 256) : (strOfNums l).toList = (strOfNums m).toList ↔ l = m := by
  have h := Eq_.str_eq l m hl hm
  rw [Bool.eq_iff_iff] at h
  simpa using h
end Go.Proofs.Ytogplkochcalpaa.De
