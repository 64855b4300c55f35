/- Streams in chunks: a stream's chunks tell the stream: plain; the page's example; the same chunks: walks. -/
import Derived.Test.YtpdggoapjbjmhaaMe7
import Derived.Test.YtpdggoapjbjmhaaKB
import Derived.Lib.Bytes
set_option linter.unusedVariables false
set_option linter.unusedSimpArgs false
namespace Go.Proofs.Ytpdggoapjbjmhaa.Me
open Go.RowKit Go.Proofs.Ytpdggoapjbjmhaa.Fd Go.Proofs.Ytpdggoapjbjmhaa.Bg Go.Proofs.Ytpdggoapjbjmhaa.Lz Go.Proofs.Ytpdggoapjbjmhaa.Ma Go.Proofs.Ytpdggoapjbjmhaa.Bk Go.Proofs.YtpdggoapjbjmhaaW.PrintWords Go.Proofs.YtpdggoapjbjmhaaW.PrintLast Go.Proofs.YtpdggoapjbjmhaaW.PrintMore
theorem dtm_unp {p : List Int} (hp : isB p) (hN : p.length ≤ 8192) (x : Nat) : unp (dtm p x) (pkm p x) p.length = (p, 0) := by
  have h := pack_back hp (Nat.le_trans hN (by decide)) x
  unfold dtm
  cases hk : pkm p x with
  | true =>
    have hw : Wo.worth p.length (enc p).length x = true := by unfold pkm at hk; exact (Bool.and_eq_true _ _ ▸ hk).1
    have e : packP p x = enc p := by unfold packP; rw [hw]; rfl
    rw [if_pos rfl]
    rw [hw, e] at h
    exact h
  | false =>
    rw [if_neg (by decide)]
    unfold unp
    rw [if_neg (by decide), if_neg (by omega), if_neg (by omega)]
theorem dtm_isB {p : List Int} (hp : isB p) (hN : p.length ≤ 8192) (x : Nat) : isB (dtm p x) := by
  unfold dtm
  split
  · exact enc_isB hp (Nat.le_trans hN (by decide))
  · exact hp
theorem dtm_pos {p : List Int} (hp : isB p) (hN : p.length ≤ 8192) (x : Nat) (h : 1 ≤ p.length) : 1 ≤ (dtm p x).length := by
  unfold dtm
  split
  · exact enc_pos hp (Nat.le_trans hN (by decide)) (fun e => by rw [e] at h; exact absurd h (by decide))
  · exact h
theorem dtm_same {p : List Int} {x : Nat} (h : pkm p x = false) : dtm p x = p := by unfold dtm; rw [h]; rfl
theorem one_isB {p : List Int} (hp : isB p) (hN : p.length ≤ 8192) (x : Nat) : isB (one p x) := isB_app (isB_app (isB_app (le_isB _ _) (le_isB _ _)) (le_isB _ _)) (dtm_isB hp hN x)
theorem encM_isB {b : List Int} (hb : isB b) (x : Nat) : ∀ k, isB (encM b x k)
  | 0 => fun y hy => by cases hy
  | k + 1 => isB_app (encM_isB hb x k) (one_isB (piece_isB hb k) (piece_len b k) x)
theorem encM_split (b : List Int) (x : Nat) : ∀ n k, k < n → ∃ rest, encM b x n = encM b x k ++ one (piece b k) x ++ rest
  | n + 1, k, h => by
    by_cases hk : k < n
    · obtain ⟨rest, hr⟩ := encM_split b x n k hk
      exact ⟨rest ++ one (piece b n) x, by rw [encM, hr]; simp only [List.append_assoc]⟩
    · obtain rfl : k = n := by omega
      exact ⟨[], by rw [encM, List.append_nil]⟩
/-- The head of a piece. -/
def hd (b : List Int) (x k : Nat) : Ck := ⟨((encM b x k).length : Int), ((piece b k).length : Int), ((dtm (piece b k) x).length : Int), pkm (piece b k) x, ((Sum.crc 0 (dtm (piece b k) x) : Nat) : Int)⟩
theorem piece_length (b : List Int) (k : Nat) (h : k < cnt b.length) : ((piece b k).length : Int) = min ((b.length : Int) - 8192 * k) 8192 ∧ 1 ≤ (piece b k).length := by
  unfold cnt at h
  have e : (piece b k).length = min (b.length - 8192 * k) 8192 := by unfold piece; rw [List.length_take, List.length_drop, Nat.min_comm]
  omega
theorem encM_next (b : List Int) (x k : Nat) : (encM b x (k + 1)).length = (encM b x k).length + 8 + (dtm (piece b k) x).length := by
  rw [encM, List.length_append, one_len _ _ (piece_len b k)]
  omega
theorem encM_mono (b : List Int) (x k : Nat) : ∀ j, (encM b x k).length ≤ (encM b x (k + j)).length
  | 0 => Nat.le_refl _
  | j + 1 => by
    have h := encM_mono b x k j
    have h2 := encM_next b x (k + j)
    rw [← Nat.add_assoc]
    omega
theorem hd_rgt {b : List Int} (hb : isB b) (x k : Nat) (h : k < cnt b.length) : rgt (hd b x k) = true := by
  obtain ⟨h1, h2⟩ := piece_length b k h
  have h3 := piece_len b k
  have h4 := (dtm_len (piece b k) x h3).1
  have h5 := dtm_pos (piece_isB hb k) h3 x h2
  refine (rgt_iff _).2 ⟨by show (0 : Int) ≤ ((encM b x k).length : Int); omega, by show (1 : Int) ≤ ((piece b k).length : Int); omega, by show ((piece b k).length : Int) ≤ 8192; omega, by show (1 : Int) ≤ ((dtm (piece b k) x).length : Int); omega, by show ((dtm (piece b k) x).length : Int) ≤ 8192; omega, ?_⟩
  show pkm (piece b k) x = true ∨ ((piece b k).length : Int) = ((dtm (piece b k) x).length : Int)
  cases hk : pkm (piece b k) x with
  | true => exact Or.inl rfl
  | false => exact Or.inr (by rw [dtm_same hk])
/-- The heads lie where they are looked for. -/
theorem chk_enc {b : List Int} (hb : isB b) (x n k : Nat) (h : k < n) : chk (encM b x n) ((encM b x k).length : Int) = hd b x k := by
  obtain ⟨rest, hr⟩ := encM_split b x n k h
  have h3 := piece_len b k
  have h4 := (dtm_len (piece b k) x h3).1
  have hst : (dtm (piece b k) x).length + (if pkm (piece b k) x = true then 0 else 32768) < 65536 := by split <;> omega
  have hone : one (piece b k) x = le (piece b k).length 2 ++ le ((dtm (piece b k) x).length + if pkm (piece b k) x = true then 0 else 32768) 2 ++ le (Sum.crc 0 (dtm (piece b k) x)) 4 ++ dtm (piece b k) x := rfl
  have e1 : rdN (encM b x n) (encM b x k).length 2 = (piece b k).length := rd_mid (encM b x k) (le ((dtm (piece b k) x).length + if pkm (piece b k) x = true then 0 else 32768) 2 ++ le (Sum.crc 0 (dtm (piece b k) x)) 4 ++ dtm (piece b k) x ++ rest) _ 2 _ rfl (lt16n (by omega)) _ (by rw [hr, hone]; simp only [List.append_assoc])
  have e2 : rdN (encM b x n) ((encM b x k).length + 2) 2 = (dtm (piece b k) x).length + (if pkm (piece b k) x = true then 0 else 32768) := rd_mid (encM b x k ++ le (piece b k).length 2) (le (Sum.crc 0 (dtm (piece b k) x)) 4 ++ dtm (piece b k) x ++ rest) _ 2 _ (by rw [List.length_append, le_length]) (lt16n hst) _ (by rw [hr, hone]; simp only [List.append_assoc])
  have e3 : rdN (encM b x n) ((encM b x k).length + 4) 4 = Sum.crc 0 (dtm (piece b k) x) := rd_mid (encM b x k ++ le (piece b k).length 2 ++ le ((dtm (piece b k) x).length + if pkm (piece b k) x = true then 0 else 32768) 2) (dtm (piece b k) x ++ rest) _ 4 _ (by rw [List.length_append, List.length_append, le_length, le_length]) (lt32n (crc_lt _)) _ (by rw [hr, hone]; simp only [List.append_assoc])
  unfold chk hd
  rw [Int.toNat_natCast, e1, e2, e3]
  cases hk : pkm (piece b k) x with
  | true =>
    rw [if_pos rfl, Nat.add_zero, decide_eq_true (by omega), show ((dtm (piece b k) x).length : Int) % 32768 = ((dtm (piece b k) x).length : Int) by omega]
  | false =>
    rw [if_neg (by decide), decide_eq_false (by omega), show (((dtm (piece b k) x).length + 32768 : Nat) : Int) % 32768 = ((dtm (piece b k) x).length : Int) by omega]
theorem chs_enc {b : List Int} (hb : isB b) (x : Nat) : ∀ (j k f : Nat) (sz : Int), k + j = cnt b.length → j < f → sz = max 0 ((b.length : Int) - 8192 * k) → chs (encM b x (cnt b.length)) ((encM b x (cnt b.length)).length : Int) f ((encM b x k).length : Int) sz = ((List.range' k j).map (hd b x), 0)
  | 0, k, f + 1, sz, h1, h2, h3 => by
    have hk : k = cnt b.length := by omega
    rw [chs, if_pos (by unfold cnt at hk; omega), if_pos (by rw [hk])]
    rfl
  | j + 1, k, f + 1, sz, h1, h2, h3 => by
    have hk : k < cnt b.length := by omega
    obtain ⟨g1, g2⟩ := piece_length b k hk
    have g3 := encM_next b x k
    have g4 := encM_mono b x (k + 1) j
    rw [show k + 1 + j = cnt b.length by omega] at g4
    have hsz : sz = (b.length : Int) - 8192 * k := by unfold cnt at hk; omega
    have hsz0 : 0 < sz := by unfold cnt at hk; omega
    rw [chs, if_neg (by omega), if_neg (by omega), chk_enc hb x _ k hk]
    have e1 : (hd b x k).f1 = ((piece b k).length : Int) := rfl
    have e2 : (hd b x k).f2 = ((dtm (piece b k) x).length : Int) := rfl
    rw [if_pos ⟨hd_rgt hb x k hk, by rw [e1, g1, hsz], by rw [e2]; omega⟩, e2, show ((encM b x k).length : Int) + 8 + ((dtm (piece b k) x).length : Int) = ((encM b x (k + 1)).length : Int) by omega, chs_enc hb x j (k + 1) f _ (by omega) (by omega) (by omega)]
    unfold cns
    rw [if_pos rfl]
    rfl
def heads (b : List Int) (x : Nat) : List Ck := (List.range' 0 (cnt b.length)).map (hd b x)
theorem encM_ge (b : List Int) (x : Nat) : ∀ k, k ≤ (encM b x k).length
  | 0 => Nat.le_refl _
  | k + 1 => by have h := encM_ge b x k; have h2 := encM_next b x k; omega
theorem chunks_enc {b : List Int} (hb : isB b) (hn : b.length ≤ 40000) (x : Nat) : chunks (encM b x (cnt b.length)) 0 ((encM b x (cnt b.length)).length : Int) (b.length : Int) = (heads b x, 0) := by
  unfold chunks
  have h := chs_enc hb x (cnt b.length) 0 ((encM b x (cnt b.length)).length + 1) (b.length : Int) (by omega) (by have := encM_ge b x (cnt b.length); omega) (by omega)
  rw [if_neg (by omega)]
  exact h
theorem heads_len (b : List Int) (x : Nat) : (heads b x).length = cnt b.length := by unfold heads; rw [List.length_map, List.length_range']
theorem cut_enc {b : List Int} (x n k : Nat) (h : k < n) : cutx (encM b x n) (((encM b x k).length : Int) + 8) ((dtm (piece b k) x).length : Int) = dtm (piece b k) x := by
  obtain ⟨rest, hr⟩ := encM_split b x n k h
  unfold cutx
  rw [show (((encM b x k).length : Int) + 8).toNat = (encM b x k).length + 8 by omega, Int.toNat_natCast, hr]
  have e : encM b x k ++ one (piece b k) x ++ rest = (encM b x k ++ (le (piece b k).length 2 ++ le ((dtm (piece b k) x).length + if pkm (piece b k) x = true then 0 else 32768) 2 ++ le (Sum.crc 0 (dtm (piece b k) x)) 4)) ++ (dtm (piece b k) x ++ rest) := by
    unfold one
    simp only [List.append_assoc]
  rw [e, List.drop_left' (by simp only [List.length_append, le_length]), List.take_left' rfl]
theorem chunk_enc {b : List Int} (hb : isB b) (x n k : Nat) (h : k < n) (hn : n = cnt b.length) : chunk (encM b x n) (hd b x k) = (piece b k, 0) := by
  unfold chunk
  have h3 := piece_len b k
  have hr := hd_rgt hb x k (by omega)
  have g3 := encM_next b x k
  have g4 := encM_mono b x (k + 1) (n - (k + 1))
  rw [show k + 1 + (n - (k + 1)) = n by omega] at g4
  have hu := dtm_unp (piece_isB hb k) h3 x
  rw [hr, if_neg (by decide)]
  have e0 : (hd b x k).f0 = ((encM b x k).length : Int) := rfl
  have e1 : (hd b x k).f1 = ((piece b k).length : Int) := rfl
  have e2 : (hd b x k).f2 = ((dtm (piece b k) x).length : Int) := rfl
  have e3 : (hd b x k).f3 = pkm (piece b k) x := rfl
  have e4 : (hd b x k).f4 = ((Sum.crc 0 (dtm (piece b k) x) : Nat) : Int) := rfl
  rw [e0, e1, e2, e3, e4, cut_enc x n k h, hu, if_neg (by omega), if_neg (by simp), if_neg (by simp)]
theorem dcs_enc {b : List Int} (hb : isB b) (x : Nat) : ∀ (j k : Nat), k + j = cnt b.length → dcs (encM b x (cnt b.length)) ((List.range' k j).map (hd b x)) = (b.drop (8192 * k), 0)
  | 0, k, h => by
    rw [List.drop_eq_nil_of_le (by unfold cnt at h; omega)]
    rfl
  | j + 1, k, h => by
    have e : (List.range' k (j + 1)).map (hd b x) = hd b x k :: (List.range' (k + 1) j).map (hd b x) := rfl
    rw [e, dcs, chunk_enc hb x _ k (by omega) rfl, dcs_enc hb x j (k + 1) (by omega), if_neg (by simp), if_neg (by simp)]
    show (piece b k ++ b.drop (8192 * (k + 1)), (0 : Int)) = _
    unfold piece
    rw [show 8192 * (k + 1) = 8192 * k + 8192 by omega, ← List.drop_drop, List.take_append_drop]
theorem decode_enc {b : List Int} (hb : isB b) (hn : b.length ≤ 40000) (x : Nat) : decode (encM b x (cnt b.length)) 0 ((encM b x (cnt b.length)).length : Int) (b.length : Int) = (b, 0) := by
  unfold decode
  rw [chunks_enc hb hn x, if_neg (by simp)]
  exact dcs_enc hb x (cnt b.length) 0 (by omega)
theorem encM_bound (b : List Int) (x : Nat) : ∀ k, (encM b x k).length ≤ (b.take (8192 * k)).length + 42 * k
  | 0 => Nat.zero_le _
  | k + 1 => by
    have h := encM_bound b x k
    have h2 := encM_next b x k
    have h3 := (dtm_len (piece b k) x (piece_len b k)).2
    have e : (piece b k).length = min 8192 (b.length - 8192 * k) := by unfold piece; rw [List.length_take, List.length_drop]
    rw [List.length_take] at h ⊢
    omega
theorem num_any (n : Int) (w : World) : Calls Try.prog 32 #[.int .i64 n] w fun e w' => e = .returned (.int .i64 n) ∧ w = w' := by
  go_enter Try.func32, Try.ntmps32
  go_wp2
  go_ret
  exact ⟨rfl, rfl⟩
theorem enc_live : encM [1, 2, 3] 0 (cnt 3) = [3, 0, 3, 128, 29, 128, 188, 85, 1, 2, 3] := by kernel_rfl
theorem live_enc (w : World) : Calls Try.prog 29 #[.slice (some ⟨w.heap.size, 0, none⟩) 3 3, .float .f64 0] (w.alloc (.cells #[.int .u8 1, .int .u8 2, .int .u8 3] 5)) fun e w' => ∃ A c, e = .returned (.tuple #[.slice A 11 c, .int .i64 0]) ∧ Kd.C (Kd.int .u8) w' A 11 [3, 0, 3, 128, 29, 128, 188, 85, 1, 2, 3] ∧ Below w.heap.size w w' := by
  have h := encode_any (w.alloc (.cells #[.int .u8 1, .int .u8 2, .int .u8 3] 5)) [1, 2, 3] (some ⟨w.heap.size, 0, none⟩) 3 0 (lit_cells _ _ _ _ (heap_alloc_new _ _) [1, 2, 3] rfl (by decide)) (by decide) (by unfold isB; decide) (by decide)
  have e3 : ([1, 2, 3] : List Int).length = 3 := rfl
  rw [e3, enc_live] at h
  refine h.mono ?_
  rintro e w' ⟨v, rfl, hO, hB⟩
  obtain ⟨A, c, rfl, -, hC⟩ := hO.slice
  exact ⟨A, c, rfl, hC, below_then (below_alloc (Below.refl w.heap.size w) _) (by simp) hB⟩
set_option maxRecDepth 100000 in
theorem live_any (w : World) : Calls Try.prog 28 #[] w fun e w' => e = .returned (.bool true) ∧ Below w.heap.size w w' := by
  have hstr : (strOfNums [3, 0, 3, 128, 29, 128, 188, 85, 1, 2, 3]).toList = [3, 0, 3, 128, 29, 128, 188, 85, 1, 2, 3] := by rw [Go.Lib.strOfNums_toList]; rfl
  go_enter Try.func28, Try.ntmps28
  go_wp2_with (first | (go_at_call 32; refine (num_any _ _).mono ?_; rintro e w' ⟨rfl, rfl⟩) | (go_at_call 29; refine (live_enc w).mono ?_; rintro e w1 ⟨A1, c1, rfl, hC1, hb1⟩; have hs := Kd.C_string (P := Try.prog) (c := c1) Try.underlying37 Try.underlying5 Try.underlying9 hC1; have Kb1 := Aside0.mk hb1; clear hC1 hb1))
  go_ret
  exact ⟨rfl, Kb1.out⟩
end Go.Proofs.Ytpdggoapjbjmhaa.Me
