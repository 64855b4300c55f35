/- Streams in chunks: stored bytes of a chunk are turned: plain. -/
import Derived.Test.YtpdggoapjbjmhaaMeA
set_option linter.unusedVariables false
set_option linter.unusedSimpArgs false
namespace Go.Proofs.Ytpdggoapjbjmhaa.Me
open Go.RowKit Go.Proofs.Ytpdggoapjbjmhaa.Fd Go.Proofs.Ytpdggoapjbjmhaa.Bg Go.Proofs.Ytpdggoapjbjmhaa.Lz Go.Proofs.Ytpdggoapjbjmhaa.Ma Go.Proofs.Ytpdggoapjbjmhaa.Bk Go.Proofs.YtpdggoapjbjmhaaW.PrintWords Go.Proofs.YtpdggoapjbjmhaaW.PrintLast Go.Proofs.YtpdggoapjbjmhaaW.PrintMore
theorem dt_pre {pr ds es po : List Int} {a n : Nat} (h : a + n ≤ pr.length) : ((pr ++ es ++ po).drop a).take n = ((pr ++ ds ++ po).drop a).take n := by
  rw [List.append_assoc, List.append_assoc, List.drop_append_of_le_length (by omega), List.drop_append_of_le_length (by omega), List.take_append_of_le_length (by rw [List.length_drop]; omega), List.take_append_of_le_length (by rw [List.length_drop]; omega)]
theorem dt_post {pr ds es po : List Int} {a n : Nat} (hl : es.length = ds.length) (h : pr.length + ds.length ≤ a) : ((pr ++ es ++ po).drop a).take n = ((pr ++ ds ++ po).drop a).take n := by
  have e : ∀ q : List Int, q.length = pr.length + ds.length → (q ++ po).drop a = po.drop (a - (pr.length + ds.length)) := fun q hq => by
    rw [List.drop_append, List.drop_eq_nil_of_le (by omega), List.nil_append, hq]
  rw [e (pr ++ es) (by rw [List.length_append, hl]), e (pr ++ ds) (by rw [List.length_append])]
theorem rdN_same {pr ds es po : List Int} {a n : Nat} (hl : es.length = ds.length) (h : a + n ≤ pr.length ∨ pr.length + ds.length ≤ a) : rdN (pr ++ es ++ po) a n = rdN (pr ++ ds ++ po) a n := by
  unfold rdN
  rcases h with h | h
  · rw [dt_pre (ds := ds) h]
  · rw [dt_post hl h]
theorem chk_same {pr ds es po : List Int} {a : Nat} (hl : es.length = ds.length) (h : a + 8 ≤ pr.length ∨ pr.length + ds.length ≤ a) : chk (pr ++ es ++ po) (a : Int) = chk (pr ++ ds ++ po) (a : Int) := by
  unfold chk
  rw [Int.toNat_natCast, rdN_same (n := 2) hl (by omega), rdN_same (a := a + 2) (n := 2) hl (by omega), rdN_same (a := a + 4) (n := 4) hl (by omega)]
theorem split_enc {b : List Int} (x k0 : Nat) (h : k0 < cnt b.length) : ∃ pr po, encM b x (cnt b.length) = pr ++ dtm (piece b k0) x ++ po ∧ pr.length = (encM b x k0).length + 8 := by
  obtain ⟨rest, hr⟩ := encM_split b x _ k0 h
  refine ⟨encM b x k0 ++ (le (piece b k0).length 2 ++ le ((dtm (piece b k0) x).length + if pkm (piece b k0) x = true then 0 else 32768) 2 ++ le (Sum.crc 0 (dtm (piece b k0) x)) 4), rest, ?_, by simp only [List.length_append, le_length]⟩
  rw [hr]
  unfold one
  simp only [List.append_assoc]
theorem chs_tur {b zs : List Int} (hb : isB b) (x : Nat) (hlz : zs.length = (encM b x (cnt b.length)).length) (hck : ∀ k, k < cnt b.length → chk zs ((encM b x k).length : Int) = hd b x k) : ∀ (j k f : Nat) (sz : Int), k + j = cnt b.length → j < f → sz = max 0 ((b.length : Int) - 8192 * k) → chs zs (zs.length : Int) f ((encM b x k).length : Int) sz = ((List.range' k j).map (hd b x), 0)
  | 0, k, f + 1, sz, h1, h2, h3 => by
    have hk : k = cnt b.length := by omega
    rw [chs, if_pos (by unfold cnt at hk; omega), if_pos (by rw [hk, hlz])]
    rfl
  | j + 1, k, f + 1, sz, h1, h2, h3 => by
    have hk : k < cnt b.length := by omega
    obtain ⟨g1, g2⟩ := piece_length b k hk
    have g3 := encM_next b x k
    have g4 := encM_mono b x (k + 1) j
    rw [show k + 1 + j = cnt b.length by omega] at g4
    have hsz : sz = (b.length : Int) - 8192 * k := by unfold cnt at hk; omega
    have hsz0 : 0 < sz := by unfold cnt at hk; omega
    rw [chs, if_neg (by omega), if_neg (by omega), hck k hk]
    have e1 : (hd b x k).f1 = ((piece b k).length : Int) := rfl
    have e2 : (hd b x k).f2 = ((dtm (piece b k) x).length : Int) := rfl
    rw [if_pos ⟨hd_rgt hb x k hk, by rw [e1, g1, hsz], by rw [e2]; omega⟩, e2, show ((encM b x k).length : Int) + 8 + ((dtm (piece b k) x).length : Int) = ((encM b x (k + 1)).length : Int) by omega, chs_tur hb x hlz hck j (k + 1) f _ (by omega) (by omega) (by omega)]
    unfold cns
    rw [if_pos rfl]
    rfl
/-- Turned stored bytes: the heads stand, the chunk is told to be wrong, and so the stream. -/
theorem turned_enc {b pr po es : List Int} (hb : isB b) (hn : b.length ≤ 40000) (x k0 : Nat) (h : k0 < cnt b.length) (hX : encM b x (cnt b.length) = pr ++ dtm (piece b k0) x ++ po) (hp : pr.length = (encM b x k0).length + 8) (hl : es.length = (dtm (piece b k0) x).length) (hne : Sum.crc 0 es ≠ Sum.crc 0 (dtm (piece b k0) x)) :
    chunk (pr ++ es ++ po) (hd b x k0) = ([], 140) ∧ Me.decode (pr ++ es ++ po) 0 ((pr ++ es ++ po).length : Int) (b.length : Int) = ([], 140) := by
  have hlz : (pr ++ es ++ po).length = (encM b x (cnt b.length)).length := by rw [hX]; simp only [List.length_append, hl]
  have hck : ∀ k, k < cnt b.length → chk (pr ++ es ++ po) ((encM b x k).length : Int) = hd b x k := fun k hk => by
    have g3 := encM_next b x k0
    rw [← chk_enc hb x _ k hk, hX]
    refine chk_same hl ?_
    by_cases hlt : k ≤ k0
    · have g4 := encM_mono b x k (k0 - k)
      rw [show k + (k0 - k) = k0 by omega] at g4
      omega
    · have g4 := encM_mono b x (k0 + 1) (k - (k0 + 1))
      rw [show k0 + 1 + (k - (k0 + 1)) = k by omega] at g4
      omega
  have h1 : chunk (pr ++ es ++ po) (hd b x k0) = ([], 140) := by
    unfold chunk
    have hr := hd_rgt hb x k0 h
    have g3 := encM_next b x k0
    have g4 := encM_mono b x (k0 + 1) (cnt b.length - (k0 + 1))
    rw [show k0 + 1 + (cnt b.length - (k0 + 1)) = cnt b.length by omega] at g4
    have e0 : (hd b x k0).f0 = ((encM b x k0).length : Int) := rfl
    have e2 : (hd b x k0).f2 = ((dtm (piece b k0) x).length : Int) := rfl
    have e4 : (hd b x k0).f4 = ((Sum.crc 0 (dtm (piece b k0) x) : Nat) : Int) := rfl
    have hc : cutx (pr ++ es ++ po) (((encM b x k0).length : Int) + 8) ((dtm (piece b k0) x).length : Int) = es := by
      unfold cutx
      rw [show (((encM b x k0).length : Int) + 8).toNat = pr.length by omega, Int.toNat_natCast, List.append_assoc, List.drop_left' rfl, List.take_left' hl]
    rw [hr, if_neg (by decide), e0, e2, e4, hc, if_neg (by rw [hlz]; omega), if_pos (by omega)]
  have h2 : ∀ j k, k + j = k0 → chunk (pr ++ es ++ po) (hd b x k) = if j = 0 then ([], 140) else (piece b k, 0) := fun j k hj => by
    by_cases h0 : j = 0
    · rw [if_pos h0]
      obtain rfl : k = k0 := by omega
      exact h1
    · rw [if_neg h0, ← chunk_enc hb x _ k (by omega) rfl]
      have g3 := encM_next b x k
      have g4 := encM_mono b x (k + 1) (k0 - (k + 1))
      rw [show k + 1 + (k0 - (k + 1)) = k0 by omega] at g4
      have hc : cutx (pr ++ es ++ po) ((hd b x k).f0 + 8) (hd b x k).f2 = cutx (encM b x (cnt b.length)) ((hd b x k).f0 + 8) (hd b x k).f2 := by
        have e0 : (hd b x k).f0 = ((encM b x k).length : Int) := rfl
        have e2 : (hd b x k).f2 = ((dtm (piece b k) x).length : Int) := rfl
        unfold cutx
        rw [hX, e0, e2, show (((encM b x k).length : Int) + 8).toNat = (encM b x k).length + 8 by omega, Int.toNat_natCast]
        exact dt_pre (by omega)
      unfold chunk
      rw [hc, hlz]
  have h3 : ∀ j k m, k + j = k0 → dcs (pr ++ es ++ po) ((List.range' k (j + 1 + m)).map (hd b x)) = ([], 140) := by
    intro j
    induction j with
    | zero =>
      intro k m hk
      have e : (List.range' k (0 + 1 + m)).map (hd b x) = hd b x k :: (List.range' (k + 1) m).map (hd b x) := by rw [show 0 + 1 + m = m + 1 by omega]; rfl
      have hq := h2 0 k hk
      rw [if_pos rfl] at hq
      rw [e, dcs, hq, if_pos (by simp)]
    | succ j ih =>
      intro k m hk
      have e : (List.range' k (j + 1 + 1 + m)).map (hd b x) = hd b x k :: (List.range' (k + 1) (j + 1 + m)).map (hd b x) := by rw [show j + 1 + 1 + m = (j + 1 + m) + 1 by omega]; rfl
      have hq := h2 (j + 1) k hk
      rw [if_neg (by omega)] at hq
      rw [e, dcs, hq, ih (k + 1) m (by omega), if_neg (by simp), if_pos (by simp)]
  refine ⟨h1, ?_⟩
  have h4 : chunks (pr ++ es ++ po) 0 ((pr ++ es ++ po).length : Int) (b.length : Int) = (heads b x, 0) := by
    unfold chunks
    have h5 := chs_tur hb x hlz hck (cnt b.length) 0 ((pr ++ es ++ po).length + 1) (b.length : Int) (by omega) (by have := encM_ge b x (cnt b.length); omega) (by omega)
    rw [if_neg (by omega)]
    exact h5
  unfold Me.decode
  rw [h4, if_neg (by simp)]
  have h6 := h3 k0 0 (cnt b.length - (k0 + 1)) (by omega)
  rw [show k0 + 1 + (cnt b.length - (k0 + 1)) = cnt b.length by omega] at h6
  exact h6
theorem heads_get (b : List Int) (x k : Nat) (h : k < cnt b.length) : (heads b x).drop k = hd b x k :: (heads b x).drop (k + 1) := by
  have hl := heads_len b x
  rw [List.drop_eq_getElem_cons (by omega)]
  congr 1
  unfold heads
  simp
end Go.Proofs.Ytpdggoapjbjmhaa.Me
