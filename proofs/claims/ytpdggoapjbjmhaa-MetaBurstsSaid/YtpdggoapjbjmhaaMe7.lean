/- Streams in chunks: a stream's chunks: a walk. -/
import Derived.Test.YtpdggoapjbjmhaaKO
set_option linter.unusedVariables false
set_option linter.unusedSimpArgs false
namespace Go.Proofs.Ytpdggoapjbjmhaa.Me
open Go.RowKit Go.Proofs.Ytpdggoapjbjmhaa.Fd Go.Proofs.Ytpdggoapjbjmhaa.Bg Go.Proofs.Ytpdggoapjbjmhaa.Lz Go.Proofs.Ytpdggoapjbjmhaa.Ma Go.Proofs.Ytpdggoapjbjmhaa.Bk Go.Proofs.YtpdggoapjbjmhaaW.PrintWords Go.Proofs.YtpdggoapjbjmhaaW.PrintLast Go.Proofs.YtpdggoapjbjmhaaW.PrintMore
/-- Is a piece packed; what is stored of it; its chunk; the stream's chunks. -/
def pkm (p : List Int) (x : Nat) : Bool := Wo.worth p.length (enc p).length x && decide ((enc p).length ≤ 8192)
def dtm (p : List Int) (x : Nat) : List Int := if pkm p x = true then enc p else p
def one (p : List Int) (x : Nat) : List Int := le p.length 2 ++ le ((dtm p x).length + if pkm p x = true then 0 else 32768) 2 ++ le (Sum.crc 0 (dtm p x)) 4 ++ dtm p x
def encM (b : List Int) (x : Nat) : Nat → List Int
  | 0 => []
  | k + 1 => encM b x k ++ one (piece b k) x
theorem piece_len (b : List Int) (k : Nat) : (piece b k).length ≤ 8192 := by unfold piece; rw [List.length_take]; omega
theorem piece_isB {b : List Int} (hb : isB b) (k : Nat) : isB (piece b k) := fun y hy => hb y (List.mem_of_mem_drop (List.mem_of_mem_take hy))
theorem enc_8192 (p : List Int) (h : p.length ≤ 8192) : (enc p).length ≤ p.length + 34 := by
  have h1 := enc_bound p (by omega)
  unfold bound at h1
  split at h1
  · omega
  · split at h1 <;> omega
theorem dtm_len (p : List Int) (x : Nat) (h : p.length ≤ 8192) : (dtm p x).length ≤ 8192 ∧ (dtm p x).length ≤ p.length + 34 := by
  unfold dtm
  by_cases hp : pkm p x = true
  · rw [if_pos hp]
    unfold pkm at hp
    rw [Bool.and_eq_true, decide_eq_true_eq] at hp
    exact ⟨hp.2, enc_8192 p h⟩
  · rw [if_neg hp]; omega
theorem one_len (p : List Int) (x : Nat) (h : p.length ≤ 8192) : (one p x).length = 8 + (dtm p x).length := by
  unfold one
  simp only [List.length_append, le_length]
  try omega
theorem encM_len (b : List Int) (x : Nat) : ∀ k, (encM b x k).length ≤ 8200 * k
  | 0 => Nat.le_refl _
  | k + 1 => by
    have h := encM_len b x k
    have h2 := one_len (piece b k) x (piece_len b k)
    have h3 := (dtm_len (piece b k) x (piece_len b k)).1
    rw [encM, List.length_append]
    omega
/-- What the walk keeps: the row under way, the table, the limit. -/
structure IV (w : World) (b2 bl bo bt x : Nat) (W : World) (A : Option Addr) (n c : Nat) (l : List Int) : Prop where
  box : W.heap[bo]? = some (.cells #[.slice A n c] 37 (0, 0))
  len : n = l.length
  row : Row.OwnB W b2 (.slice A n c) l
  tab : W.heap[bt]? = some (.cells (Bits.tab (Crc.iter 8)) 88 (0, 0))
  lim : W.heap[bl]? = some (.cells #[.float .f64 x] 41 (0, 0))
  below : Below w.heap.size w W
section
variable {w W W1 : World} {b2 bl bo bt x n c : Nat} {A : Option Addr} {l : List Int}
theorem IV.next (h : IV w b2 bl bo bt x W A n c l) (hb : Below W.heap.size W W1) : IV w b2 bl bo bt x W1 A n c l :=
  ⟨blk_below h.box hb, h.len, h.row.below hb, blk_below h.tab hb, blk_below h.lim hb, below_then h.below h.below.size hb⟩
theorem IV.st {own : Nat → Prop} (h : IV w b2 bl bo bt x W A n c l) (hs : Rf.St w.heap.size own W W1) (ho : ∀ k, own k → k < b2) (h1 : ¬ own bo) (h2 : ¬ own bt) (h3 : ¬ own bl) : IV w b2 bl bo bt x W1 A n c l :=
  ⟨hs.same _ _ h.box rfl h1, h.len, OwnB_st h.row hs ho, hs.same _ _ h.tab rfl h2, hs.same _ _ h.lim rfl h3, h.below.trans hs.below⟩
theorem IV.cell (h : IV w b2 bl bo bt x W A n c l) : W.cell? ⟨bo, 0, none⟩ = some (.slice A n c) ∧ W.cell? ⟨bl, 0, none⟩ = some (.float .f64 x) ∧ W.frozen? ⟨bo, 0, none⟩ = false :=
  ⟨(cell_of_row _ _ _ _ _ _ h.box).trans rfl, (cell_of_row _ _ _ _ _ _ h.lim).trans rfl, blk_frozen h.box 0⟩
theorem IV.tabs (h : IV w b2 bl bo bt x W A n c l) : ∀ i, i < 256 → W.cell? ⟨bt, i, none⟩ = some (.int .u32 (Crc.iter 8 i : Nat)) := fun i hi => (cell_of_row _ _ _ _ _ _ h.tab).trans (Bits.tab_at _ _ hi)
/-- Another row is the one under way. -/
theorem IV.turn (h : IV w b2 bl bo bt x W A n c l) {A1 : Option Addr} {n1 c1 : Nat} {l1 : List Int} (hl : n1 = l1.length) (hr : Row.OwnB W b2 (.slice A1 n1 c1) l1) (hbo : bo < b2) (h1 : bt ≠ bo) (h2 : bl ≠ bo) (h3 : w.heap.size ≤ bo) : IV w b2 bl bo bt x (W.setCell ⟨bo, 0, none⟩ (.slice A1 n1 c1)) A1 n1 c1 l1 := by
  refine ⟨blk_set h.box 0 _, hl, OwnB_frame hr fun k hk => ?_, (Below.heap_setCell _ _ _ _ h1).trans h.tab, (Below.heap_setCell _ _ _ _ h2).trans h.lim, h.below.setCell h3 _⟩
  have hlt := (World.ownsRow.lt (Kd.own_of_R hr) k hk).1
  exact Below.heap_setCell _ _ _ _ (by show k ≠ bo; omega)
theorem IV.grown (h : IV w b2 bl bo bt x W A n c l) {row : Option Nat} (hg : W.grownBy W1 row) (hr : ∀ k, row = some k → b2 ≤ k) {A1 : Option Addr} {n1 c1 : Nat} {l1 : List Int} (hl : n1 = l1.length) (hr1 : Row.OwnB W1 b2 (.slice A1 n1 c1) l1) (hbo : bo < b2) (hbt : bt < b2) (hbl : bl < b2) (hB : Below w.heap.size w W1) (h1 : bt ≠ bo) (h2 : bl ≠ bo) (h3 : w.heap.size ≤ bo) : IV w b2 bl bo bt x (W1.setCell ⟨bo, 0, none⟩ (.slice A1 n1 c1)) A1 n1 c1 l1 := by
  have key : ∀ k (o : Obj), k < b2 → W.heap[k]? = some o → W1.heap[k]? = some o := fun k o hk ho => (hg.block k (Array.getElem?_eq_some_iff.1 ho).1 (by intro e; have := hr k e.symm; omega)).trans ho
  have h' : W1.heap[bo]? = some (.cells #[.slice A n c] 37 (0, 0)) := key bo _ hbo h.box
  refine ⟨blk_set h' 0 _, hl, OwnB_frame hr1 fun k hk => ?_, (Below.heap_setCell _ _ _ _ h1).trans (key bt _ hbt h.tab), (Below.heap_setCell _ _ _ _ h2).trans (key bl _ hbl h.lim), hB.setCell h3 _⟩
  have hlt := (World.ownsRow.lt (Kd.own_of_R hr1) k hk).1
  exact Below.heap_setCell _ _ _ _ (by show k ≠ bo; omega)
end
/-- The round's word. -/
structure RW (base p : Nat) (A B : World) : Prop where
  rd : Rf.Rd base (fun k => k = p) A B
  keep : KeepsOthers A B
theorem RW.refl {base p : Nat} {A : World} : RW base p A A := ⟨⟨Below.refl _ _, fun _ _ => rfl⟩, KeepsOthers.refl _⟩
theorem RW.next {base p : Nat} {A B C : World} (h : RW base p A B) (hb : Below B.heap.size B C) (hs : base ≤ B.heap.size) (hp : p < B.heap.size) : RW base p A C :=
  ⟨h.rd.trans ⟨hb.mono hs, fun k hk => by subst hk; exact hb.block k hp⟩, h.keep.trans ⟨hb.size, fun k o hk _ => (hb.block k (Array.getElem?_eq_some_iff.1 hk).1).trans hk⟩⟩
theorem RW.set {base p : Nat} {A B : World} (h : RW base p A B) {a : Addr} (hb : base ≤ a.block) (hp : a.block ≠ p) (v : Value) : RW base p A (B.setCell a v) :=
  ⟨h.rd.trans ⟨(Below.refl _ _).setCell hb v, fun k hk => by subst hk; exact Below.heap_setCell _ _ _ _ (Ne.symm hp)⟩, h.keep.trans (KeepsOthers.setCell _ _ _)⟩
theorem RW.grown {base p b2 : Nat} {A B C : World} (h : RW base p A B) {row : Option Nat} (hg : B.grownBy C row) (hr : ∀ k, row = some k → b2 ≤ k) (hb : base ≤ b2) (hb2 : b2 ≤ B.heap.size) (hp : p < b2) (hc : ∀ k o, row = some k → B.heap[k]? = some o → o.isCells = true) : RW base p A C :=
  ⟨h.rd.trans ⟨(Below.refl _ _).grown hg (by omega) (fun k e => by have := hr k e; omega), fun k hk => by subst hk; exact hg.block k (by omega) (by intro e; have := hr k e.symm; omega)⟩, h.keep.trans (KeepsOthers.of_grownBy hg hc)⟩
theorem own_cells {W : World} {base : Nat} {v : Value} {xs : List Int} (h : Row.OwnB W base v xs) : (∀ k, v.ownBlock = some k → base ≤ k) ∧ ∀ k o, v.ownBlock = some k → W.heap[k]? = some o → o.isCells = true := by
  refine ⟨fun k hk => (World.ownsRow.lt (Kd.own_of_R h) k hk).1, fun k o hk ho => ?_⟩
  obtain ⟨cells, hc⟩ := own_typed (Kd.own_of_R h) k hk
  rw [hc] at ho
  injection ho with ho
  subst ho
  rfl
theorem pieces_any (A : Option Addr) (n c : Nat) (w : World) : Calls Try.prog 52 #[.slice A n c] w fun e w' => e = .returned (.func (.func 71) #[] #[.pointer (some ⟨w.heap.size, 0, none⟩)]) ∧ w' = w.alloc (.cells #[.slice A n c] 37) := by
  go_enter Try.func52, Try.ntmps52
  go_wp2
  go_ret
  exact ⟨rfl, rfl⟩
theorem lt16n {n : Nat} (h : n < 65536) : n < 2 ^ (8 * 2) := h
theorem OwnB_C {W : World} {base n c : Nat} {A : Option Addr} {xs : List Int} (h : Row.OwnB W base (.slice A n c) xs) : Kd.C (Kd.int .u8) W A n xs := by
  obtain ⟨h1, -, h2⟩ := h.reads
  rw [h1]
  exact h2
theorem OwnB_set {w : World} {base : Nat} {v : Value} {xs : List Int} (h : Row.OwnB w base v xs) {a : Addr} (ha : a.block < base) (u : Value) : Row.OwnB (w.setCell a u) base v xs := OwnB_frame h fun k hk => by
  have hlt := (World.ownsRow.lt (Kd.own_of_R h) k hk).1
  exact Below.heap_setCell _ _ _ _ (by omega)
theorem put_go (W : World) (l : List Int) (A : Option Addr) (n c m k : Nat) (hn : n = l.length) (hC : Kd.C (Kd.int .u8) W A n l) (hl : n ≤ 100000000) (hk : wid k) (hm : m < 2 ^ (8 * k)) : Calls Try.prog 50 #[.slice A n c, .int .u64 m, .int .i64 k] W fun e w' => ∃ A1 c1, e = .returned (.tuple #[.slice A1 (n + k) c1, .int .i64 0]) ∧ Row.OwnB w' W.heap.size (.slice A1 (n + k) c1) (l ++ le m k) ∧ Below W.heap.size W w' := by
  subst hn
  refine (put_any W l A c m k (fun w' hb => Kd.C_below hC hb) hl hk hm).mono ?_
  rintro e w' ⟨v, rfl, hO, hB⟩
  obtain ⟨A1, c1, rfl, -, -⟩ := hO.slice
  have e1 : (l ++ le m k).length = l.length + k := by rw [List.length_append, le_length]
  rw [e1] at hO ⊢
  exact ⟨A1, c1, rfl, hO, hB⟩
theorem IV.reads {w W : World} {b2 bl bo bt x n c : Nat} {A : Option Addr} {l : List Int} (h : IV w b2 bl bo bt x W A n c l) : Kd.C (Kd.int .u8) W A n l := by
  obtain ⟨h1, -, h2⟩ := h.row.reads
  rw [h1]
  exact h2
set_option maxHeartbeats 4000000 in
set_option maxRecDepth 100000 in
theorem encode_any (w : World) (b : List Int) (A0 : Option Addr) (c0 x : Nat) (hC : Kd.C (Kd.int .u8) w A0 b.length b) (hc : b.length ≤ c0) (hb : isB b) (hn : b.length ≤ 40000) :
    Calls Try.prog 29 #[.slice A0 b.length c0, .float .f64 x] w fun e w' => ∃ v, e = .returned (.tuple #[v, .int .i64 0]) ∧ Row.OwnB w' w.heap.size v (encM b x (cnt b.length)) ∧ Below w.heap.size w w' := by
  have KC : Aside0 (∀ W, Below w.heap.size w W → Kd.C (Kd.int .u8) W A0 b.length b) := ⟨fun W hB => Kd.C_below hC hB⟩
  have Kb := Aside0.mk hb
  have hz := Sum.zeroTab
  obtain ⟨L, hL⟩ : ∃ L, L = b.length := ⟨_, rfl⟩
  rw [← hL] at KC hc hn ⊢
  have KL := Aside0.mk hL
  clear hC hb hL
  have hd : decide ((L : Int) > 16777216) = false := decide_eq_false (by omega)
  refine callsIn_wide (n := 0) |>.1 (callsIn_of_wp_marks Try.func29 rfl trivial (wpIn_wide.2 ?_) rfl)
  simp only [Try.ntmps29, List.size_toArray, List.length_cons, List.length_nil, Nat.reduceAdd, Nat.reduceSub, Array.replicate_succ, Array.replicate_zero, List.push_toArray, List.append_toArray, List.nil_append, List.cons_append]
  go_wp2_with (go_at_call 51; apply Aside0.out)
  refine ⟨?_⟩
  obtain ⟨W0, hW0⟩ : ∃ W0, W0 = (w.alloc (.cells #[.float .f64 x] 41)).alloc (.cells #[.slice none 0 0] 37) := ⟨_, rfl⟩
  have hs0 : W0.heap.size = w.heap.size + 2 := by rw [hW0]; simp
  have KB0 : Aside0 (Below w.heap.size w W0) := ⟨by rw [hW0]; exact below_alloc (below_alloc (Below.refl _ _) _) _⟩
  have Kl0 : Aside0 (W0.heap[w.heap.size]? = some (.cells #[.float .f64 x] 41 (0, 0))) := ⟨by rw [hW0]; exact heap_alloc2_old _ _ _⟩
  have Ko0 : Aside0 (W0.heap[w.heap.size + 1]? = some (.cells #[.slice none 0 0] 37 (0, 0))) := ⟨by rw [hW0]; exact heap_alloc2_new _ _ _⟩
  obtain ⟨bl, hbl⟩ : ∃ bl, bl = w.heap.size := ⟨_, rfl⟩
  obtain ⟨bo, hbo⟩ : ∃ bo, bo = w.heap.size + 1 := ⟨_, rfl⟩
  rw [← hW0]
  rw [← hbl] at Kl0
  rw [← hbo] at Ko0
  refine (Sum.make_any _).mono ?_
  rintro e W1 ⟨rfl, hB1⟩
  have KB1 := Aside0.mk (below_then KB0.out KB0.out.size hB1)
  have Kl1 := Aside0.mk (blk_below Kl0.out hB1)
  have Ko1 := Aside0.mk (blk_below Ko0.out hB1)
  have hs1 : W0.heap.size ≤ W1.heap.size := hB1.size
  clear hB1
  go_wp2_with (first | (refine wpList_store_row rfl 88 (Operand.tmp 7) (Operand.tmp 16) rfl W1.heap.size (Bits.tab (Crc.iter 8)) rfl rfl _ _ (heap_alloc_new _ _) (Sum.tabSize _) (by rw [Bits.tab_size, Bits.tab_size]) (Sum.tabOne _) ?_; apply Aside0.out) | (go_at_call 52; apply Aside0.out))
  refine ⟨?_⟩
  obtain ⟨W2, hW2⟩ : ∃ W2, W2 = World.setRow (W1.alloc (.cells (Bits.tab fun _ => 0) 88)) W1.heap.size (Bits.tab (Crc.iter 8)) := ⟨_, rfl⟩
  rw [← hW2]
  obtain ⟨bt, hbt⟩ : ∃ bt, bt = W1.heap.size := ⟨_, rfl⟩
  have Kt2 : Aside0 (W2.heap[bt]? = some (.cells (Bits.tab (Crc.iter 8)) 88 (0, 0))) := ⟨by rw [hW2, hbt]; exact setRow_heap _ _ _ _ _ (0, 0) (heap_alloc_new _ _)⟩
  have hB2 : Below W1.heap.size W1 W2 := by rw [hW2]; exact below_setRow (below_alloc (Below.refl _ _) _) (Nat.le_refl _) _
  have hs2 : W2.heap.size = W1.heap.size + 1 := by rw [hW2]; simp [World.setRow]
  have KB2 := Aside0.mk (below_then KB1.out KB1.out.size hB2)
  have Kl2 := Aside0.mk (blk_below Kl1.out hB2)
  have Ko2 := Aside0.mk (blk_below Ko1.out hB2)
  clear hB2 hW2 hz
  rw [← hbo, ← hbl, ← hbt]
  go_wp2_with (go_at_call 52; apply Aside0.out)
  refine ⟨?_⟩
  refine (pieces_any _ _ _ _).mono ?_
  rintro e W3 ⟨rfl, rfl⟩
  obtain ⟨W3, hW3⟩ : ∃ W3, W3 = W2.alloc (.cells #[.slice A0 L c0] 37) := ⟨_, rfl⟩
  have hB3 : Below W2.heap.size W2 W3 := by rw [hW3]; exact below_alloc (Below.refl _ _) _
  have hs3 : W3.heap.size = W2.heap.size + 1 := by rw [hW3]; simp
  obtain ⟨p, hp⟩ : ∃ p, p = W2.heap.size := ⟨_, rfl⟩
  have Kp3 : Aside0 (W3.heap[p]? = some (.cells #[.slice A0 L c0] 37 (0, 0))) := ⟨by rw [hW3, hp]; exact heap_alloc_new _ _⟩
  have KI3 : Aside0 (IV w W3.heap.size bl bo bt x W3 none 0 0 []) := ⟨⟨blk_below Ko2.out hB3, rfl, Row.OwnB.nil _ _, blk_below Kt2.out hB3, blk_below Kl2.out hB3, below_then KB2.out KB2.out.size hB3⟩⟩
  have Kord : Aside0 (w.heap.size ≤ bl ∧ bl < bo ∧ bo < bt ∧ bt < p ∧ p < W3.heap.size) := ⟨by omega⟩
  rw [← hW3, ← hp]
  clear hW3 hB3 hs0 hs1 hs2 hs3 hbl hbo hbt hp hW0
  go_wp2
  obtain ⟨b2, hb2⟩ : ∃ b2, b2 = W3.heap.size := ⟨_, rfl⟩
  rw [← hb2] at KI3 Kord
  have Kb2 := Aside0.mk hb2
  refine Rf.range_ (gf := 71) (lb := #[.pointer (some ⟨p, 0, none⟩)]) rfl (enters_ Try.func71 (by kernel_rfl) rfl) rfl (base := w.heap.size) (own := fun k => k = p) (N := cnt L) (by have := Kord.out; omega) (fun k hk => by have := Kord.out; omega) (pieces_iter w W3 w.heap.size p b L KL.out (by omega) A0 c0 hc (by have := Kord.out; omega) Kp3.out KC.out) (fun _ _ _ _ h _ => h) (fun k W => ∃ A n c, Aside0 (IV w b2 bl bo bt x W A n c (encM b x k)) ∧ b2 ≤ W.heap.size) ?hI ⟨none, 0, 0, KI3, Nat.le_of_eq hb2⟩ ?hround ?hdone
  case hI =>
    rintro k B C ⟨A, n, c, h, hs⟩ hst
    have := Kord.out
    exact ⟨A, n, c, ⟨h.out.st hst (fun j hj => by omega) (fun h => by omega) (fun h => by omega) (fun h => by omega)⟩, Nat.le_trans hs hst.below.size⟩
  case hround =>
    rintro l k v W ⟨A, n, c, hI, hWs⟩ hk ⟨A1, n1, c1, rfl, hn1, hnc, hCp⟩
    clear hI hWs
    simp only [List.zip_toArray, List.zip_cons_cons, List.zip_nil_right, List.foldl_toArray, List.foldl_cons, List.foldl_nil, List.setIfInBounds_toArray, List.set_cons_zero, List.set_cons_succ]
    have KCp := Aside0.mk hCp
    have Kn1 := Aside0.mk hn1
    clear hn1 hCp
    gi_wp2
    refine ⟨trivial, ?_⟩
    rintro W ⟨A, n, c, KI, hWs⟩ - hWp
    clear hWp
    have hpl := piece_len b k
    have hpb := piece_isB Kb.out k
    have hone : Aside0 (encM b x (k + 1) = encM b x k ++ one (piece b k) x) := ⟨rfl⟩
    have hel := encM_len b x k
    have hk5 : k ≤ 5 := by unfold cnt at hk; omega
    generalize encM b x (k + 1) = l9 at hone ⊢
    generalize encM b x k = l0 at hone hel KI
    have hone2 : Aside0 (one (piece b k) x = le (piece b k).length 2 ++ le ((dtm (piece b k) x).length + if pkm (piece b k) x = true then 0 else 32768) 2 ++ le (Sum.crc 0 (dtm (piece b k) x)) 4 ++ dtm (piece b k) x) := ⟨rfl⟩
    have hpkm : Aside0 (pkm (piece b k) x = (Wo.worth (piece b k).length (enc (piece b k)).length x && decide ((enc (piece b k)).length ≤ 8192))) := ⟨rfl⟩
    have hdtm : Aside0 (dtm (piece b k) x = if pkm (piece b k) x = true then enc (piece b k) else piece b k) := ⟨rfl⟩
    have hdl := (dtm_len (piece b k) x hpl).1
    have KP := Aside0.mk (fun W1 hB => pack_any W1 (piece b k) A1 c1 x (by rw [← Kn1.out]; exact KCp.out W1 hB) (by rw [← Kn1.out]; exact hnc) hpb (by omega))
    have KPk : Aside0 (packP (piece b k) x = if Wo.worth (piece b k).length (enc (piece b k)).length x = true then enc (piece b k) else piece b k) := ⟨rfl⟩
    have hel2 := enc_8192 (piece b k) hpl
    have heb := enc_isB hpb (by omega)
    generalize one (piece b k) x = o1 at hone hone2
    generalize pkm (piece b k) x = pk at hone2 hpkm hdtm
    generalize dtm (piece b k) x = dt at hone2 hdtm hdl
    generalize packP (piece b k) x = pp at KP KPk
    generalize enc (piece b k) = ee at KP KPk hpkm hdtm hel2 heb
    rw [← Kn1.out] at KP KPk hpkm hone2 hel2 hpl
    generalize Wo.worth n1 ee.length x = wo at KP KPk hpkm
    have Kib := Aside0.mk (And.intro hpb heb)
    clear hpb heb hk
    obtain ⟨q0, q1, -⟩ := KI.out.cell
    have hordp := Kord.out
    have Klen := KI.out.len
    have hn0 : n ≤ 41000 := by omega
    have Kn0 := Aside0.mk Klen
    clear Klen hel
    cases wo with
    | true =>
      have hpp : pp = ee := by rw [KPk.out]; rfl
      subst hpp
      by_cases hbig : pp.length ≤ 8192
      · obtain ⟨m5, hm5⟩ : ∃ m, m = pp.length := ⟨_, rfl⟩
        rw [← hm5] at hbig hel2
        have Kpm := Aside0.mk hm5
        have hbg : decide ((m5 : Int) > 8192) = false := decide_eq_false (by omega)
        have hpk : pk = true := by rw [hpkm.out, ← hm5]; simp [hbig]
        clear hm5
        subst hpk
        have hdt : dt = pp := by rw [hdtm.out]; rfl
        have Kdt := Aside0.mk hdt
        have Kdb : Aside0 (isB dt) := ⟨by rw [hdt]; exact Kib.out.2⟩
        have Km5 : Aside0 (m5 = dt.length) := ⟨by rw [Kdt.out]; exact Kpm.out⟩
        clear hdt
        gi_step
        gi_step
        gi_step
        refine Rf.region_ (fun _ _ h => h) (by rfl) ?_
        go_wp2_with (go_at_call 49; apply Aside0.out)
        refine ⟨?_⟩
        refine (KP.out W KI.out.below).mono ?_
        rintro e W4 ⟨v4, rfl, hO4, hB4⟩
        obtain ⟨A4, c4, rfl, -, hC4⟩ := hO4.slice
        have hWl : W.heap.size ≤ W4.heap.size := hB4.size
        have KI4 := Aside0.mk (KI.out.next hB4)
        have KW4 := Aside0.mk (RW.refl.next (base := w.heap.size) (p := p) hB4 (by have := Kb2.out; have := KI3.out.below.size; omega) (by omega))
        have KO4 : Aside0 (Row.OwnB W4 b2 (.slice A4 m5 c4) dt) := ⟨by rw [Kdt.out, Kpm.out]; exact hO4.lower hWs⟩
        rw [← Kpm.out]
        clear hB4 hO4 hC4 q0 q1
        obtain ⟨q0, q1, q2⟩ := KI4.out.cell
        have hM8 : m5 ≤ 8192 := by have := Km5.out; omega
        go_wp2
        repeat (first | (refine Rf.region_ (fun _ _ h => h) (by rfl) ?_; go_wp2_with (go_at_call 50; apply Aside0.out)) | gi_step)
        refine ⟨?_⟩
        refine (put_go W4 l0 A n c n1 2 Kn0.out KI4.out.reads (by omega) (Or.inr (Or.inl rfl)) (lt16n (by omega))).mono ?_
        rintro e W5 ⟨A5, c5, rfl, hO5, hB5⟩
        have KI5 := Aside0.mk (KI4.out.next hB5)
        have hWl5 : W4.heap.size ≤ W5.heap.size := hB5.size
        have KW5 := Aside0.mk (KW4.out.next hB5 (by have := Kb2.out; have := KI3.out.below.size; omega) (by omega))
        have KI6 := Aside0.mk (KI5.out.turn (l1 := l0 ++ le n1 2) (n1 := n + 2) (c1 := c5) (A1 := A5) (by rw [List.length_append, le_length, Kn0.out]) (hO5.lower (by omega)) (by omega) (by omega) (by omega) (by omega))
        have KW6 := Aside0.mk (KW5.out.set (a := ⟨bo, 0, none⟩) (show w.heap.size ≤ bo by omega) (show bo ≠ p by omega) (.slice A5 (n + 2) c5))
        obtain ⟨W6, hW6⟩ : ∃ W6, W6 = W5.setCell ⟨bo, 0, none⟩ (.slice A5 (n + 2) c5) := ⟨_, rfl⟩
        have hWl6 : W5.heap.size ≤ W6.heap.size := by rw [hW6]; simp [World.setCell]
        have KO6 : Aside0 (Row.OwnB W6 b2 (.slice A4 m5 c4) dt) := ⟨by rw [hW6]; exact OwnB_set (KO4.out.below hB5) (by show bo < b2; omega) _⟩
        rw [← hW6] at KI6 KW6
        clear q0 q1 q2
        obtain ⟨q0, q1, q2⟩ := KI5.out.cell
        go_wp2
        rw [← hW6]
        clear q0 q1 q2 hW6 hO5 hB5
        obtain ⟨q0, q1, q2⟩ := KI6.out.cell
        repeat (first | (refine Rf.region_ (fun _ _ h => h) (by rfl) ?_; go_wp2_with (go_at_call 50; apply Aside0.out)) | gi_step)
        refine ⟨?_⟩
        refine (put_go W6 (l0 ++ le n1 2) A5 (n + 2) c5 m5 2 KI6.out.len KI6.out.reads (by omega) (Or.inr (Or.inl rfl)) (lt16n (by omega))).mono ?_
        rintro e W7 ⟨A7, c7, rfl, hO7, hB7⟩
        have KI7 := Aside0.mk (KI6.out.next hB7)
        have hWl7 : W6.heap.size ≤ W7.heap.size := hB7.size
        have KW7 := Aside0.mk (KW6.out.next hB7 (by have := Kb2.out; have := KI3.out.below.size; omega) (by omega))
        have KI8 := Aside0.mk (KI7.out.turn (l1 := l0 ++ le n1 2 ++ le m5 2) (n1 := n + 2 + 2) (c1 := c7) (A1 := A7) (by rw [List.length_append, le_length, ← KI6.out.len]) (hO7.lower (by omega)) (by omega) (by omega) (by omega) (by omega))
        have KW8 := Aside0.mk (KW7.out.set (a := ⟨bo, 0, none⟩) (show w.heap.size ≤ bo by omega) (show bo ≠ p by omega) (.slice A7 (n + 2 + 2) c7))
        obtain ⟨W8, hW8⟩ : ∃ W8, W8 = W7.setCell ⟨bo, 0, none⟩ (.slice A7 (n + 2 + 2) c7) := ⟨_, rfl⟩
        have hWl8 : W7.heap.size ≤ W8.heap.size := by rw [hW8]; simp [World.setCell]
        rw [← hW8] at KI8 KW8
        have KO8 : Aside0 (Row.OwnB W8 b2 (.slice A4 m5 c4) dt) := ⟨by rw [hW8]; exact OwnB_set (KO6.out.below hB7) (by show bo < b2; omega) _⟩
        have KD8 : Aside0 (∀ w', Below W8.heap.size W8 w' → Kd.C (Kd.int .u8) w' A4 m5 dt) := ⟨fun w' hb => OwnB_C (KO8.out.below hb)⟩
        clear q0 q1 q2
        obtain ⟨q0, q1, q2⟩ := KI7.out.cell
        go_wp2
        rw [← hW8]
        clear q0 q1 q2 hW8 hO7 hB7
        obtain ⟨z, hz⟩ : ∃ z, z = Sum.crc 0 dt := ⟨_, rfl⟩
        have hz2 : z < 4294967296 := by rw [hz]; exact crc_lt _
        have hcv : IntKind.u64.wrap (z : Int) = (z : Int) := u64_small _ (by omega) (by omega)
        have Kz := Aside0.mk hz
        have KX : Aside0 (∀ w', IV w b2 bl bo bt x w' A7 (n + 2 + 2) c7 (l0 ++ le n1 2 ++ le m5 2) → Below W8.heap.size W8 w' → Calls Try.prog 45 #[.pointer (some ⟨bt, 0, none⟩), .slice A4 m5 c4] w' fun e w'' => e = .returned (.int .u32 z) ∧ w' = w'') := ⟨fun w' hI hB => by
          have hmm : m5 ≤ 140737488351232 := by omega
          have h := Sum.crc_tab bt (Crc.iter 8) (fun i hi => Crc.iter_lt 8 i (by omega)) A4 c4 dt w' hI.tabs (by rw [← Km5.out]; exact KD8.out w' hB) (by rw [← Km5.out]; exact hmm) Kdb.out
          rw [Sum.crc_made dt Kdb.out, ← hz, ← Km5.out] at h
          exact h⟩
        have KPut : Aside0 (∀ w', IV w b2 bl bo bt x w' A7 (n + 2 + 2) c7 (l0 ++ le n1 2 ++ le m5 2) → Calls Try.prog 50 #[.slice A7 (n + 2 + 2) c7, .int .u64 z, .int .i64 4] w' fun e w'' => ∃ A1 c1, e = .returned (.tuple #[.slice A1 (n + 2 + 2 + 4) c1, .int .i64 0]) ∧ Row.OwnB w'' w'.heap.size (.slice A1 (n + 2 + 2 + 4) c1) (l0 ++ le n1 2 ++ le m5 2 ++ le z 4) ∧ Below w'.heap.size w' w'') := ⟨fun w' hI => put_go w' _ A7 (n + 2 + 2) c7 z 4 hI.len hI.reads (by omega) (Or.inr (Or.inr (Or.inl rfl))) (lt32n hz2)⟩
        clear hz
        gi_step
        refine Rf.start_ (fun _ _ h => h) (by rfl) (n := 9) (S := fun w' => IV w b2 bl bo bt x w' A7 (n + 2 + 2) c7 (l0 ++ le n1 2 ++ le m5 2) ∧ Below W8.heap.size W8 w') (ds := [8]) #[false, false, false, false, false, false, false, false, false] (by kernel_rfl) rfl rfl ⟨(show IV w b2 bl bo bt x W8.drew A7 (n + 2 + 2) c7 (l0 ++ le n1 2 ++ le m5 2) from KI8.out.next (below_drew (Below.refl _ _))), (show Below W8.heap.size W8 W8.drew from below_drew (Below.refl _ _))⟩ (fun hHeld => ?_)
        refine pure_ (i := 1) (N := some 57) (v := ?_) (a' := ?_) #[false, true, false, false, false, false, false, false, false] rfl rfl (by kernel_rfl) (fun _ _ _ h => h) (Or.inl ⟨by rfl, ?_⟩) ?_ ?_
        rotate_left
        · intro w'
          go_simp
          with_reducible rfl
        rotate_left
        · simp only [Act.put, List.setIfInBounds_toArray, List.set_cons_zero, List.set_cons_succ, i64_w, i32_w]
          rfl
        refine take_ (i := 0) (N := some 56) (v := .slice A7 (n + 2 + 2) c7) (a' := ?_) #[true, true, false, false, false, false, false, false, false] rfl rfl (by kernel_rfl) (fun _ _ _ h => h) (Or.inl ⟨by rfl, ?_⟩) hHeld ?_ ?_
        · rintro w' ⟨s0, s1⟩
          (have hq := s0.cell.1)
          go_simp
          (try rfl)
        rotate_left
        · simp only [Act.put, List.setIfInBounds_toArray, List.set_cons_zero, List.set_cons_succ, i64_w, i32_w]
          rfl
        refine one_ (i := 2) (N := some 58) #[true, true, true, false, false, false, false, false, false] rfl rfl (by kernel_rfl) (by decide) (fun K hK => ?_)
        refine goes_ Try.func45 (by kernel_rfl) rfl #[.pointer (some ⟨bt, 0, none⟩), .slice A4 m5 c4] (by rfl) rfl rfl (by simp only [List.map_toArray, List.map_cons, List.map_nil]; rfl) ?_
        with_reducible refine (KX.out _ hHeld.1 hHeld.2).mono ?_
        rintro e w9 ⟨rfl, rfl⟩
        refine ⟨_, rfl, ?_⟩
        refine hK.out _ _ ⟨hHeld.1, hHeld.2⟩ (fun hHeld => ?_)
        clear hK K
        refine norm_ (a' := ?_) ?_ ?_
        rotate_left
        · show Act.put _ (some 58) _ = _
          simp only [Act.put, List.setIfInBounds_toArray, List.set_cons_zero, List.set_cons_succ, i64_w, i32_w]
          rfl
        refine pure_ (i := 3) (N := some 59) (v := ?_) (a' := ?_) #[true, true, true, true, false, false, false, false, false] rfl rfl (by kernel_rfl) (fun _ _ _ h => h) (Or.inl ⟨by rfl, ?_⟩) ?_ ?_
        rotate_left
        · intro w'
          go_simp
          with_reducible rfl
        rotate_left
        · simp only [Act.put, List.setIfInBounds_toArray, List.set_cons_zero, List.set_cons_succ, i64_w, i32_w]
          rfl
        refine one_ (i := 4) (N := some 60) #[true, true, true, true, true, false, false, false, false] rfl rfl (by kernel_rfl) (by decide) (fun K hK => ?_)
        refine goes_ Try.func50 (by kernel_rfl) rfl #[.slice A7 (n + 2 + 2) c7, .int .u64 z, .int .i64 4] (by rfl) rfl rfl (by simp only [List.map_toArray, List.map_cons, List.map_nil]; rfl) ?_
        with_reducible refine (KPut.out _ hHeld.1).mono ?_
        rintro e W9 ⟨A9, c9, rfl, hO9, hB9⟩
        have KB9 := Aside0.mk (below_then hHeld.2 hHeld.2.size hB9)
        have KI9 := Aside0.mk (hHeld.1.next hB9)
        have KO9 := Aside0.mk hO9
        have hs9 := hB9.size
        have hs9b := hHeld.2.size
        obtain ⟨q0, q1, q2⟩ := KI9.out.cell
        refine ⟨_, rfl, ?_⟩
        refine hK.out _ _ ⟨(hHeld.1.next hB9), (below_then hHeld.2 hHeld.2.size hB9)⟩ (fun hHeld => ?_)
        clear hK K
        refine norm_ (a' := ?_) ?_ ?_
        rotate_left
        · show Act.put _ (some 60) _ = _
          simp only [Act.put, List.setIfInBounds_toArray, List.set_cons_zero, List.set_cons_succ, i64_w, i32_w]
          rfl
        refine pure_ (i := 5) (N := some 55) (v := ?_) (a' := ?_) #[true, true, true, true, true, true, false, false, false] rfl rfl (by kernel_rfl) (fun _ _ _ h => h) (Or.inl ⟨by rfl, ?_⟩) ?_ ?_
        rotate_left
        · intro w'
          go_simp
          with_reducible rfl
        rotate_left
        · simp only [Act.put, List.setIfInBounds_toArray, List.set_cons_zero, List.set_cons_succ, i64_w, i32_w]
          rfl
        refine pure_ (i := 6) (N := some 61) (v := ?_) (a' := ?_) #[true, true, true, true, true, true, true, false, false] rfl rfl (by kernel_rfl) (fun _ _ _ h => h) (Or.inl ⟨by rfl, ?_⟩) ?_ ?_
        rotate_left
        · intro w'
          go_simp
          with_reducible rfl
        rotate_left
        · simp only [Act.put, List.setIfInBounds_toArray, List.set_cons_zero, List.set_cons_succ, i64_w, i32_w]
          rfl
        refine pure_ (i := 7) (N := some 62) (v := ?_) (a' := ?_) #[true, true, true, true, true, true, true, true, false] rfl rfl (by kernel_rfl) (fun _ _ _ h => h) (Or.inl ⟨by rfl, ?_⟩) ?_ ?_
        rotate_left
        · intro w'
          go_simp
          with_reducible rfl
        rotate_left
        · simp only [Act.put, List.setIfInBounds_toArray, List.set_cons_zero, List.set_cons_succ, i64_w, i32_w]
          rfl
        refine last_ (i := 8) (N := none) #[true, true, true, true, true, true, true, true, true] rfl rfl (by kernel_rfl) (by decide) (fun K hK => ?_)
        refine skip_ (w1 := ?_) (by rfl) rfl ?_ ?_
        rotate_left
        · go_simp
          rfl
        refine hK.out _ _ ?_
        clear hK K
        refine done_ (by kernel_rfl) ?_
        have KI10 := Aside0.mk (KI9.out.turn (l1 := l0 ++ le n1 2 ++ le m5 2 ++ le z 4) (n1 := n + 2 + 2 + 4) (c1 := c9) (A1 := A9) (by rw [List.length_append, le_length, ← KI8.out.len]) (KO9.out.lower (by omega)) (by omega) (by omega) (by omega) (by omega))
        have KW9 := Aside0.mk (KW8.out.next KB9.out (by have := Kb2.out; have := KI3.out.below.size; omega) (by omega))
        have KW10 := Aside0.mk (KW9.out.set (a := ⟨bo, 0, none⟩) (show w.heap.size ≤ bo by omega) (show bo ≠ p by omega) (.slice A9 (n + 2 + 2 + 4) c9))
        have KD10 : Aside0 (Kd.C (Kd.int .u8) (W9.setCell ⟨bo, 0, none⟩ (.slice A9 (n + 2 + 2 + 4) c9)) A4 m5 dt) := ⟨OwnB_C (OwnB_set (KO8.out.below KB9.out) (by show bo < b2; omega) _)⟩
        obtain ⟨W10, hW10⟩ : ∃ W10, W10 = W9.setCell ⟨bo, 0, none⟩ (.slice A9 (n + 2 + 2 + 4) c9) := ⟨_, rfl⟩
        have hWl10 : W9.heap.size ≤ W10.heap.size := by rw [hW10]; simp [World.setCell]
        rw [← hW10] at KI10 KW10 KD10 ⊢
        clear q0 q1 q2 hW10 hHeld hO9 hB9 hcv
        obtain ⟨q0, q1, q2⟩ := KI10.out.cell
        have hl9 : l9 = l0 ++ le n1 2 ++ le m5 2 ++ le z 4 ++ dt := by
          rw [hone.out, hone2.out, Kz.out, if_pos trivial, Nat.add_zero, ← Km5.out]
          simp only [List.append_assoc]
        have hcls := own_cells KI10.out.row
        have Kn10 : Aside0 (n + 2 + 2 + 4 = (l0 ++ le n1 2 ++ le m5 2 ++ le z 4).length) := ⟨KI10.out.len⟩
        repeat (first | (refine Rf.region_ (fun _ _ h => h) (by rfl) ?_; go_wp2_with ((with_reducible refine gate_builtin (b := .append) (xs := #[.tmp 63, .tmp 64]) rfl ?_); apply Aside0.out)) | gi_step)
        refine ⟨?_⟩
        refine Row.app_rows (w0 := W10) b2 rfl (.tmp 63) (.tmp 64) rfl (.slice A9 (n + 2 + 2 + 4) c9) (l0 ++ le n1 2 ++ le m5 2 ++ le z 4) dt A4 m5 c4 rfl rfl KI10.out.row KD10.out (Below.refl _ _) (by omega) (by rw [← Kn10.out]; omega) ?_
        intro zs A11 c11 W11 e1 e2 e3 h4 h5 e4 hb11 e5 hg11 e7
        have hzl : zs.length = n + 2 + 2 + 4 + m5 := by rw [e3.out, ← Kn10.out]
        have hzs : zs = l9 := by rw [e1.out, hl9]
        rw [hzs] at hzl e2
        rw [hzs, hzl]
        rw [hzl] at e2
        have KI12 := Aside0.mk (KI10.out.grown hg11.out hcls.1 hzl.symm e2.out (by omega) (by omega) (by omega) (KI10.out.below.grown hg11.out KI10.out.below.size (fun k e => by have := hcls.1 k e; omega)) (by omega) (by omega) (by omega))
        have KW12 := Aside0.mk ((KW10.out.grown hg11.out hcls.1 (by omega) (by omega) (by omega) hcls.2).set (a := ⟨bo, 0, none⟩) (show w.heap.size ≤ bo by omega) (show bo ≠ p by omega) (.slice A11 (n + 2 + 2 + 4 + m5) c11))
        have hbo11 := hg11.out.block bo (by omega) (fun e => by have := hcls.1 bo e.symm; omega)
        have q3 : W11.cell? ⟨bo, 0, none⟩ = some (.slice A9 (n + 2 + 2 + 4) c9) := (World.cell?_of_block hbo11).trans q0
        have q4 : W11.frozen? ⟨bo, 0, none⟩ = false := (World.frozen?_of_block hbo11).trans q2
        have hs11 : b2 ≤ (W11.setCell ⟨bo, 0, none⟩ (.slice A11 (n + 2 + 2 + 4 + m5) c11)).heap.size := by
          have := hb11.out.size
          simp [World.setCell]
          omega
        clear e1 e2 e3 h4 h5 e4 hb11 e5 hg11 e7 hzs hzl hcls q0 q1 q2 hbo11 hl9
        go_wp2
        repeat gi_step
        exact ⟨⟨_, _, _, KI12, hs11⟩, KW12.out.rd, KW12.out.keep⟩
      · have hbg : decide ((pp.length : Int) > 8192) = true := decide_eq_true (by omega)
        have hpk : pk = false := by rw [hpkm.out]; simp [hbig]
        subst hpk
        have hdt : dt = piece b k := by rw [hdtm.out]; rfl
        have hbig2 : 8192 < pp.length := by omega
        clear hbig
        have Kdt := Aside0.mk hdt
        have Kdb : Aside0 (isB dt) := ⟨by rw [hdt]; exact Kib.out.1⟩
        have Km5 : Aside0 (n1 = dt.length) := ⟨by rw [Kdt.out]; exact Kn1.out⟩
        clear hdt
        gi_step
        gi_step
        gi_step
        refine Rf.region_ (fun _ _ h => h) (by rfl) ?_
        go_wp2_with (go_at_call 49; apply Aside0.out)
        refine ⟨?_⟩
        refine (KP.out W KI.out.below).mono ?_
        rintro e W4 ⟨v4, rfl, hO4, hB4⟩
        obtain ⟨A4, c4, rfl, -, hC4⟩ := hO4.slice
        have hWl : W.heap.size ≤ W4.heap.size := hB4.size
        have KI4 := Aside0.mk (KI.out.next hB4)
        have KW4 := Aside0.mk (RW.refl.next (base := w.heap.size) (p := p) hB4 (by have := Kb2.out; have := KI3.out.below.size; omega) (by omega))
        clear hB4 hO4 hC4 q0 q1
        obtain ⟨q0, q1, q2⟩ := KI4.out.cell
        obtain ⟨st, hst⟩ : ∃ st : Nat, (n1 : Int) + 32768 = (st : Int) := ⟨n1 + 32768, by omega⟩
        go_wp2
        repeat (first | (refine Rf.region_ (fun _ _ h => h) (by rfl) ?_; go_wp2_with (go_at_call 50; apply Aside0.out)) | gi_step)
        refine ⟨?_⟩
        refine (put_go W4 l0 A n c n1 2 Kn0.out KI4.out.reads (by omega) (Or.inr (Or.inl rfl)) (lt16n (by omega))).mono ?_
        rintro e W5 ⟨A5, c5, rfl, hO5, hB5⟩
        have KI5 := Aside0.mk (KI4.out.next hB5)
        have hWl5 : W4.heap.size ≤ W5.heap.size := hB5.size
        have KW5 := Aside0.mk (KW4.out.next hB5 (by have := Kb2.out; have := KI3.out.below.size; omega) (by omega))
        have KI6 := Aside0.mk (KI5.out.turn (l1 := l0 ++ le n1 2) (n1 := n + 2) (c1 := c5) (A1 := A5) (by rw [List.length_append, le_length, Kn0.out]) (hO5.lower (by omega)) (by omega) (by omega) (by omega) (by omega))
        have KW6 := Aside0.mk (KW5.out.set (a := ⟨bo, 0, none⟩) (show w.heap.size ≤ bo by omega) (show bo ≠ p by omega) (.slice A5 (n + 2) c5))
        obtain ⟨W6, hW6⟩ : ∃ W6, W6 = W5.setCell ⟨bo, 0, none⟩ (.slice A5 (n + 2) c5) := ⟨_, rfl⟩
        have hWl6 : W5.heap.size ≤ W6.heap.size := by rw [hW6]; simp [World.setCell]
        have KD6 : Aside0 (∀ w', Below w.heap.size w w' → Kd.C (Kd.int .u8) w' A1 n1 dt) := ⟨fun w' hb => by rw [Kdt.out]; exact KCp.out w' hb⟩
        rw [← hW6] at KI6 KW6
        clear q0 q1 q2
        obtain ⟨q0, q1, q2⟩ := KI5.out.cell
        go_wp2
        rw [← hW6]
        clear q0 q1 q2 hW6 hO5 hB5
        obtain ⟨q0, q1, q2⟩ := KI6.out.cell
        repeat (first | (refine Rf.region_ (fun _ _ h => h) (by rfl) ?_; go_wp2_with (go_at_call 50; apply Aside0.out)) | gi_step)
        refine ⟨?_⟩
        refine (put_go W6 (l0 ++ le n1 2) A5 (n + 2) c5 st 2 KI6.out.len KI6.out.reads (by omega) (Or.inr (Or.inl rfl)) (lt16n (by omega))).mono ?_
        rintro e W7 ⟨A7, c7, rfl, hO7, hB7⟩
        have KI7 := Aside0.mk (KI6.out.next hB7)
        have hWl7 : W6.heap.size ≤ W7.heap.size := hB7.size
        have KW7 := Aside0.mk (KW6.out.next hB7 (by have := Kb2.out; have := KI3.out.below.size; omega) (by omega))
        have KI8 := Aside0.mk (KI7.out.turn (l1 := l0 ++ le n1 2 ++ le st 2) (n1 := n + 2 + 2) (c1 := c7) (A1 := A7) (by rw [List.length_append, le_length, ← KI6.out.len]) (hO7.lower (by omega)) (by omega) (by omega) (by omega) (by omega))
        have KW8 := Aside0.mk (KW7.out.set (a := ⟨bo, 0, none⟩) (show w.heap.size ≤ bo by omega) (show bo ≠ p by omega) (.slice A7 (n + 2 + 2) c7))
        obtain ⟨W8, hW8⟩ : ∃ W8, W8 = W7.setCell ⟨bo, 0, none⟩ (.slice A7 (n + 2 + 2) c7) := ⟨_, rfl⟩
        have hWl8 : W7.heap.size ≤ W8.heap.size := by rw [hW8]; simp [World.setCell]
        rw [← hW8] at KI8 KW8
        have KD8 : Aside0 (∀ w', Below W8.heap.size W8 w' → Kd.C (Kd.int .u8) w' A1 n1 dt) := ⟨fun w' hb => KD6.out w' (below_then KI8.out.below KI8.out.below.size hb)⟩
        clear q0 q1 q2
        obtain ⟨q0, q1, q2⟩ := KI7.out.cell
        go_wp2
        rw [← hW8]
        clear q0 q1 q2 hW8 hO7 hB7
        obtain ⟨z, hz⟩ : ∃ z, z = Sum.crc 0 dt := ⟨_, rfl⟩
        have hz2 : z < 4294967296 := by rw [hz]; exact crc_lt _
        have hcv : IntKind.u64.wrap (z : Int) = (z : Int) := u64_small _ (by omega) (by omega)
        have Kz := Aside0.mk hz
        have KX : Aside0 (∀ w', IV w b2 bl bo bt x w' A7 (n + 2 + 2) c7 (l0 ++ le n1 2 ++ le st 2) → Below W8.heap.size W8 w' → Calls Try.prog 45 #[.pointer (some ⟨bt, 0, none⟩), .slice A1 n1 c1] w' fun e w'' => e = .returned (.int .u32 z) ∧ w' = w'') := ⟨fun w' hI hB => by
          have hmm : n1 ≤ 140737488351232 := by omega
          have h := Sum.crc_tab bt (Crc.iter 8) (fun i hi => Crc.iter_lt 8 i (by omega)) A1 c1 dt w' hI.tabs (by rw [← Km5.out]; exact KD8.out w' hB) (by rw [← Km5.out]; exact hmm) Kdb.out
          rw [Sum.crc_made dt Kdb.out, ← hz, ← Km5.out] at h
          exact h⟩
        have KPut : Aside0 (∀ w', IV w b2 bl bo bt x w' A7 (n + 2 + 2) c7 (l0 ++ le n1 2 ++ le st 2) → Calls Try.prog 50 #[.slice A7 (n + 2 + 2) c7, .int .u64 z, .int .i64 4] w' fun e w'' => ∃ A1 c1, e = .returned (.tuple #[.slice A1 (n + 2 + 2 + 4) c1, .int .i64 0]) ∧ Row.OwnB w'' w'.heap.size (.slice A1 (n + 2 + 2 + 4) c1) (l0 ++ le n1 2 ++ le st 2 ++ le z 4) ∧ Below w'.heap.size w' w'') := ⟨fun w' hI => put_go w' _ A7 (n + 2 + 2) c7 z 4 hI.len hI.reads (by omega) (Or.inr (Or.inr (Or.inl rfl))) (lt32n hz2)⟩
        clear hz
        gi_step
        refine Rf.start_ (fun _ _ h => h) (by rfl) (n := 9) (S := fun w' => IV w b2 bl bo bt x w' A7 (n + 2 + 2) c7 (l0 ++ le n1 2 ++ le st 2) ∧ Below W8.heap.size W8 w') (ds := [8]) #[false, false, false, false, false, false, false, false, false] (by kernel_rfl) rfl rfl ⟨(show IV w b2 bl bo bt x W8.drew A7 (n + 2 + 2) c7 (l0 ++ le n1 2 ++ le st 2) from KI8.out.next (below_drew (Below.refl _ _))), (show Below W8.heap.size W8 W8.drew from below_drew (Below.refl _ _))⟩ (fun hHeld => ?_)
        refine pure_ (i := 1) (N := some 57) (v := ?_) (a' := ?_) #[false, true, false, false, false, false, false, false, false] rfl rfl (by kernel_rfl) (fun _ _ _ h => h) (Or.inl ⟨by rfl, ?_⟩) ?_ ?_
        rotate_left
        · intro w'
          go_simp
          with_reducible rfl
        rotate_left
        · simp only [Act.put, List.setIfInBounds_toArray, List.set_cons_zero, List.set_cons_succ, i64_w, i32_w]
          rfl
        refine take_ (i := 0) (N := some 56) (v := .slice A7 (n + 2 + 2) c7) (a' := ?_) #[true, true, false, false, false, false, false, false, false] rfl rfl (by kernel_rfl) (fun _ _ _ h => h) (Or.inl ⟨by rfl, ?_⟩) hHeld ?_ ?_
        · rintro w' ⟨s0, s1⟩
          (have hq := s0.cell.1)
          go_simp
          (try rfl)
        rotate_left
        · simp only [Act.put, List.setIfInBounds_toArray, List.set_cons_zero, List.set_cons_succ, i64_w, i32_w]
          rfl
        refine one_ (i := 2) (N := some 58) #[true, true, true, false, false, false, false, false, false] rfl rfl (by kernel_rfl) (by decide) (fun K hK => ?_)
        refine goes_ Try.func45 (by kernel_rfl) rfl #[.pointer (some ⟨bt, 0, none⟩), .slice A1 n1 c1] (by rfl) rfl rfl (by simp only [List.map_toArray, List.map_cons, List.map_nil]; rfl) ?_
        with_reducible refine (KX.out _ hHeld.1 hHeld.2).mono ?_
        rintro e w9 ⟨rfl, rfl⟩
        refine ⟨_, rfl, ?_⟩
        refine hK.out _ _ ⟨hHeld.1, hHeld.2⟩ (fun hHeld => ?_)
        clear hK K
        refine norm_ (a' := ?_) ?_ ?_
        rotate_left
        · show Act.put _ (some 58) _ = _
          simp only [Act.put, List.setIfInBounds_toArray, List.set_cons_zero, List.set_cons_succ, i64_w, i32_w]
          rfl
        refine pure_ (i := 3) (N := some 59) (v := ?_) (a' := ?_) #[true, true, true, true, false, false, false, false, false] rfl rfl (by kernel_rfl) (fun _ _ _ h => h) (Or.inl ⟨by rfl, ?_⟩) ?_ ?_
        rotate_left
        · intro w'
          go_simp
          with_reducible rfl
        rotate_left
        · simp only [Act.put, List.setIfInBounds_toArray, List.set_cons_zero, List.set_cons_succ, i64_w, i32_w]
          rfl
        refine one_ (i := 4) (N := some 60) #[true, true, true, true, true, false, false, false, false] rfl rfl (by kernel_rfl) (by decide) (fun K hK => ?_)
        refine goes_ Try.func50 (by kernel_rfl) rfl #[.slice A7 (n + 2 + 2) c7, .int .u64 z, .int .i64 4] (by rfl) rfl rfl (by simp only [List.map_toArray, List.map_cons, List.map_nil]; rfl) ?_
        with_reducible refine (KPut.out _ hHeld.1).mono ?_
        rintro e W9 ⟨A9, c9, rfl, hO9, hB9⟩
        have KB9 := Aside0.mk (below_then hHeld.2 hHeld.2.size hB9)
        have KI9 := Aside0.mk (hHeld.1.next hB9)
        have KO9 := Aside0.mk hO9
        have hs9 := hB9.size
        have hs9b := hHeld.2.size
        obtain ⟨q0, q1, q2⟩ := KI9.out.cell
        refine ⟨_, rfl, ?_⟩
        refine hK.out _ _ ⟨(hHeld.1.next hB9), (below_then hHeld.2 hHeld.2.size hB9)⟩ (fun hHeld => ?_)
        clear hK K
        refine norm_ (a' := ?_) ?_ ?_
        rotate_left
        · show Act.put _ (some 60) _ = _
          simp only [Act.put, List.setIfInBounds_toArray, List.set_cons_zero, List.set_cons_succ, i64_w, i32_w]
          rfl
        refine pure_ (i := 5) (N := some 55) (v := ?_) (a' := ?_) #[true, true, true, true, true, true, false, false, false] rfl rfl (by kernel_rfl) (fun _ _ _ h => h) (Or.inl ⟨by rfl, ?_⟩) ?_ ?_
        rotate_left
        · intro w'
          go_simp
          with_reducible rfl
        rotate_left
        · simp only [Act.put, List.setIfInBounds_toArray, List.set_cons_zero, List.set_cons_succ, i64_w, i32_w]
          rfl
        refine pure_ (i := 6) (N := some 61) (v := ?_) (a' := ?_) #[true, true, true, true, true, true, true, false, false] rfl rfl (by kernel_rfl) (fun _ _ _ h => h) (Or.inl ⟨by rfl, ?_⟩) ?_ ?_
        rotate_left
        · intro w'
          go_simp
          with_reducible rfl
        rotate_left
        · simp only [Act.put, List.setIfInBounds_toArray, List.set_cons_zero, List.set_cons_succ, i64_w, i32_w]
          rfl
        refine pure_ (i := 7) (N := some 62) (v := ?_) (a' := ?_) #[true, true, true, true, true, true, true, true, false] rfl rfl (by kernel_rfl) (fun _ _ _ h => h) (Or.inl ⟨by rfl, ?_⟩) ?_ ?_
        rotate_left
        · intro w'
          go_simp
          with_reducible rfl
        rotate_left
        · simp only [Act.put, List.setIfInBounds_toArray, List.set_cons_zero, List.set_cons_succ, i64_w, i32_w]
          rfl
        refine last_ (i := 8) (N := none) #[true, true, true, true, true, true, true, true, true] rfl rfl (by kernel_rfl) (by decide) (fun K hK => ?_)
        refine skip_ (w1 := ?_) (by rfl) rfl ?_ ?_
        rotate_left
        · go_simp
          rfl
        refine hK.out _ _ ?_
        clear hK K
        refine done_ (by kernel_rfl) ?_
        have KI10 := Aside0.mk (KI9.out.turn (l1 := l0 ++ le n1 2 ++ le st 2 ++ le z 4) (n1 := n + 2 + 2 + 4) (c1 := c9) (A1 := A9) (by rw [List.length_append, le_length, ← KI8.out.len]) (KO9.out.lower (by omega)) (by omega) (by omega) (by omega) (by omega))
        have KW9 := Aside0.mk (KW8.out.next KB9.out (by have := Kb2.out; have := KI3.out.below.size; omega) (by omega))
        have KW10 := Aside0.mk (KW9.out.set (a := ⟨bo, 0, none⟩) (show w.heap.size ≤ bo by omega) (show bo ≠ p by omega) (.slice A9 (n + 2 + 2 + 4) c9))
        have KD10 : Aside0 (Kd.C (Kd.int .u8) (W9.setCell ⟨bo, 0, none⟩ (.slice A9 (n + 2 + 2 + 4) c9)) A1 n1 dt) := ⟨KD6.out _ KI10.out.below⟩
        obtain ⟨W10, hW10⟩ : ∃ W10, W10 = W9.setCell ⟨bo, 0, none⟩ (.slice A9 (n + 2 + 2 + 4) c9) := ⟨_, rfl⟩
        have hWl10 : W9.heap.size ≤ W10.heap.size := by rw [hW10]; simp [World.setCell]
        rw [← hW10] at KI10 KW10 KD10 ⊢
        clear q0 q1 q2 hW10 hHeld hO9 hB9 hcv
        obtain ⟨q0, q1, q2⟩ := KI10.out.cell
        have hl9 : l9 = l0 ++ le n1 2 ++ le st 2 ++ le z 4 ++ dt := by
          rw [hone.out, hone2.out, Kz.out, if_neg (by decide), ← Km5.out, show n1 + 32768 = st by omega]
          simp only [List.append_assoc]
        have hcls := own_cells KI10.out.row
        have Kn10 : Aside0 (n + 2 + 2 + 4 = (l0 ++ le n1 2 ++ le st 2 ++ le z 4).length) := ⟨KI10.out.len⟩
        repeat (first | (refine Rf.region_ (fun _ _ h => h) (by rfl) ?_; go_wp2_with ((with_reducible refine gate_builtin (b := .append) (xs := #[.tmp 63, .tmp 64]) rfl ?_); apply Aside0.out)) | gi_step)
        refine ⟨?_⟩
        refine Row.app_rows (w0 := W10) b2 rfl (.tmp 63) (.tmp 64) rfl (.slice A9 (n + 2 + 2 + 4) c9) (l0 ++ le n1 2 ++ le st 2 ++ le z 4) dt A1 n1 c1 rfl rfl KI10.out.row KD10.out (Below.refl _ _) (by omega) (by rw [← Kn10.out]; omega) ?_
        intro zs A11 c11 W11 e1 e2 e3 h4 h5 e4 hb11 e5 hg11 e7
        have hzl : zs.length = n + 2 + 2 + 4 + n1 := by rw [e3.out, ← Kn10.out]
        have hzs : zs = l9 := by rw [e1.out, hl9]
        rw [hzs] at hzl e2
        rw [hzs, hzl]
        rw [hzl] at e2
        have KI12 := Aside0.mk (KI10.out.grown hg11.out hcls.1 hzl.symm e2.out (by omega) (by omega) (by omega) (KI10.out.below.grown hg11.out KI10.out.below.size (fun k e => by have := hcls.1 k e; omega)) (by omega) (by omega) (by omega))
        have KW12 := Aside0.mk ((KW10.out.grown hg11.out hcls.1 (by omega) (by omega) (by omega) hcls.2).set (a := ⟨bo, 0, none⟩) (show w.heap.size ≤ bo by omega) (show bo ≠ p by omega) (.slice A11 (n + 2 + 2 + 4 + n1) c11))
        have hbo11 := hg11.out.block bo (by omega) (fun e => by have := hcls.1 bo e.symm; omega)
        have q3 : W11.cell? ⟨bo, 0, none⟩ = some (.slice A9 (n + 2 + 2 + 4) c9) := (World.cell?_of_block hbo11).trans q0
        have q4 : W11.frozen? ⟨bo, 0, none⟩ = false := (World.frozen?_of_block hbo11).trans q2
        have hs11 : b2 ≤ (W11.setCell ⟨bo, 0, none⟩ (.slice A11 (n + 2 + 2 + 4 + n1) c11)).heap.size := by
          have := hb11.out.size
          simp [World.setCell]
          omega
        clear e1 e2 e3 h4 h5 e4 hb11 e5 hg11 e7 hzs hzl hcls q0 q1 q2 hbo11 hl9
        go_wp2
        repeat gi_step
        exact ⟨⟨_, _, _, KI12, hs11⟩, KW12.out.rd, KW12.out.keep⟩
    | false =>
      · obtain ⟨m5, hm5⟩ : ∃ m, m = pp.length := ⟨_, rfl⟩
        have Kpm := Aside0.mk hm5
        clear hm5
        have hpk : pk = false := by rw [hpkm.out]; rfl
        subst hpk
        have hdt : dt = pp := by rw [hdtm.out, KPk.out] <;> rfl
        have hppl : pp.length = n1 := by rw [Kn1.out, KPk.out, if_neg (by decide)]
        have Kppl := Aside0.mk hppl
        have hpp2 : isB pp := by rw [KPk.out]; exact Kib.out.1
        have Kpp2 := Aside0.mk hpp2
        clear hppl hpp2
        have Kdt := Aside0.mk hdt
        have Kdb : Aside0 (isB dt) := ⟨by rw [hdt]; exact Kpp2.out⟩
        have Km5 : Aside0 (m5 = dt.length) := ⟨by rw [Kdt.out]; exact Kpm.out⟩
        clear hdt
        gi_step
        gi_step
        gi_step
        refine Rf.region_ (fun _ _ h => h) (by rfl) ?_
        go_wp2_with (go_at_call 49; apply Aside0.out)
        refine ⟨?_⟩
        refine (KP.out W KI.out.below).mono ?_
        rintro e W4 ⟨v4, rfl, hO4, hB4⟩
        obtain ⟨A4, c4, rfl, -, hC4⟩ := hO4.slice
        have hWl : W.heap.size ≤ W4.heap.size := hB4.size
        have KI4 := Aside0.mk (KI.out.next hB4)
        have KW4 := Aside0.mk (RW.refl.next (base := w.heap.size) (p := p) hB4 (by have := Kb2.out; have := KI3.out.below.size; omega) (by omega))
        have KO4 : Aside0 (Row.OwnB W4 b2 (.slice A4 m5 c4) dt) := ⟨by rw [Kdt.out, Kpm.out]; exact hO4.lower hWs⟩
        rw [← Kpm.out]
        clear hB4 hO4 hC4 q0 q1
        obtain ⟨q0, q1, q2⟩ := KI4.out.cell
        have hM8 : m5 ≤ 8192 := by have := Km5.out; omega
        obtain ⟨st, hst⟩ : ∃ st : Nat, (m5 : Int) + 32768 = (st : Int) := ⟨m5 + 32768, by omega⟩
        go_wp2
        repeat (first | (refine Rf.region_ (fun _ _ h => h) (by rfl) ?_; go_wp2_with (go_at_call 50; apply Aside0.out)) | gi_step)
        refine ⟨?_⟩
        refine (put_go W4 l0 A n c n1 2 Kn0.out KI4.out.reads (by omega) (Or.inr (Or.inl rfl)) (lt16n (by omega))).mono ?_
        rintro e W5 ⟨A5, c5, rfl, hO5, hB5⟩
        have KI5 := Aside0.mk (KI4.out.next hB5)
        have hWl5 : W4.heap.size ≤ W5.heap.size := hB5.size
        have KW5 := Aside0.mk (KW4.out.next hB5 (by have := Kb2.out; have := KI3.out.below.size; omega) (by omega))
        have KI6 := Aside0.mk (KI5.out.turn (l1 := l0 ++ le n1 2) (n1 := n + 2) (c1 := c5) (A1 := A5) (by rw [List.length_append, le_length, Kn0.out]) (hO5.lower (by omega)) (by omega) (by omega) (by omega) (by omega))
        have KW6 := Aside0.mk (KW5.out.set (a := ⟨bo, 0, none⟩) (show w.heap.size ≤ bo by omega) (show bo ≠ p by omega) (.slice A5 (n + 2) c5))
        obtain ⟨W6, hW6⟩ : ∃ W6, W6 = W5.setCell ⟨bo, 0, none⟩ (.slice A5 (n + 2) c5) := ⟨_, rfl⟩
        have hWl6 : W5.heap.size ≤ W6.heap.size := by rw [hW6]; simp [World.setCell]
        have KO6 : Aside0 (Row.OwnB W6 b2 (.slice A4 m5 c4) dt) := ⟨by rw [hW6]; exact OwnB_set (KO4.out.below hB5) (by show bo < b2; omega) _⟩
        rw [← hW6] at KI6 KW6
        clear q0 q1 q2
        obtain ⟨q0, q1, q2⟩ := KI5.out.cell
        go_wp2
        rw [← hW6]
        clear q0 q1 q2 hW6 hO5 hB5
        obtain ⟨q0, q1, q2⟩ := KI6.out.cell
        repeat (first | (refine Rf.region_ (fun _ _ h => h) (by rfl) ?_; go_wp2_with (go_at_call 50; apply Aside0.out)) | gi_step)
        refine ⟨?_⟩
        refine (put_go W6 (l0 ++ le n1 2) A5 (n + 2) c5 st 2 KI6.out.len KI6.out.reads (by omega) (Or.inr (Or.inl rfl)) (lt16n (by omega))).mono ?_
        rintro e W7 ⟨A7, c7, rfl, hO7, hB7⟩
        have KI7 := Aside0.mk (KI6.out.next hB7)
        have hWl7 : W6.heap.size ≤ W7.heap.size := hB7.size
        have KW7 := Aside0.mk (KW6.out.next hB7 (by have := Kb2.out; have := KI3.out.below.size; omega) (by omega))
        have KI8 := Aside0.mk (KI7.out.turn (l1 := l0 ++ le n1 2 ++ le st 2) (n1 := n + 2 + 2) (c1 := c7) (A1 := A7) (by rw [List.length_append, le_length, ← KI6.out.len]) (hO7.lower (by omega)) (by omega) (by omega) (by omega) (by omega))
        have KW8 := Aside0.mk (KW7.out.set (a := ⟨bo, 0, none⟩) (show w.heap.size ≤ bo by omega) (show bo ≠ p by omega) (.slice A7 (n + 2 + 2) c7))
        obtain ⟨W8, hW8⟩ : ∃ W8, W8 = W7.setCell ⟨bo, 0, none⟩ (.slice A7 (n + 2 + 2) c7) := ⟨_, rfl⟩
        have hWl8 : W7.heap.size ≤ W8.heap.size := by rw [hW8]; simp [World.setCell]
        rw [← hW8] at KI8 KW8
        have KO8 : Aside0 (Row.OwnB W8 b2 (.slice A4 m5 c4) dt) := ⟨by rw [hW8]; exact OwnB_set (KO6.out.below hB7) (by show bo < b2; omega) _⟩
        have KD8 : Aside0 (∀ w', Below W8.heap.size W8 w' → Kd.C (Kd.int .u8) w' A4 m5 dt) := ⟨fun w' hb => OwnB_C (KO8.out.below hb)⟩
        clear q0 q1 q2
        obtain ⟨q0, q1, q2⟩ := KI7.out.cell
        go_wp2
        rw [← hW8]
        clear q0 q1 q2 hW8 hO7 hB7
        obtain ⟨z, hz⟩ : ∃ z, z = Sum.crc 0 dt := ⟨_, rfl⟩
        have hz2 : z < 4294967296 := by rw [hz]; exact crc_lt _
        have hcv : IntKind.u64.wrap (z : Int) = (z : Int) := u64_small _ (by omega) (by omega)
        have Kz := Aside0.mk hz
        have KX : Aside0 (∀ w', IV w b2 bl bo bt x w' A7 (n + 2 + 2) c7 (l0 ++ le n1 2 ++ le st 2) → Below W8.heap.size W8 w' → Calls Try.prog 45 #[.pointer (some ⟨bt, 0, none⟩), .slice A4 m5 c4] w' fun e w'' => e = .returned (.int .u32 z) ∧ w' = w'') := ⟨fun w' hI hB => by
          have hmm : m5 ≤ 140737488351232 := by omega
          have h := Sum.crc_tab bt (Crc.iter 8) (fun i hi => Crc.iter_lt 8 i (by omega)) A4 c4 dt w' hI.tabs (by rw [← Km5.out]; exact KD8.out w' hB) (by rw [← Km5.out]; exact hmm) Kdb.out
          rw [Sum.crc_made dt Kdb.out, ← hz, ← Km5.out] at h
          exact h⟩
        have KPut : Aside0 (∀ w', IV w b2 bl bo bt x w' A7 (n + 2 + 2) c7 (l0 ++ le n1 2 ++ le st 2) → Calls Try.prog 50 #[.slice A7 (n + 2 + 2) c7, .int .u64 z, .int .i64 4] w' fun e w'' => ∃ A1 c1, e = .returned (.tuple #[.slice A1 (n + 2 + 2 + 4) c1, .int .i64 0]) ∧ Row.OwnB w'' w'.heap.size (.slice A1 (n + 2 + 2 + 4) c1) (l0 ++ le n1 2 ++ le st 2 ++ le z 4) ∧ Below w'.heap.size w' w'') := ⟨fun w' hI => put_go w' _ A7 (n + 2 + 2) c7 z 4 hI.len hI.reads (by omega) (Or.inr (Or.inr (Or.inl rfl))) (lt32n hz2)⟩
        clear hz
        gi_step
        refine Rf.start_ (fun _ _ h => h) (by rfl) (n := 9) (S := fun w' => IV w b2 bl bo bt x w' A7 (n + 2 + 2) c7 (l0 ++ le n1 2 ++ le st 2) ∧ Below W8.heap.size W8 w') (ds := [8]) #[false, false, false, false, false, false, false, false, false] (by kernel_rfl) rfl rfl ⟨(show IV w b2 bl bo bt x W8.drew A7 (n + 2 + 2) c7 (l0 ++ le n1 2 ++ le st 2) from KI8.out.next (below_drew (Below.refl _ _))), (show Below W8.heap.size W8 W8.drew from below_drew (Below.refl _ _))⟩ (fun hHeld => ?_)
        refine pure_ (i := 1) (N := some 57) (v := ?_) (a' := ?_) #[false, true, false, false, false, false, false, false, false] rfl rfl (by kernel_rfl) (fun _ _ _ h => h) (Or.inl ⟨by rfl, ?_⟩) ?_ ?_
        rotate_left
        · intro w'
          go_simp
          with_reducible rfl
        rotate_left
        · simp only [Act.put, List.setIfInBounds_toArray, List.set_cons_zero, List.set_cons_succ, i64_w, i32_w]
          rfl
        refine take_ (i := 0) (N := some 56) (v := .slice A7 (n + 2 + 2) c7) (a' := ?_) #[true, true, false, false, false, false, false, false, false] rfl rfl (by kernel_rfl) (fun _ _ _ h => h) (Or.inl ⟨by rfl, ?_⟩) hHeld ?_ ?_
        · rintro w' ⟨s0, s1⟩
          (have hq := s0.cell.1)
          go_simp
          (try rfl)
        rotate_left
        · simp only [Act.put, List.setIfInBounds_toArray, List.set_cons_zero, List.set_cons_succ, i64_w, i32_w]
          rfl
        refine one_ (i := 2) (N := some 58) #[true, true, true, false, false, false, false, false, false] rfl rfl (by kernel_rfl) (by decide) (fun K hK => ?_)
        refine goes_ Try.func45 (by kernel_rfl) rfl #[.pointer (some ⟨bt, 0, none⟩), .slice A4 m5 c4] (by rfl) rfl rfl (by simp only [List.map_toArray, List.map_cons, List.map_nil]; rfl) ?_
        with_reducible refine (KX.out _ hHeld.1 hHeld.2).mono ?_
        rintro e w9 ⟨rfl, rfl⟩
        refine ⟨_, rfl, ?_⟩
        refine hK.out _ _ ⟨hHeld.1, hHeld.2⟩ (fun hHeld => ?_)
        clear hK K
        refine norm_ (a' := ?_) ?_ ?_
        rotate_left
        · show Act.put _ (some 58) _ = _
          simp only [Act.put, List.setIfInBounds_toArray, List.set_cons_zero, List.set_cons_succ, i64_w, i32_w]
          rfl
        refine pure_ (i := 3) (N := some 59) (v := ?_) (a' := ?_) #[true, true, true, true, false, false, false, false, false] rfl rfl (by kernel_rfl) (fun _ _ _ h => h) (Or.inl ⟨by rfl, ?_⟩) ?_ ?_
        rotate_left
        · intro w'
          go_simp
          with_reducible rfl
        rotate_left
        · simp only [Act.put, List.setIfInBounds_toArray, List.set_cons_zero, List.set_cons_succ, i64_w, i32_w]
          rfl
        refine one_ (i := 4) (N := some 60) #[true, true, true, true, true, false, false, false, false] rfl rfl (by kernel_rfl) (by decide) (fun K hK => ?_)
        refine goes_ Try.func50 (by kernel_rfl) rfl #[.slice A7 (n + 2 + 2) c7, .int .u64 z, .int .i64 4] (by rfl) rfl rfl (by simp only [List.map_toArray, List.map_cons, List.map_nil]; rfl) ?_
        with_reducible refine (KPut.out _ hHeld.1).mono ?_
        rintro e W9 ⟨A9, c9, rfl, hO9, hB9⟩
        have KB9 := Aside0.mk (below_then hHeld.2 hHeld.2.size hB9)
        have KI9 := Aside0.mk (hHeld.1.next hB9)
        have KO9 := Aside0.mk hO9
        have hs9 := hB9.size
        have hs9b := hHeld.2.size
        obtain ⟨q0, q1, q2⟩ := KI9.out.cell
        refine ⟨_, rfl, ?_⟩
        refine hK.out _ _ ⟨(hHeld.1.next hB9), (below_then hHeld.2 hHeld.2.size hB9)⟩ (fun hHeld => ?_)
        clear hK K
        refine norm_ (a' := ?_) ?_ ?_
        rotate_left
        · show Act.put _ (some 60) _ = _
          simp only [Act.put, List.setIfInBounds_toArray, List.set_cons_zero, List.set_cons_succ, i64_w, i32_w]
          rfl
        refine pure_ (i := 5) (N := some 55) (v := ?_) (a' := ?_) #[true, true, true, true, true, true, false, false, false] rfl rfl (by kernel_rfl) (fun _ _ _ h => h) (Or.inl ⟨by rfl, ?_⟩) ?_ ?_
        rotate_left
        · intro w'
          go_simp
          with_reducible rfl
        rotate_left
        · simp only [Act.put, List.setIfInBounds_toArray, List.set_cons_zero, List.set_cons_succ, i64_w, i32_w]
          rfl
        refine pure_ (i := 6) (N := some 61) (v := ?_) (a' := ?_) #[true, true, true, true, true, true, true, false, false] rfl rfl (by kernel_rfl) (fun _ _ _ h => h) (Or.inl ⟨by rfl, ?_⟩) ?_ ?_
        rotate_left
        · intro w'
          go_simp
          with_reducible rfl
        rotate_left
        · simp only [Act.put, List.setIfInBounds_toArray, List.set_cons_zero, List.set_cons_succ, i64_w, i32_w]
          rfl
        refine pure_ (i := 7) (N := some 62) (v := ?_) (a' := ?_) #[true, true, true, true, true, true, true, true, false] rfl rfl (by kernel_rfl) (fun _ _ _ h => h) (Or.inl ⟨by rfl, ?_⟩) ?_ ?_
        rotate_left
        · intro w'
          go_simp
          with_reducible rfl
        rotate_left
        · simp only [Act.put, List.setIfInBounds_toArray, List.set_cons_zero, List.set_cons_succ, i64_w, i32_w]
          rfl
        refine last_ (i := 8) (N := none) #[true, true, true, true, true, true, true, true, true] rfl rfl (by kernel_rfl) (by decide) (fun K hK => ?_)
        refine skip_ (w1 := ?_) (by rfl) rfl ?_ ?_
        rotate_left
        · go_simp
          rfl
        refine hK.out _ _ ?_
        clear hK K
        refine done_ (by kernel_rfl) ?_
        have KI10 := Aside0.mk (KI9.out.turn (l1 := l0 ++ le n1 2 ++ le st 2 ++ le z 4) (n1 := n + 2 + 2 + 4) (c1 := c9) (A1 := A9) (by rw [List.length_append, le_length, ← KI8.out.len]) (KO9.out.lower (by omega)) (by omega) (by omega) (by omega) (by omega))
        have KW9 := Aside0.mk (KW8.out.next KB9.out (by have := Kb2.out; have := KI3.out.below.size; omega) (by omega))
        have KW10 := Aside0.mk (KW9.out.set (a := ⟨bo, 0, none⟩) (show w.heap.size ≤ bo by omega) (show bo ≠ p by omega) (.slice A9 (n + 2 + 2 + 4) c9))
        have KD10 : Aside0 (Kd.C (Kd.int .u8) (W9.setCell ⟨bo, 0, none⟩ (.slice A9 (n + 2 + 2 + 4) c9)) A4 m5 dt) := ⟨OwnB_C (OwnB_set (KO8.out.below KB9.out) (by show bo < b2; omega) _)⟩
        obtain ⟨W10, hW10⟩ : ∃ W10, W10 = W9.setCell ⟨bo, 0, none⟩ (.slice A9 (n + 2 + 2 + 4) c9) := ⟨_, rfl⟩
        have hWl10 : W9.heap.size ≤ W10.heap.size := by rw [hW10]; simp [World.setCell]
        rw [← hW10] at KI10 KW10 KD10 ⊢
        clear q0 q1 q2 hW10 hHeld hO9 hB9 hcv
        obtain ⟨q0, q1, q2⟩ := KI10.out.cell
        have hl9 : l9 = l0 ++ le n1 2 ++ le st 2 ++ le z 4 ++ dt := by
          rw [hone.out, hone2.out, Kz.out, if_neg (by decide), ← Km5.out, show m5 + 32768 = st by omega]
          simp only [List.append_assoc]
        have hcls := own_cells KI10.out.row
        have Kn10 : Aside0 (n + 2 + 2 + 4 = (l0 ++ le n1 2 ++ le st 2 ++ le z 4).length) := ⟨KI10.out.len⟩
        repeat (first | (refine Rf.region_ (fun _ _ h => h) (by rfl) ?_; go_wp2_with ((with_reducible refine gate_builtin (b := .append) (xs := #[.tmp 63, .tmp 64]) rfl ?_); apply Aside0.out)) | gi_step)
        refine ⟨?_⟩
        refine Row.app_rows (w0 := W10) b2 rfl (.tmp 63) (.tmp 64) rfl (.slice A9 (n + 2 + 2 + 4) c9) (l0 ++ le n1 2 ++ le st 2 ++ le z 4) dt A4 m5 c4 rfl rfl KI10.out.row KD10.out (Below.refl _ _) (by omega) (by rw [← Kn10.out]; omega) ?_
        intro zs A11 c11 W11 e1 e2 e3 h4 h5 e4 hb11 e5 hg11 e7
        have hzl : zs.length = n + 2 + 2 + 4 + m5 := by rw [e3.out, ← Kn10.out]
        have hzs : zs = l9 := by rw [e1.out, hl9]
        rw [hzs] at hzl e2
        rw [hzs, hzl]
        rw [hzl] at e2
        have KI12 := Aside0.mk (KI10.out.grown hg11.out hcls.1 hzl.symm e2.out (by omega) (by omega) (by omega) (KI10.out.below.grown hg11.out KI10.out.below.size (fun k e => by have := hcls.1 k e; omega)) (by omega) (by omega) (by omega))
        have KW12 := Aside0.mk ((KW10.out.grown hg11.out hcls.1 (by omega) (by omega) (by omega) hcls.2).set (a := ⟨bo, 0, none⟩) (show w.heap.size ≤ bo by omega) (show bo ≠ p by omega) (.slice A11 (n + 2 + 2 + 4 + m5) c11))
        have hbo11 := hg11.out.block bo (by omega) (fun e => by have := hcls.1 bo e.symm; omega)
        have q3 : W11.cell? ⟨bo, 0, none⟩ = some (.slice A9 (n + 2 + 2 + 4) c9) := (World.cell?_of_block hbo11).trans q0
        have q4 : W11.frozen? ⟨bo, 0, none⟩ = false := (World.frozen?_of_block hbo11).trans q2
        have hs11 : b2 ≤ (W11.setCell ⟨bo, 0, none⟩ (.slice A11 (n + 2 + 2 + 4 + m5) c11)).heap.size := by
          have := hb11.out.size
          simp [World.setCell]
          omega
        clear e1 e2 e3 h4 h5 e4 hb11 e5 hg11 e7 hzs hzl hcls q0 q1 q2 hbo11 hl9
        go_wp2
        repeat gi_step
        exact ⟨⟨_, _, _, KI12, hs11⟩, KW12.out.rd, KW12.out.keep⟩
  case hdone =>
    rintro D W ⟨A, n, c, KI, hWs⟩ hD hK
    obtain ⟨q0, -, -⟩ := KI.out.cell
    have KK := Aside0.mk hK
    clear hK
    go_wp2
    refine ⟨by simp, .inl ⟨_, _, rfl, run_takeDeferred KK.out, ?_⟩⟩
    have hb4 : W.heap.size ≤ (W.putObj D (.deferred none)).heap.size := by simp
    have hord := Kord.out
    refine ⟨_, results_list (rs := [.tmp 4, .tmp 5]) rfl (by simp) (.tmp (.tmp .nil)), _, rfl, ?_, ?_⟩
    · refine (OwnB_frame KI.out.row fun j hj => ?_).lower (by have := Kord.out; omega)
      obtain ⟨cells, hc⟩ := own_typed (Kd.own_of_R KI.out.row) j hj
      refine World.putObj_heap_other (fun e => ?_)
      rw [e, KK.out] at hc
      cases hc
    · have hDl := (Array.getElem?_eq_some_iff.1 KK.out).1
      exact KI.out.below.trans ⟨rfl, rfl, rfl, hb4, fun j hj => World.putObj_heap_other (by omega)⟩
end Go.Proofs.Ytpdggoapjbjmhaa.Me
