/- Boot records: Order, Choose, the page's example: walks. -/
import Derived.Test.YtgplpcjlemjabaaBo6
set_option linter.unusedVariables false
set_option linter.unusedSimpArgs false
namespace Go.Proofs.Ytgplpcjlemjabaa.Bo
open Go.RowKit Go.Proofs.Ytgplpcjlemjabaa.Fd Go.Proofs.Ytgplpcjlemjabaa.Bg Go.Proofs.YtgplpcjlemjabaaW.PrintWords Go.Proofs.YtgplpcjlemjabaaW.PrintLast Go.Proofs.YtgplpcjlemjabaaW.PrintMore
theorem alloc2_new (w : World) (a b : Obj) : ((w.alloc a).alloc b).heap[w.heap.size + 1]? = some b := by
  have h := heap_alloc_new (w.alloc a) b
  have e : (w.alloc a).heap.size = w.heap.size + 1 := by simp
  rwa [e] at h
theorem store_rec2 {ops : Array Oper} {rest : List Oper} {o : Oper} {a : Act} {w : World} {Q : Exit → Act → World → Prop} (hgd : o.guard = none) (x y : Operand) (ho : o.op = .store 45 x y) (g : Nat) (cells old : Array Value) (hx : a.eval x = .pointer (some ⟨g, 0, none⟩)) (hy : a.eval y = .agg cells) (hg : w.heap[g]? = some (.cells old 45 (0, 0))) (hs : cells.size = 4) (hold : old.size = 4) (h1 : cells.all (·.oneCell') = true)
    (h : ∀ w', w'.heap[g]? = some (.cells cells 45 (0, 0)) → (∀ b w0, b ≤ g → Below b w0 w → Below b w0 w') → (∀ k, k ≠ g → w'.heap[k]? = w.heap[k]?) → wpList Try.prog ops Q rest (a.put o.dst undef) w') : wpList Try.prog ops Q (o :: rest) a w := by
  refine wpList_store_row hgd 45 x y ho g cells hx hy 45 old hg (by rw [hs]; exact szRec) (by rw [hs, hold]) h1 (h _ (setRow_heap w g _ _ _ (0, 0) hg) (fun b w0 hb hB => ⟨hB.os, hB.tape, hB.output, by have := hB.size; simpa [World.setRow] using this, fun k hk => (setRow_other w g k cells (by omega)).trans (hB.block k hk)⟩) (fun k hk => setRow_other w g k cells hk))
theorem put4_self {w : World} {g : Nat} {r : Rec} (h : DB w g r) : DB (put4 w g (.int .u64 r.seq) (.int .i64 r.slot) (.int .i64 r.len) (.int .u64 r.sum)) g r := blk_set (blk_set (blk_set (blk_set h 0 _) 1 _) 2 _) 3 _
theorem put4_other {w : World} {g k : Nat} (h : k ≠ g) {a b c d : Value} : (put4 w g a b c d).heap[k]? = w.heap[k]? := by
  unfold put4
  rw [Below.heap_setCell _ ⟨g, 3, none⟩ _ k h, Below.heap_setCell _ ⟨g, 2, none⟩ _ k h, Below.heap_setCell _ ⟨g, 1, none⟩ _ k h, Below.heap_setCell _ ⟨g, 0, none⟩ _ k h]
theorem dec_two (l : List Int) : (dec l).2 = 0 ∨ ((dec l).2 = 6 ∧ (dec l).1 = zero) := by
  unfold dec
  by_cases h : isR l
  · rw [if_pos h]; exact Or.inl rfl
  · rw [if_neg h]; exact Or.inr ⟨rfl, rfl⟩
/-- The right ones, the one that counts first. -/
def ord (p q : Rec × Int) : List Int := if p.2 ≠ 0 then (if q.2 ≠ 0 then [] else [1]) else if q.2 ≠ 0 then [0] else if p.1.seq < q.1.seq then [1, 0] else [0, 1]
/-- Which counts. -/
def cho (p q : Rec × Int) : Int × Rec × Int := if p.2 ≠ 0 then (if q.2 ≠ 0 then (0, zero, 4) else (1, q.1, 0)) else if q.2 ≠ 0 then (0, p.1, 0) else if p.1.seq < q.1.seq then (1, q.1, 0) else (0, p.1, 0)
/-- What a call of Decode leaves. -/
def DecK (w : World) (A : Option Addr) (n c : Nat) (p : Rec × Int) : Prop := ∀ w1, Below w.heap.size w w1 → Calls Try.prog 28 #[.slice A n c] w1 fun e w' => Below w1.heap.size w1 w' ∧ e = .returned (.tuple #[.agg #[.int .u64 p.1.seq, .int .i64 p.1.slot, .int .i64 p.1.len, .int .u64 p.1.sum], .int .i64 p.2])
theorem decK (w : World) (l : List Int) (A : Option Addr) (c : Nat) (hC : Kd.C (Kd.int .u8) w A l.length l) (hl : ∀ x ∈ l, 0 ≤ x ∧ x < 256) (hm : l.length ≤ 1000000) (hc : l.length ≤ c) : DecK w A l.length c (dec l) := fun w1 hb => decode_dec w1 l A c (Kd.C_below hC hb) hl hm hc
theorem DecK.below {w w1 : World} {A : Option Addr} {n c : Nat} {p : Rec × Int} (h : DecK w A n c p) (hb : Below w.heap.size w w1) : DecK w1 A n c p := fun w2 hb2 => h w2 (below_then hb hb.size hb2)
def Ordd (w : World) (L : List Int) (e : Ending) (w' : World) : Prop := Below w.heap.size w w' ∧ ((L = [] ∧ e = .returned (.slice none 0 0)) ∨ (L ≠ [] ∧ ∃ g, e = .returned (.slice (some ⟨g, 0, none⟩) L.length L.length) ∧ w'.heap[g]? = some (.cells (L.map (Value.int .i64)).toArray 3 (0, 0))))
set_option maxHeartbeats 4000000 in
theorem order_00 (w : World) (A0 A1 : Option Addr) (n0 c0 n1 c1 : Nat) (p q : Rec) (k0 : DecK w A0 n0 c0 (p, 6)) (k1 : DecK w A1 n1 c1 (q, 6)) : Calls Try.prog 32 #[.slice A0 n0 c0, .slice A1 n1 c1] w (Ordd w []) := by
  have K0 := Aside0.mk (k0 w (Below.refl _ _))
  have K1 := Aside0.mk k1
  clear k0 k1
  go_enter Try.func32, Try.ntmps32
  go_wp2_with (go_at_call 28; apply Aside0.out)
  refine ⟨?_⟩
  refine K0.out.mono ?_
  rintro e w1 ⟨hB1, rfl⟩
  have KB1 := Aside0.mk (below_alloc hB1 (.cells #[.int .u64 p.seq, .int .i64 p.slot, .int .i64 p.len, .int .u64 p.sum] 45))
  have KR1 := Aside0.mk (heap_alloc_new w1 (.cells #[.int .u64 p.seq, .int .i64 p.slot, .int .i64 p.len, .int .u64 p.sum] 45))
  clear hB1
  go_wp2_with (go_at_call 28; apply Aside0.out)
  refine ⟨?_⟩
  refine (K1.out _ KB1.out).mono ?_
  rintro e w2 ⟨hB2, rfl⟩
  have KB2 := Aside0.mk (below_then KB1.out KB1.out.size hB2)
  have KR2 := Aside0.mk (blk_below KR1.out hB2)
  have hsz : w1.heap.size < w2.heap.size := blk_lt KR2.out
  have q5 : w2.cell? ⟨w1.heap.size, 0, none⟩ = some (.int .u64 p.seq) := (cell_of_row _ _ _ _ _ _ KR2.out).trans rfl
  clear hB2
  go_wp2
  go_ret
  have KB3 := below_alloc KB2.out (.cells #[.int .u64 q.seq, .int .i64 q.slot, .int .i64 q.len, .int .u64 q.sum] 45)
  exact ⟨KB3, Or.inl ⟨rfl, rfl⟩⟩
set_option maxHeartbeats 4000000 in
theorem order_0 (w : World) (A0 A1 : Option Addr) (n0 c0 n1 c1 : Nat) (p q : Rec) (k0 : DecK w A0 n0 c0 (p, 0)) (k1 : DecK w A1 n1 c1 (q, 6)) : Calls Try.prog 32 #[.slice A0 n0 c0, .slice A1 n1 c1] w (Ordd w [0]) := by
  have K0 := Aside0.mk (k0 w (Below.refl _ _))
  have K1 := Aside0.mk k1
  clear k0 k1
  go_enter Try.func32, Try.ntmps32
  go_wp2_with (go_at_call 28; apply Aside0.out)
  refine ⟨?_⟩
  refine K0.out.mono ?_
  rintro e w1 ⟨hB1, rfl⟩
  have KB1 := Aside0.mk (below_alloc hB1 (.cells #[.int .u64 p.seq, .int .i64 p.slot, .int .i64 p.len, .int .u64 p.sum] 45))
  have KR1 := Aside0.mk (heap_alloc_new w1 (.cells #[.int .u64 p.seq, .int .i64 p.slot, .int .i64 p.len, .int .u64 p.sum] 45))
  clear hB1
  go_wp2_with (go_at_call 28; apply Aside0.out)
  refine ⟨?_⟩
  refine (K1.out _ KB1.out).mono ?_
  rintro e w2 ⟨hB2, rfl⟩
  have KB2 := Aside0.mk (below_then KB1.out KB1.out.size hB2)
  have KR2 := Aside0.mk (blk_below KR1.out hB2)
  have hsz : w1.heap.size < w2.heap.size := blk_lt KR2.out
  have q5 : w2.cell? ⟨w1.heap.size, 0, none⟩ = some (.int .u64 p.seq) := (cell_of_row _ _ _ _ _ _ KR2.out).trans rfl
  clear hB2
  go_wp2
  go_ret
  have KB3 := below_alloc KB2.out (.cells #[.int .u64 q.seq, .int .i64 q.slot, .int .i64 q.len, .int .u64 q.sum] 45)
  exact ⟨below_alloc KB3 _, Or.inr ⟨by simp, _, rfl, alloc2_new _ _ _⟩⟩
set_option maxHeartbeats 4000000 in
theorem order_1 (w : World) (A0 A1 : Option Addr) (n0 c0 n1 c1 : Nat) (p q : Rec) (k0 : DecK w A0 n0 c0 (p, 6)) (k1 : DecK w A1 n1 c1 (q, 0)) : Calls Try.prog 32 #[.slice A0 n0 c0, .slice A1 n1 c1] w (Ordd w [1]) := by
  have K0 := Aside0.mk (k0 w (Below.refl _ _))
  have K1 := Aside0.mk k1
  clear k0 k1
  go_enter Try.func32, Try.ntmps32
  go_wp2_with (go_at_call 28; apply Aside0.out)
  refine ⟨?_⟩
  refine K0.out.mono ?_
  rintro e w1 ⟨hB1, rfl⟩
  have KB1 := Aside0.mk (below_alloc hB1 (.cells #[.int .u64 p.seq, .int .i64 p.slot, .int .i64 p.len, .int .u64 p.sum] 45))
  have KR1 := Aside0.mk (heap_alloc_new w1 (.cells #[.int .u64 p.seq, .int .i64 p.slot, .int .i64 p.len, .int .u64 p.sum] 45))
  clear hB1
  go_wp2_with (go_at_call 28; apply Aside0.out)
  refine ⟨?_⟩
  refine (K1.out _ KB1.out).mono ?_
  rintro e w2 ⟨hB2, rfl⟩
  have KB2 := Aside0.mk (below_then KB1.out KB1.out.size hB2)
  have KR2 := Aside0.mk (blk_below KR1.out hB2)
  have hsz : w1.heap.size < w2.heap.size := blk_lt KR2.out
  have q5 : w2.cell? ⟨w1.heap.size, 0, none⟩ = some (.int .u64 p.seq) := (cell_of_row _ _ _ _ _ _ KR2.out).trans rfl
  clear hB2
  go_wp2
  go_ret
  have KB3 := below_alloc KB2.out (.cells #[.int .u64 q.seq, .int .i64 q.slot, .int .i64 q.len, .int .u64 q.sum] 45)
  exact ⟨below_alloc KB3 _, Or.inr ⟨by simp, _, rfl, alloc2_new _ _ _⟩⟩
set_option maxHeartbeats 4000000 in
theorem order_10 (w : World) (A0 A1 : Option Addr) (n0 c0 n1 c1 : Nat) (p q : Rec) (hs : p.seq < q.seq) (k0 : DecK w A0 n0 c0 (p, 0)) (k1 : DecK w A1 n1 c1 (q, 0)) : Calls Try.prog 32 #[.slice A0 n0 c0, .slice A1 n1 c1] w (Ordd w [1, 0]) := by
  have K0 := Aside0.mk (k0 w (Below.refl _ _))
  have K1 := Aside0.mk k1
  clear k0 k1
  have hd : decide (q.seq > p.seq) = true := decide_eq_true hs
  clear hs
  go_enter Try.func32, Try.ntmps32
  go_wp2_with (go_at_call 28; apply Aside0.out)
  refine ⟨?_⟩
  refine K0.out.mono ?_
  rintro e w1 ⟨hB1, rfl⟩
  have KB1 := Aside0.mk (below_alloc hB1 (.cells #[.int .u64 p.seq, .int .i64 p.slot, .int .i64 p.len, .int .u64 p.sum] 45))
  have KR1 := Aside0.mk (heap_alloc_new w1 (.cells #[.int .u64 p.seq, .int .i64 p.slot, .int .i64 p.len, .int .u64 p.sum] 45))
  clear hB1
  go_wp2_with (go_at_call 28; apply Aside0.out)
  refine ⟨?_⟩
  refine (K1.out _ KB1.out).mono ?_
  rintro e w2 ⟨hB2, rfl⟩
  have KB2 := Aside0.mk (below_then KB1.out KB1.out.size hB2)
  have KR2 := Aside0.mk (blk_below KR1.out hB2)
  have hsz : w1.heap.size < w2.heap.size := blk_lt KR2.out
  have q5 : w2.cell? ⟨w1.heap.size, 0, none⟩ = some (.int .u64 p.seq) := (cell_of_row _ _ _ _ _ _ KR2.out).trans rfl
  clear hB2
  go_wp2
  go_ret
  have KB3 := below_alloc KB2.out (.cells #[.int .u64 q.seq, .int .i64 q.slot, .int .i64 q.len, .int .u64 q.sum] 45)
  exact ⟨below_alloc KB3 _, Or.inr ⟨by simp, _, rfl, alloc2_new _ _ _⟩⟩
set_option maxHeartbeats 4000000 in
theorem order_01 (w : World) (A0 A1 : Option Addr) (n0 c0 n1 c1 : Nat) (p q : Rec) (hs : ¬ p.seq < q.seq) (k0 : DecK w A0 n0 c0 (p, 0)) (k1 : DecK w A1 n1 c1 (q, 0)) : Calls Try.prog 32 #[.slice A0 n0 c0, .slice A1 n1 c1] w (Ordd w [0, 1]) := by
  have K0 := Aside0.mk (k0 w (Below.refl _ _))
  have K1 := Aside0.mk k1
  clear k0 k1
  have hd : decide (q.seq > p.seq) = false := decide_eq_false hs
  clear hs
  go_enter Try.func32, Try.ntmps32
  go_wp2_with (go_at_call 28; apply Aside0.out)
  refine ⟨?_⟩
  refine K0.out.mono ?_
  rintro e w1 ⟨hB1, rfl⟩
  have KB1 := Aside0.mk (below_alloc hB1 (.cells #[.int .u64 p.seq, .int .i64 p.slot, .int .i64 p.len, .int .u64 p.sum] 45))
  have KR1 := Aside0.mk (heap_alloc_new w1 (.cells #[.int .u64 p.seq, .int .i64 p.slot, .int .i64 p.len, .int .u64 p.sum] 45))
  clear hB1
  go_wp2_with (go_at_call 28; apply Aside0.out)
  refine ⟨?_⟩
  refine (K1.out _ KB1.out).mono ?_
  rintro e w2 ⟨hB2, rfl⟩
  have KB2 := Aside0.mk (below_then KB1.out KB1.out.size hB2)
  have KR2 := Aside0.mk (blk_below KR1.out hB2)
  have hsz : w1.heap.size < w2.heap.size := blk_lt KR2.out
  have q5 : w2.cell? ⟨w1.heap.size, 0, none⟩ = some (.int .u64 p.seq) := (cell_of_row _ _ _ _ _ _ KR2.out).trans rfl
  clear hB2
  go_wp2
  go_ret
  have KB3 := below_alloc KB2.out (.cells #[.int .u64 q.seq, .int .i64 q.slot, .int .i64 q.len, .int .u64 q.sum] 45)
  exact ⟨below_alloc KB3 _, Or.inr ⟨by simp, _, rfl, alloc2_new _ _ _⟩⟩
theorem order_any (w : World) (A0 A1 : Option Addr) (n0 c0 n1 c1 : Nat) (l0 l1 : List Int) (k0 : DecK w A0 n0 c0 (dec l0)) (k1 : DecK w A1 n1 c1 (dec l1)) : Calls Try.prog 32 #[.slice A0 n0 c0, .slice A1 n1 c1] w (Ordd w (ord (dec l0) (dec l1))) := by
  have h0 := dec_two l0
  have h1 := dec_two l1
  obtain ⟨⟨p, e0⟩, hp⟩ : ∃ p, p = dec l0 := ⟨_, rfl⟩
  obtain ⟨⟨q, e1⟩, hq⟩ : ∃ q, q = dec l1 := ⟨_, rfl⟩
  rw [← hp] at h0 k0 ⊢
  rw [← hq] at h1 k1 ⊢
  have h0 : e0 = 0 ∨ e0 = 6 := h0.imp id (·.1)
  have h1 : e1 = 0 ∨ e1 = 6 := h1.imp id (·.1)
  rcases h0 with rfl | rfl <;> rcases h1 with rfl | rfl
  · by_cases hs : p.seq < q.seq
    · have e : ord (p, 0) (q, 0) = [1, 0] := by simp [ord, hs]
      rw [e]
      exact order_10 w A0 A1 n0 c0 n1 c1 p q hs k0 k1
    · have e : ord (p, 0) (q, 0) = [0, 1] := by simp [ord, hs]
      rw [e]
      exact order_01 w A0 A1 n0 c0 n1 c1 p q hs k0 k1
  · exact order_0 w A0 A1 n0 c0 n1 c1 p q k0 k1
  · exact order_1 w A0 A1 n0 c0 n1 c1 p q k0 k1
  · exact order_00 w A0 A1 n0 c0 n1 c1 p q k0 k1
/-- What Choose answers. -/
def ChoP (w : World) (x : Int × Rec × Int) (e : Ending) (w' : World) : Prop := Below w.heap.size w w' ∧ e = .returned (.tuple #[.int .i64 x.1, .agg #[.int .u64 x.2.1.seq, .int .i64 x.2.1.slot, .int .i64 x.2.1.len, .int .u64 x.2.1.sum], .int .i64 x.2.2])
set_option maxHeartbeats 4000000 in
theorem choose_none (w : World) (A0 A1 : Option Addr) (n0 c0 n1 c1 : Nat) (L : List Int) (hL : L = []) (ko : ∀ w1, Below w.heap.size w w1 → Calls Try.prog 32 #[.slice A0 n0 c0, .slice A1 n1 c1] w1 (Ordd w1 L)) : Calls Try.prog 30 #[.slice A0 n0 c0, .slice A1 n1 c1] w (ChoP w (0, zero, 4)) := by
  subst hL
  have KB1 := Aside0.mk (below_alloc (Below.refl w.heap.size w) (.cells #[.int .u64 0, .int .i64 0, .int .i64 0, .int .u64 0] 45))
  have KR1 := Aside0.mk (heap_alloc_new w (.cells #[.int .u64 0, .int .i64 0, .int .i64 0, .int .u64 0] 45))
  have KO := Aside0.mk (ko _ KB1.out)
  clear ko
  go_enter Try.func30, Try.ntmps30
  go_wp2_with (go_at_call 32; apply Aside0.out)
  refine ⟨?_⟩
  refine KO.out.mono ?_
  rintro e w2 ⟨hB2, ⟨-, rfl⟩ | ⟨hL, -⟩⟩
  · have KB2 := Aside0.mk (below_then KB1.out KB1.out.size hB2)
    have KZ2 : Aside0 (DB w2 w.heap.size zero) := ⟨blk_below KR1.out hB2⟩
    clear hB2
    go_wp2_with ((with_reducible refine gate_store (t := 45) (p := 5) rfl ?_); apply Aside0.out)
    refine ⟨?_⟩
    refine store_rec rfl (.tmp 5) (.tmp 14) rfl w.heap.size #[] #[.int .u64 0, .int .i64 0, .int .i64 0, .int .u64 0] _ rfl rfl KZ2.out rfl rfl (by simp [Value.oneCell']) ?_
    intro wd hg hB
    have KBd := Aside0.mk (hB _ _ (Nat.le_refl _) KB2.out)
    have KWe := Aside0.mk hg
    clear hg hB
    go_wp2
    refine bodyPost_ret (results_list (rs := [.tmp 4, .cell 5 45, .tmp 6]) rfl (by simp) (.tmp (.cell w.heap.size 45 _ _ _ rfl KWe.out Try.underlying45 rfl szRec (.tmp .nil)))) rfl ?_
    exact ⟨KBd.out, rfl⟩
  · exact absurd rfl hL
set_option maxHeartbeats 4000000 in
set_option maxRecDepth 100000 in
theorem choose_0 (w : World) (A0 A1 : Option Addr) (n0 c0 n1 c1 : Nat) (p : Rec) (L : List Int) (T : List Int) (hL : L = 0 :: T) (hT : T.length ≤ 1) (kk : DecK w A0 n0 c0 (p, 0)) (ko : ∀ w1, Below w.heap.size w w1 → Calls Try.prog 32 #[.slice A0 n0 c0, .slice A1 n1 c1] w1 (Ordd w1 L)) : Calls Try.prog 30 #[.slice A0 n0 c0, .slice A1 n1 c1] w (ChoP w (0, p, 0)) := by
  subst hL
  have KB1 := Aside0.mk (below_alloc (Below.refl w.heap.size w) (.cells #[.int .u64 0, .int .i64 0, .int .i64 0, .int .u64 0] 45))
  have KR1 := Aside0.mk (heap_alloc_new w (.cells #[.int .u64 0, .int .i64 0, .int .i64 0, .int .u64 0] 45))
  have KO := Aside0.mk (ko _ KB1.out)
  have KD := Aside0.mk kk
  clear ko kk
  go_enter Try.func30, Try.ntmps30
  go_wp2_with (go_at_call 32; apply Aside0.out)
  refine ⟨?_⟩
  refine KO.out.mono ?_
  rintro e w2 ⟨hB2, ⟨hL, -⟩ | ⟨-, g, rfl, hg⟩⟩
  · cases hL
  have KB2 := Aside0.mk (below_then KB1.out KB1.out.size hB2)
  have KZ2 : Aside0 (DB w2 w.heap.size zero) := ⟨blk_below KR1.out hB2⟩
  have hgl : g < w2.heap.size := blk_lt hg
  have hq : w2.cell? ⟨g, 0, none⟩ = some (.int .i64 0) := (cell_of_row _ _ _ _ _ _ hg).trans rfl
  have Kg := Aside0.mk hg
  obtain ⟨n, hn⟩ : ∃ n, n = ((0 : Int) :: T).length := ⟨_, rfl⟩
  rw [← hn] at ⊢
  have hn1 : 1 ≤ n := by rw [hn]; simp
  have hn2 : n ≤ 2 := by rw [hn]; simp; omega
  have hnz : ((n : Int) == 0) = false := by simp; omega
  have hnp : ((0 : Int) < (n : Int)) = True := eq_true (by omega)
  have hnp2 : (0 < n) = True := eq_true (by omega)
  clear hB2 hg hn
  go_wp2_with (go_at_call 28; apply Aside0.out)
  refine ⟨?_⟩
  have hb3 := below_alloc (Below.refl w2.heap.size w2) (.cells #[.slice A0 n0 c0, .slice A1 n1 c1] 22)
  generalize hW : World.alloc w2 _ = w3 at hb3 ⊢
  have KB3 := Aside0.mk (below_then KB2.out KB2.out.size hb3)
  have KZ3 : Aside0 (DB w3 w.heap.size zero) := ⟨blk_below KZ2.out hb3⟩
  have Kg3 := Aside0.mk (blk_below Kg.out hb3)
  clear hb3 hW hq hgl
  refine (KD.out _ KB3.out).mono ?_
  rintro e w4 ⟨hB4, rfl⟩
  have KB4 := Aside0.mk (below_then KB3.out KB3.out.size hB4)
  have KZ4 : Aside0 (DB w4 w.heap.size zero) := ⟨blk_below KZ3.out hB4⟩
  have Kg4 := Aside0.mk (blk_below Kg3.out hB4)
  clear hB4
  go_wp2_with ((with_reducible refine gate_store (t := 45) (p := 5) rfl ?_); apply Aside0.out)
  refine ⟨?_⟩
  refine store_rec2 rfl (.tmp 5) (.tmp 25) rfl w.heap.size #[.int .u64 p.seq, .int .i64 p.slot, .int .i64 p.len, .int .u64 p.sum] _ rfl rfl KZ4.out rfl rfl (by simp [Value.oneCell']) ?_
  intro w5 hz hB hO
  have hgne : g ≠ w.heap.size := fun he => by
    have h1 := Kg4.out
    have h2 := KZ4.out
    unfold DB at h2
    rw [he, h2] at h1
    injection h1 with h1
    injection h1 with _ ht
    exact absurd ht (by decide)
  have KWe : Aside0 (DB w5 w.heap.size p) := ⟨hz⟩
  have KBe := Aside0.mk (hB _ _ (Nat.le_refl _) KB4.out)
  have Kg5 := Aside0.mk ((hO g hgne).trans Kg4.out)
  clear hz hB hO
  go_wp2
  refine start_ (n := 7) (S := fun w' => DB w' w.heap.size p ∧ w'.heap[g]? = some (.cells (((0 : Int) :: T).map (Value.int .i64)).toArray 3 (0, 0)) ∧ Below w.heap.size w w') (ds := []) #[false, false, false, false, false, false, false] (by kernel_rfl) rfl rfl ⟨(show DB w5.drew w.heap.size p from KWe.out), Kg5.out, (below_drew KBe.out)⟩ (fun hHeld => ?_)
  refine pure_ (i := 0) (N := some 27) (v := ?_) (a' := ?_) #[true, false, false, false, false, false, false] rfl rfl (by kernel_rfl) (fun _ _ _ h => h) (Or.inl ⟨by rfl, ?_⟩) ?_ ?_
  rotate_left
  · intro w'
    go_simp
    with_reducible rfl
  rotate_left
  · simp only [Act.put, List.setIfInBounds_toArray, List.set_cons_zero, List.set_cons_succ, i64_w, i32_w]
    rfl
  refine pure_ (i := 1) (N := some 28) (v := ?_) (a' := ?_) #[true, true, false, false, false, false, false] rfl rfl (by kernel_rfl) (fun _ _ _ h => h) (Or.inl ⟨by rfl, ?_⟩) ?_ ?_
  rotate_left
  · intro w'
    go_simp
    with_reducible rfl
  rotate_left
  · simp only [Act.put, List.setIfInBounds_toArray, List.set_cons_zero, List.set_cons_succ, i64_w, i32_w]
    rfl
  refine take_ (i := 2) (N := some 29) (v := .int .i64 0) (a' := ?_) #[true, true, true, false, false, false, false] rfl rfl (by kernel_rfl) (fun _ _ _ h => h) (Or.inl ⟨by rfl, ?_⟩) hHeld ?_ ?_
  · rintro w' ⟨s0, s1, s2⟩
    have z0 : w'.cell? ⟨g, 0, none⟩ = some (.int .i64 0) := (cell_of_row _ _ _ _ _ _ s1).trans rfl
    go_simp
    (try rfl)
  rotate_left
  · simp only [Act.put, List.setIfInBounds_toArray, List.set_cons_zero, List.set_cons_succ, i64_w, i32_w]
    rfl
  refine pure_ (i := 4) (N := some 4) (v := ?_) (a' := ?_) #[true, true, true, false, true, false, false] rfl rfl (by kernel_rfl) (fun _ _ _ h => h) (Or.inl ⟨by rfl, ?_⟩) ?_ ?_
  rotate_left
  · intro w'
    go_simp
    with_reducible rfl
  rotate_left
  · simp only [Act.put, List.setIfInBounds_toArray, List.set_cons_zero, List.set_cons_succ, i64_w, i32_w]
    rfl
  refine take_ (i := 3) (N := some 30) (v := .agg #[.int .u64 p.seq, .int .i64 p.slot, .int .i64 p.len, .int .u64 p.sum]) (a' := ?_) #[true, true, true, true, true, false, false] rfl rfl (by kernel_rfl) (fun _ _ _ h => h) (Or.inl ⟨by rfl, ?_⟩) hHeld ?_ ?_
  · rintro w' ⟨s0, s1, s2⟩
    (obtain ⟨z0, z1, z2, z3⟩ := box_cells s0)
    go_simp
    (try rfl)
  rotate_left
  · simp only [Act.put, List.setIfInBounds_toArray, List.set_cons_zero, List.set_cons_succ, i64_w, i32_w]
    rfl
  refine one_ (i := 5) (N := none) #[true, true, true, true, true, true, false] rfl rfl (by kernel_rfl) (by decide) (fun K hK => ?_)
  (obtain ⟨cc0, cc1, cc2, cc3⟩ := box_cells KWe.out)
  have cf0 := blk_frozen KWe.out 0
  have cf1 := blk_frozen KWe.out 1
  have cf2 := blk_frozen KWe.out 2
  have cf3 := blk_frozen KWe.out 3
  refine skip_ (w1 := ?_) (by rfl) rfl ?_ ?_
  rotate_left
  · (go_simp; rfl)
  refine hK.out _ _ ⟨(put4_self hHeld.1), ((put4_other hgne).trans hHeld.2.1), (put4_below hHeld.2.2 (Nat.le_refl _) _ _ _ _)⟩ (fun hHeld => ?_)
  clear hK K
  refine pure_ (i := 6) (N := some 6) (v := ?_) (a' := ?_) #[true, true, true, true, true, true, true] rfl rfl (by kernel_rfl) (fun _ _ _ h => h) (Or.inl ⟨by rfl, ?_⟩) ?_ ?_
  rotate_left
  · intro w'
    go_simp
    with_reducible rfl
  rotate_left
  · simp only [Act.put, List.setIfInBounds_toArray, List.set_cons_zero, List.set_cons_succ, i64_w, i32_w]
    rfl
  refine done_ (by kernel_rfl) ?_
  have KWf := Aside0.mk hHeld.1
  have KBf := Aside0.mk hHeld.2.2
  clear hHeld
  go_wp2
  refine bodyPost_ret (results_list (rs := [.tmp 4, .cell 5 45, .tmp 6]) rfl (by simp) (.tmp (.cell w.heap.size 45 _ _ _ rfl KWf.out Try.underlying45 rfl szRec (.tmp .nil)))) rfl ?_
  exact ⟨KBf.out, rfl⟩
set_option maxHeartbeats 4000000 in
set_option maxRecDepth 100000 in
theorem choose_1 (w : World) (A0 A1 : Option Addr) (n0 c0 n1 c1 : Nat) (q : Rec) (L : List Int) (T : List Int) (hL : L = 1 :: T) (hT : T.length ≤ 1) (kk : DecK w A1 n1 c1 (q, 0)) (ko : ∀ w1, Below w.heap.size w w1 → Calls Try.prog 32 #[.slice A0 n0 c0, .slice A1 n1 c1] w1 (Ordd w1 L)) : Calls Try.prog 30 #[.slice A0 n0 c0, .slice A1 n1 c1] w (ChoP w (1, q, 0)) := by
  subst hL
  have KB1 := Aside0.mk (below_alloc (Below.refl w.heap.size w) (.cells #[.int .u64 0, .int .i64 0, .int .i64 0, .int .u64 0] 45))
  have KR1 := Aside0.mk (heap_alloc_new w (.cells #[.int .u64 0, .int .i64 0, .int .i64 0, .int .u64 0] 45))
  have KO := Aside0.mk (ko _ KB1.out)
  have KD := Aside0.mk kk
  clear ko kk
  go_enter Try.func30, Try.ntmps30
  go_wp2_with (go_at_call 32; apply Aside0.out)
  refine ⟨?_⟩
  refine KO.out.mono ?_
  rintro e w2 ⟨hB2, ⟨hL, -⟩ | ⟨-, g, rfl, hg⟩⟩
  · cases hL
  have KB2 := Aside0.mk (below_then KB1.out KB1.out.size hB2)
  have KZ2 : Aside0 (DB w2 w.heap.size zero) := ⟨blk_below KR1.out hB2⟩
  have hgl : g < w2.heap.size := blk_lt hg
  have hq : w2.cell? ⟨g, 0, none⟩ = some (.int .i64 1) := (cell_of_row _ _ _ _ _ _ hg).trans rfl
  have Kg := Aside0.mk hg
  obtain ⟨n, hn⟩ : ∃ n, n = ((1 : Int) :: T).length := ⟨_, rfl⟩
  rw [← hn] at ⊢
  have hn1 : 1 ≤ n := by rw [hn]; simp
  have hn2 : n ≤ 2 := by rw [hn]; simp; omega
  have hnz : ((n : Int) == 0) = false := by simp; omega
  have hnp : ((0 : Int) < (n : Int)) = True := eq_true (by omega)
  have hnp2 : (0 < n) = True := eq_true (by omega)
  clear hB2 hg hn
  go_wp2_with (go_at_call 28; apply Aside0.out)
  refine ⟨?_⟩
  have hb3 := below_alloc (Below.refl w2.heap.size w2) (.cells #[.slice A0 n0 c0, .slice A1 n1 c1] 22)
  generalize hW : World.alloc w2 _ = w3 at hb3 ⊢
  have KB3 := Aside0.mk (below_then KB2.out KB2.out.size hb3)
  have KZ3 : Aside0 (DB w3 w.heap.size zero) := ⟨blk_below KZ2.out hb3⟩
  have Kg3 := Aside0.mk (blk_below Kg.out hb3)
  clear hb3 hW hq hgl
  refine (KD.out _ KB3.out).mono ?_
  rintro e w4 ⟨hB4, rfl⟩
  have KB4 := Aside0.mk (below_then KB3.out KB3.out.size hB4)
  have KZ4 : Aside0 (DB w4 w.heap.size zero) := ⟨blk_below KZ3.out hB4⟩
  have Kg4 := Aside0.mk (blk_below Kg3.out hB4)
  clear hB4
  go_wp2_with ((with_reducible refine gate_store (t := 45) (p := 5) rfl ?_); apply Aside0.out)
  refine ⟨?_⟩
  refine store_rec2 rfl (.tmp 5) (.tmp 25) rfl w.heap.size #[.int .u64 q.seq, .int .i64 q.slot, .int .i64 q.len, .int .u64 q.sum] _ rfl rfl KZ4.out rfl rfl (by simp [Value.oneCell']) ?_
  intro w5 hz hB hO
  have hgne : g ≠ w.heap.size := fun he => by
    have h1 := Kg4.out
    have h2 := KZ4.out
    unfold DB at h2
    rw [he, h2] at h1
    injection h1 with h1
    injection h1 with _ ht
    exact absurd ht (by decide)
  have KWe : Aside0 (DB w5 w.heap.size q) := ⟨hz⟩
  have KBe := Aside0.mk (hB _ _ (Nat.le_refl _) KB4.out)
  have Kg5 := Aside0.mk ((hO g hgne).trans Kg4.out)
  clear hz hB hO
  go_wp2
  refine start_ (n := 7) (S := fun w' => DB w' w.heap.size q ∧ w'.heap[g]? = some (.cells (((1 : Int) :: T).map (Value.int .i64)).toArray 3 (0, 0)) ∧ Below w.heap.size w w') (ds := []) #[false, false, false, false, false, false, false] (by kernel_rfl) rfl rfl ⟨(show DB w5.drew w.heap.size q from KWe.out), Kg5.out, (below_drew KBe.out)⟩ (fun hHeld => ?_)
  refine pure_ (i := 0) (N := some 27) (v := ?_) (a' := ?_) #[true, false, false, false, false, false, false] rfl rfl (by kernel_rfl) (fun _ _ _ h => h) (Or.inl ⟨by rfl, ?_⟩) ?_ ?_
  rotate_left
  · intro w'
    go_simp
    with_reducible rfl
  rotate_left
  · simp only [Act.put, List.setIfInBounds_toArray, List.set_cons_zero, List.set_cons_succ, i64_w, i32_w]
    rfl
  refine pure_ (i := 1) (N := some 28) (v := ?_) (a' := ?_) #[true, true, false, false, false, false, false] rfl rfl (by kernel_rfl) (fun _ _ _ h => h) (Or.inl ⟨by rfl, ?_⟩) ?_ ?_
  rotate_left
  · intro w'
    go_simp
    with_reducible rfl
  rotate_left
  · simp only [Act.put, List.setIfInBounds_toArray, List.set_cons_zero, List.set_cons_succ, i64_w, i32_w]
    rfl
  refine take_ (i := 2) (N := some 29) (v := .int .i64 1) (a' := ?_) #[true, true, true, false, false, false, false] rfl rfl (by kernel_rfl) (fun _ _ _ h => h) (Or.inl ⟨by rfl, ?_⟩) hHeld ?_ ?_
  · rintro w' ⟨s0, s1, s2⟩
    have z0 : w'.cell? ⟨g, 0, none⟩ = some (.int .i64 1) := (cell_of_row _ _ _ _ _ _ s1).trans rfl
    go_simp
    (try rfl)
  rotate_left
  · simp only [Act.put, List.setIfInBounds_toArray, List.set_cons_zero, List.set_cons_succ, i64_w, i32_w]
    rfl
  refine pure_ (i := 4) (N := some 4) (v := ?_) (a' := ?_) #[true, true, true, false, true, false, false] rfl rfl (by kernel_rfl) (fun _ _ _ h => h) (Or.inl ⟨by rfl, ?_⟩) ?_ ?_
  rotate_left
  · intro w'
    go_simp
    with_reducible rfl
  rotate_left
  · simp only [Act.put, List.setIfInBounds_toArray, List.set_cons_zero, List.set_cons_succ, i64_w, i32_w]
    rfl
  refine take_ (i := 3) (N := some 30) (v := .agg #[.int .u64 q.seq, .int .i64 q.slot, .int .i64 q.len, .int .u64 q.sum]) (a' := ?_) #[true, true, true, true, true, false, false] rfl rfl (by kernel_rfl) (fun _ _ _ h => h) (Or.inl ⟨by rfl, ?_⟩) hHeld ?_ ?_
  · rintro w' ⟨s0, s1, s2⟩
    (obtain ⟨z0, z1, z2, z3⟩ := box_cells s0)
    go_simp
    (try rfl)
  rotate_left
  · simp only [Act.put, List.setIfInBounds_toArray, List.set_cons_zero, List.set_cons_succ, i64_w, i32_w]
    rfl
  refine one_ (i := 5) (N := none) #[true, true, true, true, true, true, false] rfl rfl (by kernel_rfl) (by decide) (fun K hK => ?_)
  (obtain ⟨cc0, cc1, cc2, cc3⟩ := box_cells KWe.out)
  have cf0 := blk_frozen KWe.out 0
  have cf1 := blk_frozen KWe.out 1
  have cf2 := blk_frozen KWe.out 2
  have cf3 := blk_frozen KWe.out 3
  refine skip_ (w1 := ?_) (by rfl) rfl ?_ ?_
  rotate_left
  · (go_simp; rfl)
  refine hK.out _ _ ⟨(put4_self hHeld.1), ((put4_other hgne).trans hHeld.2.1), (put4_below hHeld.2.2 (Nat.le_refl _) _ _ _ _)⟩ (fun hHeld => ?_)
  clear hK K
  refine pure_ (i := 6) (N := some 6) (v := ?_) (a' := ?_) #[true, true, true, true, true, true, true] rfl rfl (by kernel_rfl) (fun _ _ _ h => h) (Or.inl ⟨by rfl, ?_⟩) ?_ ?_
  rotate_left
  · intro w'
    go_simp
    with_reducible rfl
  rotate_left
  · simp only [Act.put, List.setIfInBounds_toArray, List.set_cons_zero, List.set_cons_succ, i64_w, i32_w]
    rfl
  refine done_ (by kernel_rfl) ?_
  have KWf := Aside0.mk hHeld.1
  have KBf := Aside0.mk hHeld.2.2
  clear hHeld
  go_wp2
  refine bodyPost_ret (results_list (rs := [.tmp 4, .cell 5 45, .tmp 6]) rfl (by simp) (.tmp (.cell w.heap.size 45 _ _ _ rfl KWf.out Try.underlying45 rfl szRec (.tmp .nil)))) rfl ?_
  exact ⟨KBf.out, rfl⟩
theorem choose_any (w : World) (A0 A1 : Option Addr) (n0 c0 n1 c1 : Nat) (l0 l1 : List Int) (k0 : DecK w A0 n0 c0 (dec l0)) (k1 : DecK w A1 n1 c1 (dec l1)) : Calls Try.prog 30 #[.slice A0 n0 c0, .slice A1 n1 c1] w (ChoP w (cho (dec l0) (dec l1))) := by
  have ko : ∀ w1, Below w.heap.size w w1 → Calls Try.prog 32 #[.slice A0 n0 c0, .slice A1 n1 c1] w1 (Ordd w1 (ord (dec l0) (dec l1))) := fun w1 hb => order_any w1 A0 A1 n0 c0 n1 c1 l0 l1 (k0.below hb) (k1.below hb)
  have h0 := dec_two l0
  have h1 := dec_two l1
  obtain ⟨⟨p, e0⟩, hp⟩ : ∃ p, p = dec l0 := ⟨_, rfl⟩
  obtain ⟨⟨q, e1⟩, hq⟩ : ∃ q, q = dec l1 := ⟨_, rfl⟩
  rw [← hp] at h0 k0 ko ⊢
  rw [← hq] at h1 k1 ko ⊢
  have h0 : e0 = 0 ∨ e0 = 6 := h0.imp id (·.1)
  have h1 : e1 = 0 ∨ e1 = 6 := h1.imp id (·.1)
  rcases h0 with rfl | rfl <;> rcases h1 with rfl | rfl
  · by_cases hs : p.seq < q.seq
    · have e : cho (p, 0) (q, 0) = (1, q, 0) := by simp [cho, hs]
      rw [e]
      exact choose_1 w A0 A1 n0 c0 n1 c1 q _ [0] (by simp [ord, hs]) (by simp) k1 ko
    · have e : cho (p, 0) (q, 0) = (0, p, 0) := by simp [cho, hs]
      rw [e]
      exact choose_0 w A0 A1 n0 c0 n1 c1 p _ [1] (by simp [ord, hs]) (by simp) k0 ko
  · exact choose_0 w A0 A1 n0 c0 n1 c1 p _ [] rfl (by simp) k0 ko
  · exact choose_1 w A0 A1 n0 c0 n1 c1 q _ [] rfl (by simp) k1 ko
  · exact choose_none w A0 A1 n0 c0 n1 c1 _ rfl ko
def recA : Rec := ⟨7, 1, 300, 9⟩
def recB : Rec := ⟨8, 0, 200, 5⟩
theorem enc_sl (r : Rec) (hr : right r) (hw : Wf r) (w : World) : Calls Try.prog 24 #[.agg #[.int .u64 r.seq, .int .i64 r.slot, .int .i64 r.len, .int .u64 r.sum]] w fun e w' => ∃ A c, e = .returned (.tuple #[.slice A 32 c, .int .i64 0]) ∧ 32 ≤ c ∧ Kd.C (Kd.int .u8) w' A 32 (bytesB r) ∧ Below w.heap.size w w' :=
  (encode_ok r hr hw w).mono fun e w' ⟨u, he, ho, hb⟩ => by
    obtain ⟨A, c, rfl, hc, hC⟩ := ho.slice
    rw [bytesB_len] at he hC hc
    exact ⟨A, c, he, hc, hC, hb⟩
theorem wfA : Wf recA := ⟨by decide, by decide, by decide⟩
theorem wfB : Wf recB := ⟨by decide, by decide, by decide⟩
theorem encA (w : World) : Calls Try.prog 24 #[.agg #[.int .u64 7, .int .i64 1, .int .i64 300, .int .u64 9]] w fun e w' => ∃ A c, e = .returned (.tuple #[.slice A 32 c, .int .i64 0]) ∧ 32 ≤ c ∧ Kd.C (Kd.int .u8) w' A 32 (bytesB recA) ∧ Below w.heap.size w w' := enc_sl recA (by decide) wfA w
theorem encB (w : World) : Calls Try.prog 24 #[.agg #[.int .u64 8, .int .i64 0, .int .i64 200, .int .u64 5]] w fun e w' => ∃ A c, e = .returned (.tuple #[.slice A 32 c, .int .i64 0]) ∧ 32 ≤ c ∧ Kd.C (Kd.int .u8) w' A 32 (bytesB recB) ∧ Below w.heap.size w w' := enc_sl recB (by decide) wfB w
theorem dec_own (r : Rec) (hr : right r) (hw : Wf r) : dec (bytesB r) = (r, 0) := by
  have h := dec_back r hr hw []
  rwa [List.append_nil] at h
theorem decK_own (r : Rec) (hr : right r) (hw : Wf r) (w : World) (A : Option Addr) (c : Nat) (hC : Kd.C (Kd.int .u8) w A 32 (bytesB r)) (hc : 32 ≤ c) : DecK w A 32 c (r, 0) := by
  have h := decK w (bytesB r) A c (by rw [bytesB_len]; exact hC) (bytesB_isB r) (by rw [bytesB_len]; decide) (by rw [bytesB_len]; exact hc)
  rwa [bytesB_len, dec_own r hr hw] at h
theorem live_cho (w : World) (A0 A1 : Option Addr) (c0 c1 : Nat) (h0 : Kd.C (Kd.int .u8) w A0 32 (bytesB recA)) (h1 : Kd.C (Kd.int .u8) w A1 32 (bytesB recB)) (g0 : 32 ≤ c0) (g1 : 32 ≤ c1) : Calls Try.prog 30 #[.slice A0 32 c0, .slice A1 32 c1] w fun e w' => Below w.heap.size w w' ∧ e = .returned (.tuple #[.int .i64 1, .agg #[.int .u64 8, .int .i64 0, .int .i64 200, .int .u64 5], .int .i64 0]) := by
  have k0 := decK_own recA (by decide) wfA w A0 c0 h0 g0
  have k1 := decK_own recB (by decide) wfB w A1 c1 h1 g1
  rw [← dec_own recA (by decide) wfA] at k0
  rw [← dec_own recB (by decide) wfB] at k1
  have h := choose_any w A0 A1 32 c0 32 c1 _ _ k0 k1
  rw [dec_own recA (by decide) wfA, dec_own recB (by decide) wfB] at h
  exact h
set_option maxHeartbeats 4000000 in
theorem live_any (w : World) : Calls Try.prog 23 #[] w fun e w' => e = .returned (.bool true) ∧ Below w.heap.size w w' := by
  go_enter Try.func23, Try.ntmps23
  go_wp2_with (go_at_call 24; apply Aside0.out)
  refine ⟨?_⟩
  refine (encA _).mono ?_
  rintro e w1 ⟨A1, c1, rfl, g1, h1, hb⟩
  have KB1 := Aside0.mk hb
  have KC1 := Aside0.mk h1
  clear hb h1
  go_wp2_with (go_at_call 24; apply Aside0.out)
  refine ⟨?_⟩
  refine (encB _).mono ?_
  rintro e w2 ⟨A2, c2, rfl, g2, h2, hb⟩
  have KB2 := Aside0.mk (below_then KB1.out KB1.out.size hb)
  have KC := Aside0.mk (live_cho w2 A1 A2 c1 c2 (Kd.C_below KC1.out hb) h2 g1 g2)
  clear hb h2 g1 g2
  go_wp2_with (go_at_call 30; apply Aside0.out)
  refine ⟨?_⟩
  refine KC.out.mono ?_
  rintro e w3 ⟨hb, rfl⟩
  have KB3 := Aside0.mk (below_then KB2.out KB2.out.size hb)
  clear hb
  go_wp2_with (go_at_call 26; refine (num_any _ _).mono ?_; rintro e w' ⟨rfl, rfl⟩)
  go_ret
  exact ⟨rfl, below_alloc KB3.out _⟩
end Go.Proofs.Ytgplpcjlemjabaa.Bo
