/- Texts put together: De9, De10, De11, De12, De13, De14. -/
import Derived.Test.YtogplkochcalpaaDB
/- Deltas out of bytes: one op: a walk. -/
set_option linter.unusedVariables false
set_option linter.unusedSimpArgs false
namespace Go.Proofs.Ytogplkochcalpaa.De
open Go.RowKit Go.Proofs.Ytogplkochcalpaa.PD Go.Proofs.Ytogplkochcalpaa.Fd Go.Proofs.Ytogplkochcalpaa.Bg Go.Proofs.YtogplkochcalpaaW.PrintWords Go.Proofs.YtogplkochcalpaaW.PrintLast Go.Proofs.YtogplkochcalpaaW.PrintMore
/-- An op that is read, whether it is one, where the reader is then. -/
def opP (l : List Int) (s : RS) : S37 × Bool × RS :=
  if val (s.tk l 1) = 0 then (⟨val ((s.next l 1).tk l 4), val (((s.next l 1).next l 4).tk l 4), []⟩, decide (0 < val (((s.next l 1).next l 4).tk l 4)), ((s.next l 1).next l 4).next l 4)
  else if val (s.tk l 1) = 1 then (⟨0, 0, ((s.next l 1).next l 4).tk l (val ((s.next l 1).tk l 4))⟩, decide (0 < (((s.next l 1).next l 4).tk l (val ((s.next l 1).tk l 4))).length), ((s.next l 1).next l 4).next l (val ((s.next l 1).tk l 4)))
  else (⟨0, 0, []⟩, false, s.next l 1)
theorem szOp : (Try.prog.info? 37).map (·.size) = some 3 := by kernel_rfl
theorem store_op {ops : Array Oper} {rest : List Oper} {o : Oper} {a : Act} {w : World} {Q : Exit → Act → World → Prop} (hgd : o.guard = none) (x y : Operand) (ho : o.op = .store 37 x y) (g : Nat) (cells old : Array Value) (hx : a.eval x = .pointer (some ⟨g, 0, none⟩)) (hy : a.eval y = .agg cells) (hg : w.heap[g]? = some (.cells old 37 (0, 0))) (hs : cells.size = 3) (hold : old.size = 3) (h1 : cells.all (·.oneCell') = true)
    (h : ∀ w', w'.heap[g]? = some (.cells cells 37 (0, 0)) → (∀ b w0, b ≤ g → Below b w0 w → Below b w0 w') → (∀ k, k ≠ g → w'.heap[k]? = w.heap[k]?) → w'.heap.size = w.heap.size → wpList Try.prog ops Q rest (a.put o.dst undef) w') : wpList Try.prog ops Q (o :: rest) a w := by
  refine wpList_store_row hgd 37 x y ho g cells hx hy 37 old hg (by rw [hs]; exact szOp) (by rw [hs, hold]) h1 (h _ (setRow_heap w g _ _ _ (0, 0) hg) (fun b w0 hb hB => ⟨hB.os, hB.tape, hB.output, by have := hB.size; simpa [World.setRow] using this, fun k hk => (setRow_other w g k cells (by omega)).trans (hB.block k hk)⟩) (fun k hk => setRow_other w g k cells hk) (by simp [World.setRow]))
/-- A reader behind a store into another block. -/
theorem FR_other {w0 w w1 : World} {base g b : Nat} {v : Value} {l : List Int} {s : RS} {cs : Array Value} (h : FR w0 base g w v l s) (hb : w.heap[b]? = some (.cells cs 37 (0, 0))) (hE : ∀ k, k ≠ b → w1.heap[k]? = w.heap[k]?) (hB : Below base w0 w1) : FR w0 base g w1 v l s :=
  ⟨(hE g (blk_ne h.blk hb (by decide))).trans h.blk, Kd.R_step (Kd.R_tight rfl h.own) (fun k hk _ => hE k (fun e => by subst e; exact (Kd.R_ne h.own hb (by decide)) hk)) |> fun h => Kd.R_mono h (fun _ _ => trivial), hB, h.bg, h.at_⟩
theorem keep_other {w w1 w2 : World} {g b : Nat} (h : KeepBut w w1 g none) (hE : ∀ k, k ≠ b → w2.heap[k]? = w1.heap[k]?) (hS : w2.heap.size = w1.heap.size) (hb : w.heap.size ≤ b) : KeepBut w w2 g none :=
  ⟨by have := h.1; omega, fun i hi hg hr => (hE i (by omega)).trans (h.2 i hi hg hr)⟩
theorem own_other2 {w w1 : World} {base b : Nat} {v : Value} {xs : List Int} {cs : Array Value} (h : Row.OwnB w base v xs) (hb : w.heap[b]? = some (.cells cs 37 (0, 0))) (hE : ∀ k, k ≠ b → w1.heap[k]? = w.heap[k]?) : Row.OwnB w1 base v xs :=
  Kd.R_mono (Kd.R_step (Kd.R_tight rfl h) (fun k hk _ => hE k (fun e => by subst e; exact (Kd.R_ne h hb (by decide)) hk))) (fun _ _ => trivial)
theorem val4 {l : List Int} (hl : ∀ x ∈ l, 0 ≤ x ∧ x < 256) (s : RS) : val (s.tk l 4) < 4294967296 := Nat.lt_of_lt_of_le (val_lt (s.tk l 4) (fun x hx => hl x (tk_sub s l 4 x hx))) (pow_le8 (tk_le s l 4))
theorem obox_cells {w : World} {g : Nat} {a b c : Value} (h : w.heap[g]? = some (.cells #[a, b, c] 37 (0, 0))) : w.cell? ⟨g, 0, none⟩ = some a ∧ w.cell? ⟨g, 1, none⟩ = some b ∧ w.cell? ⟨g, 2, none⟩ = some c :=
  ⟨(cell_of_row _ _ _ _ _ _ h).trans rfl, (cell_of_row _ _ _ _ _ _ h).trans rfl, (cell_of_row _ _ _ _ _ _ h).trans rfl⟩
set_option maxHeartbeats 8000000 in
set_option maxRecDepth 100000 in
theorem op_any {w0 w : World} {base g : Nat} {v : Value} {l : List Int} {s : RS} (h : FR w0 base g w v l s) (hl : ∀ x ∈ l, 0 ≤ x ∧ x < 256) (hm : l.length ≤ 100000000) :
    Calls Try.prog 48 #[.pointer (some ⟨g, 0, none⟩)] w fun e w' => ∃ u, e = .returned (.tuple #[.agg #[.int .i64 (opP l s).1.f0, .int .i64 (opP l s).1.f1, u], .bool (opP l s).2.1]) ∧ Row.OwnB w' w.heap.size u (opP l s).1.f2 ∧ FR w0 base g w' v l (opP l s).2.2 ∧ KeepBut w w' g none := by
  have hz0 := heap_alloc_new w (.cells #[.int .i64 0, .int .i64 0, .slice none 0 0] 37)
  have hB0 := below_alloc (Below.refl w.heap.size w) (.cells #[.int .i64 0, .int .i64 0, .slice none 0 0] 37)
  have KZ0 := Aside0.mk hz0
  have KF0 := Aside0.mk (h.keep hB0)
  have KK0 := Aside0.mk (KeepBut.of_below hB0 g none)
  have hgw := h.lt
  have hbw := h.size
  have Kl := Aside0.mk hl
  obtain ⟨t, ht⟩ : ∃ t, t = val (s.tk l 1) := ⟨_, rfl⟩
  obtain ⟨s1, hs1⟩ : ∃ s1, s1 = s.next l 1 := ⟨_, rfl⟩
  have KN1 := Aside0.mk (rnum_any KF0.out Kl.out (by omega) 1 (Or.inl rfl))
  rw [← ht, ← hs1] at KN1
  unfold opP
  rw [← ht, ← hs1]
  clear h hz0 hB0 hl ht hs1
  by_cases t0 : t = 0
  · subst t0
    rw [if_pos rfl]
    obtain ⟨n2, hn2⟩ : ∃ n2, n2 = val (s1.tk l 4) := ⟨_, rfl⟩
    obtain ⟨s2, hs2⟩ : ∃ s2, s2 = s1.next l 4 := ⟨_, rfl⟩
    obtain ⟨n3, hn3⟩ : ∃ n3, n3 = val (s2.tk l 4) := ⟨_, rfl⟩
    obtain ⟨s3, hs3⟩ : ∃ s3, s3 = s2.next l 4 := ⟨_, rfl⟩
    rw [← hs2, ← hn2, ← hn3, ← hs3]
    have K2 := Aside0.mk (And.intro hn2 (And.intro hs2 (And.intro hn3 hs3)))
    have hb2 : n2 < 4294967296 := by rw [hn2]; exact val4 Kl.out _
    have hb3 : n3 < 4294967296 := by rw [hn3]; exact val4 Kl.out _
    have c2 : IntKind.i64.wrap (n2 : Int) = n2 := IntWalk.i64_in _ (by omega)
    have c3 : IntKind.i64.wrap (n3 : Int) = n3 := IntWalk.i64_in _ (by omega)
    clear hn2 hs2 hn3 hs3 hb2 hb3
    go_enter Try.func48, Try.ntmps48
    go_wp2_with (go_at_call 46; apply Aside0.out)
    refine ⟨?_⟩
    refine KN1.out.mono ?_
    rintro e w1 ⟨rfl, hF, hk⟩
    have KF1 := Aside0.mk hF
    have KZ1 := Aside0.mk (hk.blk KZ0.out (by omega) (by simp))
    have KK1 := Aside0.mk (KK0.out.trans hk (Or.inl rfl))
    clear hF hk KN1
    go_wp2_with (go_at_call 46; apply Aside0.out)
    refine ⟨?_⟩
    refine (rnum_any KF1.out Kl.out (by omega) 4 (Or.inr (Or.inr (Or.inl rfl)))).mono ?_
    rintro e w2 ⟨rfl, hF, hk⟩
    rw [← K2.out.1]
    rw [← K2.out.2.1] at hF
    have KF2 := Aside0.mk hF
    have KZ2 := Aside0.mk (hk.blk KZ1.out (by omega) (by simp))
    have KK2 := Aside0.mk (KK1.out.trans hk (Or.inl rfl))
    obtain ⟨z0, z1, z2⟩ := obox_cells KZ2.out
    have zf : w2.frozen? ⟨w.heap.size, 0, none⟩ = false := blk_frozen KZ2.out 0
    have KF3 := Aside0.mk (FR_far KF2.out KZ2.out (by decide) (by decide) hbw 0 (.int .i64 (n2 : Int)))
    have KZ3 := Aside0.mk (blk_set KZ2.out 0 (.int .i64 (n2 : Int)))
    have KK3 := Aside0.mk (keep_other KK2.out (w2 := w2.setCell ⟨w.heap.size, 0, none⟩ (.int .i64 (n2 : Int))) (fun k hk => Below.heap_setCell _ ⟨w.heap.size, 0, none⟩ _ k hk) (by simp) (Nat.le_refl _))
    clear hF hk
    go_wp2_with (go_at_call 46; apply Aside0.out)
    refine ⟨?_⟩
    refine (rnum_any KF3.out Kl.out (by omega) 4 (Or.inr (Or.inr (Or.inl rfl)))).mono ?_
    rintro e w4 ⟨rfl, hF, hk⟩
    rw [← K2.out.2.2.1]
    rw [← K2.out.2.2.2] at hF
    have KF4 := Aside0.mk hF
    have KZ4 := Aside0.mk (hk.blk KZ3.out (by omega) (by simp))
    have KK4 := Aside0.mk (KK3.out.trans hk (Or.inl rfl))
    clear hF hk z0 z1 z2 zf
    obtain ⟨z0, z1, z2⟩ := obox_cells KZ4.out
    have zf : w4.frozen? ⟨w.heap.size, 1, none⟩ = false := blk_frozen KZ4.out 1
    have KF5 := Aside0.mk (FR_far KF4.out KZ4.out (by decide) (by decide) hbw 1 (.int .i64 (n3 : Int)))
    have hz5 := blk_set KZ4.out 1 (.int .i64 (n3 : Int))
    have KZ5 : Aside0 ((w4.setCell ⟨w.heap.size, 1, none⟩ (.int .i64 (n3 : Int))).heap[w.heap.size]? = some (.cells #[.int .i64 n2, .int .i64 n3, .slice none 0 0] 37 (0, 0))) := ⟨hz5⟩
    have KK5 := Aside0.mk (keep_other KK4.out (w2 := w4.setCell ⟨w.heap.size, 1, none⟩ (.int .i64 (n3 : Int))) (fun k hk => Below.heap_setCell _ ⟨w.heap.size, 1, none⟩ _ k hk) (by simp) (Nat.le_refl _))
    obtain ⟨y0, y1, y2⟩ := obox_cells KZ5.out
    clear hz5
    go_wp2_with ((with_reducible refine gate_store (t := 37) (p := 2) rfl ?_); apply Aside0.out)
    refine ⟨?_⟩
    refine store_op rfl (.tmp 2) (.tmp 16) rfl w.heap.size _ _ rfl rfl KZ5.out rfl rfl (by simp [Value.oneCell']) ?_
    intro w6 hg hB hE hS
    have KZ6 := Aside0.mk hg
    have KF6 := Aside0.mk (FR_other KF5.out KZ5.out hE (hB _ _ hbw KF5.out.below))
    have KK6 := Aside0.mk (keep_other KK5.out hE hS (Nat.le_refl _))
    clear hg hB hE hS y0 y1 y2 z0 z1 z2 zf
    go_wp2
    refine bodyPost_ret (results_list (rs := [.cell 2 37, .tmp 3]) rfl (by simp) (.cell w.heap.size 37 _ _ _ rfl KZ6.out Try.underlying37 rfl szOp (.tmp .nil))) rfl ?_
    exact ⟨_, rfl, Row.OwnB.nil _ _, KF6.out, KK6.out⟩
  rw [if_neg t0]
  by_cases t1 : t = 1
  · subst t1
    rw [if_pos rfl]
    obtain ⟨n2, hn2⟩ : ∃ n2, n2 = val (s1.tk l 4) := ⟨_, rfl⟩
    obtain ⟨s2, hs2⟩ : ∃ s2, s2 = s1.next l 4 := ⟨_, rfl⟩
    obtain ⟨D, hD⟩ : ∃ D, D = s2.tk l n2 := ⟨_, rfl⟩
    obtain ⟨s3, hs3⟩ : ∃ s3, s3 = s2.next l n2 := ⟨_, rfl⟩
    rw [← hs2, ← hn2, ← hD, ← hs3]
    have K2 := Aside0.mk (And.intro hn2 (And.intro hs2 (And.intro hD hs3)))
    have hb2 : n2 < 4294967296 := by rw [hn2]; exact val4 Kl.out _
    have c2 : IntKind.i64.wrap (n2 : Int) = n2 := IntWalk.i64_in _ (by omega)
    obtain ⟨m, hm2⟩ : ∃ m, m = D.length := ⟨_, rfl⟩
    rw [← hm2]
    have Km := Aside0.mk hm2
    clear hn2 hs2 hD hs3 hm2
    go_enter Try.func48, Try.ntmps48
    go_wp2_with (go_at_call 46; apply Aside0.out)
    refine ⟨?_⟩
    refine KN1.out.mono ?_
    rintro e w1 ⟨rfl, hF, hk⟩
    have KF1 := Aside0.mk hF
    have KZ1 := Aside0.mk (hk.blk KZ0.out (by omega) (by simp))
    have KK1 := Aside0.mk (KK0.out.trans hk (Or.inl rfl))
    clear hF hk KN1
    go_wp2_with (go_at_call 46; apply Aside0.out)
    refine ⟨?_⟩
    refine (rnum_any KF1.out Kl.out (by omega) 4 (Or.inr (Or.inr (Or.inl rfl)))).mono ?_
    rintro e w2 ⟨rfl, hF, hk⟩
    rw [← K2.out.1]
    rw [← K2.out.2.1] at hF
    have KF2 := Aside0.mk hF
    have KZ2 := Aside0.mk (hk.blk KZ1.out (by omega) (by simp))
    have KK2 := Aside0.mk (KK1.out.trans hk (Or.inl rfl))
    clear hF hk
    go_wp2_with (go_at_call 66; apply Aside0.out)
    refine ⟨?_⟩
    refine (rbytes_any KF2.out (by omega) n2 (by omega)).mono ?_
    rintro e w3 ⟨A3, c3, rfl, hc3, hO, hF, hk⟩
    rw [← K2.out.2.2.1] at hO hc3 ⊢
    rw [← K2.out.2.2.2] at hF
    rw [← Km.out] at hO hc3 ⊢
    have KF3 := Aside0.mk hF
    have KO3 := Aside0.mk (hO.lower KK2.out.1)
    have KZ3 := Aside0.mk (hk.blk KZ2.out (by omega) (by simp))
    have KK3 := Aside0.mk (KK2.out.trans hk (Or.inl rfl))
    obtain ⟨z0, z1, z2⟩ := obox_cells KZ3.out
    have zf : w3.frozen? ⟨w.heap.size, 2, none⟩ = false := blk_frozen KZ3.out 2
    have KF4 := Aside0.mk (FR_far KF3.out KZ3.out (by decide) (by decide) hbw 2 (.slice A3 m c3))
    have hz4 := blk_set KZ3.out 2 (.slice A3 m c3)
    have KZ4 : Aside0 ((w3.setCell ⟨w.heap.size, 2, none⟩ (.slice A3 m c3)).heap[w.heap.size]? = some (.cells #[.int .i64 0, .int .i64 0, .slice A3 m c3] 37 (0, 0))) := ⟨hz4⟩
    have KO4 := Aside0.mk (own_set KO3.out KZ3.out (by decide) 2 (.slice A3 m c3))
    have KK4 := Aside0.mk (keep_other KK3.out (w2 := w3.setCell ⟨w.heap.size, 2, none⟩ (.slice A3 m c3)) (fun k hk => Below.heap_setCell _ ⟨w.heap.size, 2, none⟩ _ k hk) (by simp) (Nat.le_refl _))
    obtain ⟨y0, y1, y2⟩ := obox_cells KZ4.out
    clear hF hk hO hz4
    go_wp2_with ((with_reducible refine gate_store (t := 37) (p := 2) rfl ?_); apply Aside0.out)
    refine ⟨?_⟩
    refine store_op rfl (.tmp 2) (.tmp 28) rfl w.heap.size _ _ rfl rfl KZ4.out rfl rfl (by simp [Value.oneCell']) ?_
    intro w6 hg hB hE hS
    have KZ6 := Aside0.mk hg
    have KF6 := Aside0.mk (FR_other KF4.out KZ4.out hE (hB _ _ hbw KF4.out.below))
    have KO6 := Aside0.mk (own_other2 KO4.out KZ4.out hE)
    have KK6 := Aside0.mk (keep_other KK4.out hE hS (Nat.le_refl _))
    clear hg hB hE hS y0 y1 y2 z0 z1 z2 zf
    go_wp2
    refine bodyPost_ret (results_list (rs := [.cell 2 37, .tmp 3]) rfl (by simp) (.cell w.heap.size 37 _ _ _ rfl KZ6.out Try.underlying37 rfl szOp (.tmp .nil))) rfl ?_
    exact ⟨_, rfl, KO6.out, KF6.out, KK6.out⟩
  · rw [if_neg t1]
    have h0 : ((t : Int) == 0) = false := by simp; omega
    have h1 : ((t : Int) == 1) = false := by simp; omega
    clear t0 t1
    go_enter Try.func48, Try.ntmps48
    go_wp2_with (go_at_call 46; apply Aside0.out)
    refine ⟨?_⟩
    refine KN1.out.mono ?_
    rintro e w1 ⟨rfl, hF, hk⟩
    have KF1 := Aside0.mk hF
    have KZ1 := Aside0.mk (hk.blk KZ0.out (by omega) (by simp))
    have KK1 := Aside0.mk (KK0.out.trans hk (Or.inl rfl))
    obtain ⟨y0, y1, y2⟩ := obox_cells KZ1.out
    clear hF hk KN1
    go_wp2_with ((with_reducible refine gate_store (t := 37) (p := 2) rfl ?_); apply Aside0.out)
    refine ⟨?_⟩
    refine store_op rfl (.tmp 2) (.tmp 33) rfl w.heap.size _ _ rfl rfl KZ1.out rfl rfl (by simp [Value.oneCell']) ?_
    intro w6 hg hB hE hS
    have KZ6 := Aside0.mk hg
    have KF6 := Aside0.mk (FR_other KF1.out KZ1.out hE (hB _ _ hbw KF1.out.below))
    have KK6 := Aside0.mk (keep_other KK1.out hE hS (Nat.le_refl _))
    clear hg hB hE hS y0 y1 y2
    go_wp2
    refine bodyPost_ret (results_list (rs := [.cell 2 37, .tmp 3]) rfl (by simp) (.cell w.heap.size 37 _ _ _ rfl KZ6.out Try.underlying37 rfl szOp (.tmp .nil))) rfl ?_
    exact ⟨_, rfl, Row.OwnB.nil _ _, KF6.out, KK6.out⟩
end Go.Proofs.Ytogplkochcalpaa.De
/- Deltas out of bytes: plain; numbers read, what is left: walks. -/
set_option linter.unusedVariables false
set_option linter.unusedSimpArgs false
namespace Go.Proofs.Ytogplkochcalpaa.De
open Go.RowKit Go.Proofs.Ytogplkochcalpaa.PD Go.Proofs.Ytogplkochcalpaa.Fd Go.Proofs.Ytogplkochcalpaa.Bg Go.Proofs.YtogplkochcalpaaW.PrintWords Go.Proofs.YtogplkochcalpaaW.PrintLast Go.Proofs.YtogplkochcalpaaW.PrintMore
def parse (x : List Int) : Nat → RS → List S37 → Option (List S37)
  | 0, _, _ => none
  | f + 1, s, acc => if x.length ≤ s.at_ then some acc else if (opP x s).2.1 = true ∧ (opP x s).2.2.bad = false then parse x f (opP x s).2.2 (acc ++ [(opP x s).1]) else none
def zeroD : Dl := ⟨0, 0, 0, 0, []⟩
/-- The bytes behind the magic, without the sum. -/
def inner (l : List Int) : List Int := (l.take (l.length - 4)).drop 4
def headD (x : List Int) (ops : List S37) : Dl := ⟨rdN x 0 4, rdN x 4 4, rdN x 8 8, rdN x 16 8, ops⟩
def finD (x : List Int) : Option (List S37) → Dl × Int
  | none => (zeroD, 6)
  | some ops => if rightD (headD x ops) = true then (headD x ops, 0) else (zeroD, 6)
def decP (l : List Int) : Dl × Int :=
  if l.length < 32 ∨ l.take 4 ≠ [80, 77, 68, 49] then (zeroD, 6)
  else if rdN l (l.length - 4) 4 ≠ Sum.crc 0 (l.take (l.length - 4)) then (zeroD, 140)
  else finD (inner l) (parse (inner l) ((inner l).length + 1) ⟨24, false⟩ [])
theorem inner_len {l : List Int} (h : 32 ≤ l.length) : (inner l).length = l.length - 8 := by unfold inner; rw [List.length_drop, List.length_take]; omega
theorem inner_isB {l : List Int} (h : ∀ x ∈ l, 0 ≤ x ∧ x < 256) : ∀ x ∈ inner l, 0 ≤ x ∧ x < 256 := fun x hx => h x (List.mem_of_mem_take (List.mem_of_mem_drop hx))
theorem next_good {s : RS} {l : List Int} {k : Nat} (h : (s.next l k).bad = false) : s.bad = false ∧ (s.next l k).at_ = s.at_ + k ∧ s.at_ + k ≤ l.length := by
  unfold RS.next at h ⊢
  by_cases c1 : s.bad = true
  · rw [if_pos c1] at h; rw [c1] at h; cases h
  · rw [if_neg c1] at h ⊢
    by_cases c2 : s.at_ + k ≤ l.length
    · rw [if_pos c2] at h ⊢
      exact ⟨by simpa using c1, rfl, c2⟩
    · rw [if_neg c2] at h; cases h
theorem op_good {x : List Int} {s : RS} (h1 : (opP x s).2.1 = true) (h2 : (opP x s).2.2.bad = false) : s.at_ < (opP x s).2.2.at_ ∧ (opP x s).2.2.at_ ≤ x.length := by
  unfold opP at h1 h2 ⊢
  by_cases c0 : val (s.tk x 1) = 0
  · rw [if_pos c0] at h1 h2 ⊢
    simp only at h2 ⊢
    obtain ⟨a1, a2, a3⟩ := next_good h2
    obtain ⟨b1, b2, b3⟩ := next_good a1
    obtain ⟨d1, d2, d3⟩ := next_good b1
    omega
  · rw [if_neg c0] at h1 h2 ⊢
    by_cases c1 : val (s.tk x 1) = 1
    · rw [if_pos c1] at h1 h2 ⊢
      simp only at h2 ⊢
      obtain ⟨a1, a2, a3⟩ := next_good h2
      obtain ⟨b1, b2, b3⟩ := next_good a1
      obtain ⟨d1, d2, d3⟩ := next_good b1
      omega
    · rw [if_neg c1] at h1
      cases h1
theorem op_wf {x : List Int} {s : RS} (hx : ∀ y ∈ x, 0 ≤ y ∧ y < 256) (hl : x.length ≤ 100000000) : WfO (opP x s).1 := by
  unfold opP
  by_cases c0 : val (s.tk x 1) = 0
  · rw [if_pos c0]
    have h1 := val4 hx (s.next x 1)
    have h2 := val4 hx ((s.next x 1).next x 4)
    exact ⟨by simp only; omega, by simp only; omega, by simp⟩
  · rw [if_neg c0]
    by_cases c1 : val (s.tk x 1) = 1
    · rw [if_pos c1]
      have h1 := val4 hx (s.next x 1)
      have h2 := tk_le ((s.next x 1).next x 4) x (val ((s.next x 1).tk x 4))
      exact ⟨by simp, by simp, by simp only; omega⟩
    · rw [if_neg c1]
      exact ⟨by simp, by simp, by simp⟩
/-- The bytes from a place on. -/
theorem cut_at (A : Option Addr) (c : Nat) (b : List Int) (p n : Nat) (hq : p + n ≤ b.length) (hc : b.length ≤ c) :
    ∃ (A' : Option Addr) (c' : Nat), n ≤ c' ∧ (∀ W : World, (Instr.slice 22 (.slice A b.length c) (some (.int .i64 (p : Int))) (some (.int .i64 ((p + n : Nat) : Int))) none).run Try.prog W = .ok (.slice A' n c') W) ∧ (∀ w : World, Kd.C (Kd.int .u8) w A b.length b → Kd.C (Kd.int .u8) w A' n ((b.drop p).take n)) := by
  obtain ⟨x, hx, hs⟩ := info8'
  have e : (b.take (p + n)).drop p = (b.drop p).take n := by rw [List.drop_take, show p + n - p = n by omega]
  have el : ((b.drop p).take n).length = n := by rw [List.length_take, List.length_drop]; omega
  obtain ⟨A', h1, h2, h3⟩ := print_mid_of (P := Try.prog) (Value.int .u8) (0 : Int) 22 5 .i64 .i64 Try.underlying22 hx hs A c b (p : Int) ((p + n : Nat) : Int) (by omega) (by omega) (by omega) hc
  simp only [Int.toNat_natCast, e, el] at h1 h2 h3
  exact ⟨A', c - p, h3, h1, fun w hC => Kd.C_of_reads (h1 := fun _ => rfl) (h2 w (Kd.reads_of_C hC))⟩
theorem get_any (w : World) (l : List Int) (A : Option Addr) (c a : Nat) (hC : Kd.C (Kd.int .u8) w A l.length l) (hc : l.length ≤ c) (hl : ∀ x ∈ l, 0 ≤ x ∧ x < 256) (hb : l.length ≤ 100000000) (h : a + 4 ≤ l.length) : Calls Try.prog 44 #[.slice A l.length c, .int .i64 a, .int .i64 4] w fun e w' => e = .returned (.tuple #[.int .u64 (rdN l a 4), .int .i64 0]) ∧ w = w' := by
  have KW := Aside0.mk (fun w1 => wide_yes 4 (Or.inr (Or.inr (Or.inl rfl))) w1)
  have KI := Aside0.mk (fun w1 => within_any w1 l A c a 4 (by omega) (by omega) (by decide))
  rw [decide_eq_true h] at KI
  obtain ⟨A', c', h4, hsl, hC4⟩ := cut_at A c l a 4 h hc
  have e4 : ((l.drop a).take 4).length = 4 := by rw [List.length_take, List.length_drop]; omega
  have KL := Aside0.mk (load_any w ((l.drop a).take 4) A' c' (by rw [e4]; exact hC4 w hC) (fun x hx => hl x (List.mem_of_mem_drop (List.mem_of_mem_take hx))) (by omega))
  rw [e4] at KL
  obtain ⟨t, ht⟩ : ∃ t, t = a + 4 := ⟨_, rfl⟩
  have e1 : (a : Int) + 4 = (t : Int) := by omega
  rw [← ht] at hsl
  have ht2 : t ≤ 100000000 := by omega
  clear hC hl h hC4 e4 ht
  go_enter Try.func44, Try.ntmps44
  go_wp2_with (first
    | (go_at_call 58; refine (KW.out _).mono ?_; rintro e w' ⟨rfl, rfl⟩)
    | (go_at_call 63; refine (KI.out _).mono ?_; rintro e w' ⟨rfl, rfl⟩)
    | (go_at_call 64; refine KL.out.mono ?_; rintro e w' ⟨rfl, rfl⟩))
  go_ret2
  exact ⟨rfl, rfl⟩
theorem left_any {w0 w : World} {base g : Nat} {v : Value} {l : List Int} {s : RS} (h : FR w0 base g w v l s) (hl : l.length ≤ 100000000) : Calls Try.prog 47 #[.pointer (some ⟨g, 0, none⟩)] w fun e w' => e = .returned (.int .i64 ((l.length : Int) - s.at_)) ∧ ∃ k, w' = w.drewN k := by
  obtain ⟨c0, c1, c2⟩ := h.cells
  obtain ⟨A, c, rfl, hle, hC⟩ := h.own.slice
  have hat := h.at_
  obtain ⟨n, hn⟩ : ∃ n, n = l.length := ⟨_, rfl⟩
  rw [← hn] at c0 hat hl ⊢
  have Kn := Aside0.mk hn
  clear h c2 hC hle hn
  go_enter Try.func47, Try.ntmps47
  go_wp2
  go_quiet (fail)
  go_wp2
  go_ret
  exact ⟨rfl, _, rfl⟩
end Go.Proofs.Ytogplkochcalpaa.De
/- Deltas out of bytes: Decode: walks. -/
set_option linter.unusedVariables false
set_option linter.unusedSimpArgs false
namespace Go.Proofs.Ytogplkochcalpaa.De
open Go.RowKit Go.Proofs.Ytogplkochcalpaa.PD Go.Proofs.Ytogplkochcalpaa.Fd Go.Proofs.Ytogplkochcalpaa.Bg Go.Proofs.YtogplkochcalpaaW.PrintWords Go.Proofs.YtogplkochcalpaaW.PrintLast Go.Proofs.YtogplkochcalpaaW.PrintMore
/-- A delta's box with its ops. -/
def XB (wr : World) (db : Nat) (h : Dl) (ov : Value) : Prop := wr.heap[db]? = some (.cells #[.int .i64 h.a, .int .i64 h.b, .int .u64 h.c, .int .u64 h.d, ov] 27 (0, 0))
theorem XB.cells {w : World} {g : Nat} {d : Dl} {ov : Value} (h : XB w g d ov) : w.cell? ⟨g, 0, none⟩ = some (.int .i64 d.a) ∧ w.cell? ⟨g, 1, none⟩ = some (.int .i64 d.b) ∧ w.cell? ⟨g, 2, none⟩ = some (.int .u64 d.c) ∧ w.cell? ⟨g, 3, none⟩ = some (.int .u64 d.d) ∧ w.cell? ⟨g, 4, none⟩ = some ov :=
  ⟨(cell_of_row _ _ _ _ _ _ h).trans rfl, (cell_of_row _ _ _ _ _ _ h).trans rfl, (cell_of_row _ _ _ _ _ _ h).trans rfl, (cell_of_row _ _ _ _ _ _ h).trans rfl, (cell_of_row _ _ _ _ _ _ h).trans rfl⟩
/-- What stands while ops are read. -/
structure DS (w wN : World) (g db : Nat) (x : List Int) (v : Value) (h : Dl) (wr : World) (s : RS) (ov : Value) (acc : List S37) : Prop where
  rd : FR wN wN.heap.size g wr v x s
  box : XB wr db h ov
  ops : Kd.N k37 37 wr w.heap.size (fun k => w.heap.size ≤ k ∧ k ≠ g ∧ k ≠ db ∧ k ≠ w.heap.size) ov acc
  zero : XB wr w.heap.size zeroD (.slice none 0 0)
  below : Below w.heap.size w wr
  gd : g < db
  zg : w.heap.size < wN.heap.size
  zs : wN.heap.size = w.heap.size + 1
  wf : ∀ o ∈ acc, WfO o
  len : acc.length ≤ s.at_
  ok : s.bad = false
section
variable {w wN wr w1 w2 : World} {g db : Nat} {x : List Int} {v ov ov1 : Value} {h : Dl} {s s' : RS} {acc : List S37}
theorem DS.lt (H : DS w wN g db x v h wr s ov acc) : w.heap.size < g ∧ g < db ∧ db < wr.heap.size := ⟨by have := H.rd.bg; have := H.zg; omega, H.gd, blk_lt H.box⟩
/-- Behind an op's reading (or its failing): the box of the op lies behind all. -/
theorem DS.read (H : DS w wN g db x v h wr s ov acc) (hF : FR wN wN.heap.size g w1 v x s') (hk : KeepBut wr w1 g none) : XB w1 db h ov ∧ Kd.N k37 37 w1 w.heap.size (fun k => w.heap.size ≤ k ∧ k ≠ g ∧ k ≠ db ∧ k ≠ w.heap.size) ov acc ∧ XB w1 w.heap.size zeroD (.slice none 0 0) ∧ Below w.heap.size w w1 := by
  have hl := H.lt
  refine ⟨hk.blk H.box (by omega) (by simp), Kd.N_keep H.ops hk (fun k hk => hk.2.1), hk.blk H.zero (by omega) (by simp), ?_⟩
  have hb := hF.below
  exact ⟨(hb.os.trans H.rd.below.os.symm).trans H.below.os, (hb.tape.trans H.rd.below.tape.symm).trans H.below.tape, (hb.output.trans H.rd.below.output.symm).trans H.below.output, Nat.le_trans H.below.size hk.1, fun i hi => (hk.2 i (Nat.lt_of_lt_of_le hi H.below.size) (by omega) (by simp)).trans (H.below.block i hi)⟩
theorem FR_grown {u : Value} (hR : FR wN wN.heap.size g wr v x s) (hN : Kd.N k37 37 wr w.heap.size (fun k => w.heap.size ≤ k ∧ k ≠ g ∧ k ≠ db ∧ k ≠ w.heap.size) ov acc) (hg : wr.grownBy w1 ov.ownBlock) (hB : Below wN.heap.size wN w1) : FR wN wN.heap.size g w1 v x s := by
  refine ⟨(hg.block g hR.lt (Kd.N_ne hN hR.blk (by decide))).trans hR.blk, hR.own.grown hg ?_, hB, hR.bg, hR.at_⟩
  cases hv : v.ownBlock with
  | none => exact Or.inl rfl
  | some k =>
    refine Or.inr (fun e => ?_)
    obtain ⟨c1, h1⟩ := Kd.R_typed hR.own k hv
    obtain ⟨c2, h2⟩ := Kd.N_typed hN k e.symm
    rw [h1] at h2
    injection h2 with h2
    injection h2 with _ h2
    exact absurd h2 (by decide)
end
end Go.Proofs.Ytogplkochcalpaa.De
/- Deltas out of bytes: Decode: walks. -/
set_option linter.unusedVariables false
set_option linter.unusedSimpArgs false
namespace Go.Proofs.Ytogplkochcalpaa.De
open Go.RowKit Go.Proofs.Ytogplkochcalpaa.PD Go.Proofs.Ytogplkochcalpaa.Fd Go.Proofs.Ytogplkochcalpaa.Bg Go.Proofs.YtogplkochcalpaaW.PrintWords Go.Proofs.YtogplkochcalpaaW.PrintLast Go.Proofs.YtogplkochcalpaaW.PrintMore
theorem magic_eq (z : List Int) (h : ∀ x ∈ z, 0 ≤ x ∧ x < 256) : ((strOfNums z).toList == [80, 77, 68, 49]) = decide (z = [80, 77, 68, 49]) := by
  have h1 := Eq_.str_eq z [80, 77, 68, 49] h (by decide)
  have e : (strOfNums [80, 77, 68, 49]).toList = [80, 77, 68, 49] := by rw [Go.Lib.strOfNums_toList]; rfl
  rw [e] at h1
  exact h1
/-- What Decode answers. -/
def DecR (w : World) (r : Dl × Int) (e : Ending) (w' : World) : Prop := ∃ ov, e = .returned (.tuple #[.agg #[.int .i64 r.1.a, .int .i64 r.1.b, .int .u64 r.1.c, .int .u64 r.1.d, ov], .int .i64 r.2]) ∧ Kd.N k37 37 w' w.heap.size (fun k => w.heap.size ≤ k) ov r.1.l ∧ Below w.heap.size w w'
theorem decode_short (w : World) (l : List Int) (A : Option Addr) (c : Nat) (h : l.length < 32) : Calls Try.prog 25 #[.slice A l.length c] w fun e w' => DecR w (zeroD, 6) e w' := by
  have KZ0 : Aside0 (XB (w.alloc (.cells #[.int .i64 0, .int .i64 0, .int .u64 0, .int .u64 0, .slice none 0 0] 27)) w.heap.size zeroD (.slice none 0 0)) := ⟨heap_alloc_new w _⟩
  have KB0 := Aside0.mk (below_alloc (Below.refl w.heap.size w) (.cells #[.int .i64 0, .int .i64 0, .int .u64 0, .int .u64 0, .slice none 0 0] 27))
  obtain ⟨n, hn⟩ : ∃ n, n = l.length := ⟨_, rfl⟩
  rw [← hn] at h ⊢
  clear hn
  go_enter Try.func25, Try.ntmps25
  go_wp2_with ((with_reducible refine gate_store (t := 27) (p := 2) rfl ?_); apply Aside0.out)
  refine ⟨?_⟩
  refine store_del rfl (.tmp 2) (.tmp 22) rfl w.heap.size _ _ rfl rfl KZ0.out rfl rfl (by simp [Value.oneCell']) ?_
  intro w7 hg hB hE hS
  have KB7 := Aside0.mk (hB _ _ (Nat.le_refl _) KB0.out)
  have KZ7 := Aside0.mk hg
  clear hg hB hE hS
  go_wp2
  refine bodyPost_ret (results_list (rs := [.cell 2 27, .tmp 3]) rfl (by simp) (.cell w.heap.size 27 _ _ _ rfl KZ7.out Try.underlying27 rfl szDel (.tmp .nil))) rfl ?_
  exact ⟨_, rfl, Kd.N_nil _ _ _ _ _, KB7.out⟩
set_option maxHeartbeats 4000000 in
set_option maxRecDepth 100000 in
theorem decode_magic (w : World) (l : List Int) (A : Option Addr) (c : Nat) (hC : Kd.C (Kd.int .u8) w A l.length l) (hl : ∀ x ∈ l, 0 ≤ x ∧ x < 256) (hm : l.length ≤ 2000000) (hc : l.length ≤ c) (h : 32 ≤ l.length) (hM : l.take 4 ≠ [80, 77, 68, 49]) : Calls Try.prog 25 #[.slice A l.length c] w fun e w' => DecR w (zeroD, 6) e w' := by
  have KZ0 : Aside0 (XB (w.alloc (.cells #[.int .i64 0, .int .i64 0, .int .u64 0, .int .u64 0, .slice none 0 0] 27)) w.heap.size zeroD (.slice none 0 0)) := ⟨heap_alloc_new w _⟩
  have hB0 := below_alloc (Below.refl w.heap.size w) (.cells #[.int .i64 0, .int .i64 0, .int .u64 0, .int .u64 0, .slice none 0 0] 27)
  have KB0 := Aside0.mk hB0
  obtain ⟨xi, hxi, -⟩ := info8'
  have hcut := cut_to (P := Try.prog) 22 5 .i64 Try.underlying22 hxi A l.length c 4 (by omega) (by omega) hc
  rw [show (4 : Int).toNat = 4 from rfl] at hcut
  have h4 : (l.take 4).length = 4 := by rw [List.length_take]; omega
  have hs := str_atE (c := c) (n := 4) (by have := Kd.C_take (Kd.C_below hC hB0) (m := 4) (by omega); rwa [h4] at this)
  have hq := magic_eq (l.take 4) (fun x hx => hl x (List.mem_of_mem_take hx))
  rw [decide_eq_false hM] at hq
  have hq2 : ((strOfNums (l.take 4)).toList != [80, 77, 68, 49]) = true := by rw [bne, hq]; rfl
  obtain ⟨n, hn⟩ : ∃ n, n = l.length := ⟨_, rfl⟩
  rw [← hn] at h hm hc hcut ⊢
  obtain ⟨z, hz⟩ : ∃ z, z = (strOfNums (l.take 4)) := ⟨_, rfl⟩
  rw [← hz] at hs hq hq2
  clear hn hB0 hC hl hM h4 hz
  go_enter Try.func25, Try.ntmps25
  go_wp2_with ((with_reducible refine gate_store (t := 27) (p := 2) rfl ?_); apply Aside0.out)
  refine ⟨?_⟩
  refine store_del rfl (.tmp 2) (.tmp 22) rfl w.heap.size _ _ rfl rfl KZ0.out rfl rfl (by simp [Value.oneCell']) ?_
  intro w7 hg hB hE hS
  have KB7 := Aside0.mk (hB _ _ (Nat.le_refl _) KB0.out)
  have KZ7 := Aside0.mk hg
  clear hg hB hE hS
  go_wp2
  refine bodyPost_ret (results_list (rs := [.cell 2 27, .tmp 3]) rfl (by simp) (.cell w.heap.size 27 _ _ _ rfl KZ7.out Try.underlying27 rfl szDel (.tmp .nil))) rfl ?_
  exact ⟨_, rfl, Kd.N_nil _ _ _ _ _, KB7.out⟩
set_option maxHeartbeats 4000000 in
set_option maxRecDepth 100000 in
theorem decode_sum (w : World) (l : List Int) (A : Option Addr) (c : Nat) (hC : Kd.C (Kd.int .u8) w A l.length l) (hl : ∀ x ∈ l, 0 ≤ x ∧ x < 256) (hm : l.length ≤ 2000000) (hc : l.length ≤ c) (h : 32 ≤ l.length) (hM : l.take 4 = [80, 77, 68, 49]) (hS : rdN l (l.length - 4) 4 ≠ Sum.crc 0 (l.take (l.length - 4))) : Calls Try.prog 25 #[.slice A l.length c] w fun e w' => DecR w (zeroD, 140) e w' := by
  have KZ0 : Aside0 (XB (w.alloc (.cells #[.int .i64 0, .int .i64 0, .int .u64 0, .int .u64 0, .slice none 0 0] 27)) w.heap.size zeroD (.slice none 0 0)) := ⟨heap_alloc_new w _⟩
  have hB0 := below_alloc (Below.refl w.heap.size w) (.cells #[.int .i64 0, .int .i64 0, .int .u64 0, .int .u64 0, .slice none 0 0] 27)
  have KB0 := Aside0.mk hB0
  obtain ⟨xi, hxi, -⟩ := info8'
  have hcut := cut_to (P := Try.prog) 22 5 .i64 Try.underlying22 hxi A l.length c 4 (by omega) (by omega) hc
  rw [show (4 : Int).toNat = 4 from rfl] at hcut
  have h4 : (l.take 4).length = 4 := by rw [List.length_take]; omega
  have hs := str_atE (c := c) (n := 4) (by have := Kd.C_take (Kd.C_below hC hB0) (m := 4) (by omega); rwa [h4] at this)
  have hq := magic_eq (l.take 4) (fun x hx => hl x (List.mem_of_mem_take hx))
  rw [decide_eq_true hM] at hq
  have hq2 : ((strOfNums (l.take 4)).toList != [80, 77, 68, 49]) = false := by rw [bne, hq]; rfl
  obtain ⟨m, hmm⟩ : ∃ m, m = l.length - 4 := ⟨_, rfl⟩
  have hcut2 := cut_to (P := Try.prog) 22 5 .i64 Try.underlying22 hxi A l.length c ((l.length : Int) - 4) (by omega) (by omega) hc
  rw [show ((l.length : Int) - 4).toNat = m by omega] at hcut2
  have hlm : (l.take m).length = m := by rw [List.length_take]; omega
  have KG : Aside0 (∀ w1, Below w.heap.size w w1 → _) := ⟨fun w1 hb => get_any w1 l A c m (Kd.C_below hC hb) hc hl (by omega) (by omega)⟩
  have KR : Aside0 (∀ w1, Below w.heap.size w w1 → _) := ⟨fun w1 hb => Sum.crc_nil A c (l.take m) w1 (Kd.C_take (Kd.C_below hC hb) (by omega)) (by omega) (fun x hx => hl x (List.mem_of_mem_take hx))⟩
  rw [← hmm] at hS
  have hcb := crc_lt (l.take m)
  obtain ⟨y, hy⟩ : ∃ y, y = rdN l m 4 := ⟨_, rfl⟩
  obtain ⟨x, hx⟩ : ∃ x, x = Sum.crc 0 (l.take m) := ⟨_, rfl⟩
  rw [← hy] at KG
  rw [hlm, ← hx] at KR
  rw [← hx] at hcb
  rw [← hx, ← hy] at hS
  have hne : ((y : Int) == (x : Int)) = false := by simp; omega
  have hwx : IntKind.u64.wrap (x : Int) = x := u64_small _ (by omega) (by omega)
  obtain ⟨n, hn⟩ : ∃ n, n = l.length := ⟨_, rfl⟩
  rw [← hn] at h hm hc hcut hcut2 KG ⊢
  obtain ⟨z, hz⟩ : ∃ z, z = (strOfNums (l.take 4)) := ⟨_, rfl⟩
  rw [← hz] at hs hq hq2
  clear hn hB0 hC hl hM h4 hz hmm hlm hS hy hx hcb
  go_enter Try.func25, Try.ntmps25
  go_wp2_with (go_at_call 44; apply Aside0.out)
  refine ⟨?_⟩
  refine (KG.out _ KB0.out).mono ?_
  rintro e w2 ⟨rfl, rfl⟩
  go_wp2_with (go_at_call 43; apply Aside0.out)
  refine ⟨?_⟩
  refine (KR.out _ KB0.out).mono ?_
  rintro e w2 ⟨rfl, rfl⟩
  go_wp2_with ((with_reducible refine gate_store (t := 27) (p := 2) rfl ?_); apply Aside0.out)
  refine ⟨?_⟩
  refine store_del rfl (.tmp 2) (.tmp 40) rfl w.heap.size _ _ rfl rfl KZ0.out rfl rfl (by simp [Value.oneCell']) ?_
  intro w7 hg hB hE hS
  have KB7 := Aside0.mk (hB _ _ (Nat.le_refl _) KB0.out)
  have KZ7 := Aside0.mk hg
  clear hg hB hE hS
  go_wp2
  refine bodyPost_ret (results_list (rs := [.cell 2 27, .tmp 3]) rfl (by simp) (.cell w.heap.size 27 _ _ _ rfl KZ7.out Try.underlying27 rfl szDel (.tmp .nil))) rfl ?_
  exact ⟨_, rfl, Kd.N_nil _ _ _ _ _, KB7.out⟩
end Go.Proofs.Ytogplkochcalpaa.De
/- Deltas out of bytes: Decode: the walk. -/
set_option linter.unusedVariables false
set_option linter.unusedSimpArgs false
namespace Go.Proofs.Ytogplkochcalpaa.De
open Go.RowKit Go.Proofs.Ytogplkochcalpaa.PD Go.Proofs.Ytogplkochcalpaa.Fd Go.Proofs.Ytogplkochcalpaa.Bg Go.Proofs.YtogplkochcalpaaW.PrintWords Go.Proofs.YtogplkochcalpaaW.PrintLast Go.Proofs.YtogplkochcalpaaW.PrintMore
theorem FK_own {W : World} {b' : Nat} {A : Option Addr} {c : Nat} {o : S37} (hO : Row.OwnB W b' (.slice A o.f2.length c) o.f2) {ok : Nat → Prop} (hok : ∀ k, b' ≤ k → ok k) : Kd.FK k37 W ok o [.int .i64 o.f0, .int .i64 o.f1, .slice A o.f2.length c] :=
  k37_mkF _ _ o (Row.OwnB.reads hO).2.1 (Kd.F_mono (Kd.R_F (Kd.R_tight rfl hO)) fun k hk => hok k (Kd.R_base hO k hk.symm))
theorem DS.keep {w wN wr w1 : World} {g db : Nat} {x : List Int} {v ov : Value} {h : Dl} {s : RS} {acc : List S37} (H : DS w wN g db x v h wr s ov acc) (hb : Below wr.heap.size wr w1) : DS w wN g db x v h w1 s ov acc :=
  ⟨H.rd.keep hb, blk_below H.box hb, Kd.N_below H.ops hb, blk_below H.zero hb, below_then H.below H.below.size hb, H.gd, H.zg, H.zs, H.wf, H.len, H.ok⟩
theorem w_small (n : Nat) (h : n < 4294967296) : wrap64 (n : Int) = n ∧ IntKind.i64.wrap (n : Int) = n := ⟨wrap_in (by omega), IntWalk.i64_in _ (by omega)⟩
set_option maxHeartbeats 8000000 in
set_option maxRecDepth 100000 in
theorem decode_main (w : World) (l : List Int) (A : Option Addr) (c : Nat) (hC : Kd.C (Kd.int .u8) w A l.length l) (hl : ∀ x ∈ l, 0 ≤ x ∧ x < 256) (hm : l.length ≤ 2000000) (hc : l.length ≤ c) (h : 32 ≤ l.length) (hM : l.take 4 = [80, 77, 68, 49]) (hS : rdN l (l.length - 4) 4 = Sum.crc 0 (l.take (l.length - 4))) : Calls Try.prog 25 #[.slice A l.length c] w fun e w' => DecR w (finD (inner l) (parse (inner l) ((inner l).length + 1) ⟨24, false⟩ [])) e w' := by
  have KZ0 : Aside0 (XB (w.alloc (.cells #[.int .i64 0, .int .i64 0, .int .u64 0, .int .u64 0, .slice none 0 0] 27)) w.heap.size zeroD (.slice none 0 0)) := ⟨heap_alloc_new w _⟩
  have hB0 := below_alloc (Below.refl w.heap.size w) (.cells #[.int .i64 0, .int .i64 0, .int .u64 0, .int .u64 0, .slice none 0 0] 27)
  have KB0 := Aside0.mk hB0
  obtain ⟨xi, hxi, hxs⟩ := info8'
  have hcut := cut_to (P := Try.prog) 22 5 .i64 Try.underlying22 hxi A l.length c 4 (by omega) (by omega) hc
  rw [show (4 : Int).toNat = 4 from rfl] at hcut
  have h4 : (l.take 4).length = 4 := by rw [List.length_take]; omega
  have hs := str_atE (c := c) (n := 4) (by have := Kd.C_take (Kd.C_below hC hB0) (m := 4) (by omega); rwa [h4] at this)
  have hq := magic_eq (l.take 4) (fun x hx => hl x (List.mem_of_mem_take hx))
  rw [decide_eq_true hM] at hq
  have hq2 : ((strOfNums (l.take 4)).toList != [80, 77, 68, 49]) = false := by rw [bne, hq]; rfl
  obtain ⟨m, hmm⟩ : ∃ m, m = l.length - 4 := ⟨_, rfl⟩
  have hcut2 := cut_to (P := Try.prog) 22 5 .i64 Try.underlying22 hxi A l.length c ((l.length : Int) - 4) (by omega) (by omega) hc
  rw [show ((l.length : Int) - 4).toNat = m by omega] at hcut2
  have hlm : (l.take m).length = m := by rw [List.length_take]; omega
  have KG : Aside0 (∀ w1, Below w.heap.size w w1 → _) := ⟨fun w1 hb => get_any w1 l A c m (Kd.C_below hC hb) hc hl (by omega) (by omega)⟩
  have KR : Aside0 (∀ w1, Below w.heap.size w w1 → _) := ⟨fun w1 hb => Sum.crc_nil A c (l.take m) w1 (Kd.C_take (Kd.C_below hC hb) (by omega)) (by omega) (fun x hx => hl x (List.mem_of_mem_take hx))⟩
  rw [← hmm] at hS
  have hcb := crc_lt (l.take m)
  obtain ⟨y, hy⟩ : ∃ y, y = rdN l m 4 := ⟨_, rfl⟩
  obtain ⟨x, hx⟩ : ∃ x, x = Sum.crc 0 (l.take m) := ⟨_, rfl⟩
  rw [← hy] at KG
  rw [hlm, ← hx] at KR
  rw [← hx] at hcb
  rw [← hx, ← hy] at hS
  rw [hS] at KG
  have hwx : IntKind.u64.wrap (x : Int) = x := u64_small _ (by omega) (by omega)
  obtain ⟨z4, hz4⟩ : ∃ z4, z4 = inner l := ⟨_, rfl⟩
  have hzl : z4.length = m - 4 := by rw [hz4, inner_len h]; omega
  have hzB : ∀ x ∈ z4, 0 ≤ x ∧ x < 256 := by rw [hz4]; exact inner_isB hl
  have hcut3 := cut_from (P := Try.prog) 22 5 .i64 Try.underlying22 hxi 1 hxs A m c 4 (by omega) (by omega)
  rw [show (4 : Int).toNat = 4 from rfl] at hcut3
  have KNr : Aside0 (∀ w1, Below w.heap.size w w1 → _) := ⟨fun w1 hb => reader_new w1 z4 (if c = 4 then A else A.map (·.add (4 * 1))) (c - 4) (fun w' hb' => by have := Kd.C_drop (Kd.C_take (Kd.C_below (Kd.C_below hC hb) (below_then hb hb.size hb' |> fun _ => hb')) (m := m) (by omega)) (m := 4) (c := c) (by omega) (by omega); rw [show (l.take m).drop 4 = z4 by rw [hz4, inner, ← hmm]] at this; exact this) (by omega)⟩
  rw [hzl] at KNr
  rw [← hz4]
  obtain ⟨A4, hA4⟩ : ∃ A4, A4 = (if c = 4 then A else A.map (·.add (4 * 1))) := ⟨_, rfl⟩
  rw [← hA4] at KNr hcut3
  have KzB := Aside0.mk hzB
  have Kzl := Aside0.mk hzl
  obtain ⟨q, hq5⟩ : ∃ q, q = m - 4 := ⟨_, rfl⟩
  rw [← hq5] at KNr hcut3 Kzl
  have hq24 : 24 ≤ q := by omega
  have hqm : q ≤ 2000000 := by omega
  obtain ⟨n, hn⟩ : ∃ n, n = l.length := ⟨_, rfl⟩
  rw [← hn] at h hm hc hcut hcut2 KG ⊢
  obtain ⟨z, hz⟩ : ∃ z, z = (strOfNums (l.take 4)) := ⟨_, rfl⟩
  rw [← hz] at hs hq hq2
  clear hn hB0 hC hl hM h4 hz hmm hlm hS hy hx hcb hzl hzB hz4 hA4 hq5 hxi hxs
  obtain ⟨R, hR⟩ : ∃ R, R = parse z4 (z4.length + 1) ⟨24, false⟩ [] := ⟨_, rfl⟩
  rw [← hR]
  have KRr := Aside0.mk hR
  clear hR
  go_enter Try.func25, Try.ntmps25
  go_wp2_with (go_at_call 44; apply Aside0.out)
  refine ⟨?_⟩
  refine (KG.out _ KB0.out).mono ?_
  rintro e w2 ⟨rfl, rfl⟩
  go_wp2_with (go_at_call 43; apply Aside0.out)
  refine ⟨?_⟩
  refine (KR.out _ KB0.out).mono ?_
  rintro e w2 ⟨rfl, rfl⟩
  go_wp2_with (go_at_call 45; apply Aside0.out)
  refine ⟨?_⟩
  refine (KNr.out _ KB0.out).mono ?_
  rintro e w1 ⟨g, v, rfl, hF⟩
  obtain ⟨wN, hwN⟩ : ∃ wN, wN = w.alloc (.cells #[.int .i64 0, .int .i64 0, .int .u64 0, .int .u64 0, .slice none 0 0] 27) := ⟨_, rfl⟩
  have Kzg : Aside0 (wN.heap.size = w.heap.size + 1) := ⟨by rw [hwN]; simp⟩
  rw [← hwN] at hF KZ0 KB0
  have KF1 := Aside0.mk hF
  clear hF hwN hs hq hq2 hcut hcut2 hcut3 KG KR KNr
  have hn0 := rd32 KzB.out 0 (by have := Kzl.out; omega)
  have hn4 := rd32 KzB.out 4 (by have := Kzl.out; omega)
  obtain ⟨n0, e0⟩ : ∃ n0, n0 = rdN z4 0 4 := ⟨_, rfl⟩
  obtain ⟨n1, e1⟩ : ∃ n1, n1 = rdN z4 4 4 := ⟨_, rfl⟩
  obtain ⟨n2, e2⟩ : ∃ n2, n2 = rdN z4 8 8 := ⟨_, rfl⟩
  obtain ⟨n3, e3⟩ : ∃ n3, n3 = rdN z4 16 8 := ⟨_, rfl⟩
  have Kns := Aside0.mk (And.intro e0 (And.intro e1 (And.intro e2 e3)))
  rw [← e0] at hn0
  rw [← e1] at hn4
  have w0 : wrap64 (n0 : Int) = n0 := (w_small n0 hn0).1
  have w1' : wrap64 (n1 : Int) = n1 := (w_small n1 hn4).1
  have w0i : IntKind.i64.wrap (n0 : Int) = n0 := (w_small n0 hn0).2
  have w1i : IntKind.i64.wrap (n1 : Int) = n1 := (w_small n1 hn4).2
  clear e0 e1 e2 e3 hn0 hn4
  go_wp2_with (go_at_call 46; apply Aside0.out)
  refine ⟨?_⟩
  refine (rnum_ok 0 4 4 KF1.out KzB.out (by have := Kzl.out; omega) (Or.inr (Or.inr (Or.inl rfl))) (by have := Kzl.out; omega) rfl).mono ?_
  rintro e w2 ⟨rfl, hF, hk⟩
  rw [← Kns.out.1]
  have KF2 := Aside0.mk hF
  have KK2 := Aside0.mk hk
  clear hF hk
  go_wp2_with (go_at_call 46; apply Aside0.out)
  refine ⟨?_⟩
  refine (rnum_ok 4 4 8 KF2.out KzB.out (by have := Kzl.out; omega) (Or.inr (Or.inr (Or.inl rfl))) (by have := Kzl.out; omega) rfl).mono ?_
  rintro e w3 ⟨rfl, hF, hk⟩
  rw [← Kns.out.2.1]
  have KF3 := Aside0.mk hF
  clear hF hk
  have hX := heap_alloc_new w3 (.cells #[.int .i64 n0, .int .i64 n1, .int .u64 0, .int .u64 0, .slice none 0 0] 27)
  have hXb := below_alloc (Below.refl w3.heap.size w3) (.cells #[.int .i64 n0, .int .i64 n1, .int .u64 0, .int .u64 0, .slice none 0 0] 27)
  have KX4 := Aside0.mk hX
  have KF4 := Aside0.mk (KF3.out.keep hXb)
  have hgl := KF3.out.lt
  have hgb := KF3.out.bg
  clear hX hXb
  go_wp2_with (go_at_call 46; apply Aside0.out)
  refine ⟨?_⟩
  refine (rnum_ok 8 8 16 KF4.out KzB.out (by have := Kzl.out; omega) (Or.inr (Or.inr (Or.inr rfl))) (by have := Kzl.out; omega) rfl).mono ?_
  rintro e w5 ⟨rfl, hF, hk⟩
  rw [← Kns.out.2.2.1]
  have KF5 := Aside0.mk hF
  have KX5 := Aside0.mk (hk.blk KX4.out (by omega) (by simp))
  have x2 : w5.cell? ⟨w3.heap.size, 2, none⟩ = some (.int .u64 0) := (cell_of_row _ _ _ _ _ _ KX5.out).trans rfl
  have xf2 : w5.frozen? ⟨w3.heap.size, 2, none⟩ = false := blk_frozen KX5.out 2
  have KF6 := Aside0.mk (FR_far KF5.out KX5.out (by decide) (by decide) (by omega) 2 (.int .u64 (n2 : Int)))
  have KX6 := Aside0.mk (blk_set KX5.out 2 (.int .u64 (n2 : Int)))
  clear hF hk
  go_wp2_with (go_at_call 46; apply Aside0.out)
  refine ⟨?_⟩
  refine (rnum_ok 16 8 24 KF6.out KzB.out (by have := Kzl.out; omega) (Or.inr (Or.inr (Or.inr rfl))) (by have := Kzl.out; omega) rfl).mono ?_
  rintro e w7 ⟨rfl, hF, hk⟩
  rw [← Kns.out.2.2.2]
  have KF7 := Aside0.mk hF
  have KX7 := Aside0.mk (hk.blk KX6.out (by omega) (by simp))
  have x3 : w7.cell? ⟨w3.heap.size, 3, none⟩ = some (.int .u64 0) := (cell_of_row _ _ _ _ _ _ KX7.out).trans rfl
  have xf3 : w7.frozen? ⟨w3.heap.size, 3, none⟩ = false := blk_frozen KX7.out 3
  have KF8 := Aside0.mk (FR_far KF7.out KX7.out (by decide) (by decide) (by omega) 3 (.int .u64 (n3 : Int)))
  have KX8 := Aside0.mk (blk_set KX7.out 3 (.int .u64 (n3 : Int)))
  clear hF hk x2 xf2
  obtain ⟨w8, hw8⟩ : ∃ w8, w8 = w7.setCell ⟨w3.heap.size, 3, none⟩ (.int .u64 (n3 : Int)) := ⟨_, rfl⟩
  rw [← hw8] at KF8 KX8
  obtain ⟨db, hdb⟩ : ∃ db, db = w3.heap.size := ⟨_, rfl⟩
  have KD8 : Aside0 (DS w wN g db z4 v ⟨n0, n1, n2, n3, []⟩ w8 ⟨24, false⟩ (.slice none 0 0) []) := ⟨by
    have hzb : w.heap.size < wN.heap.size := by rw [Kzg.out]; exact Nat.lt_succ_self _
    have hB8 := KF8.out.below
    refine ⟨KF8.out, by rw [hdb]; exact KX8.out, Kd.N_nil _ _ _ _ _, (hB8.block _ (blk_lt KZ0.out)).trans KZ0.out, below_then KB0.out KB0.out.size hB8, by omega, hzb, Kzg.out, by simp, by simp, rfl⟩⟩
  go_wp2
  rw [← hw8, ← hdb]
  have Kdb := Aside0.mk hdb
  clear hdb hw8 x3 xf3 w0 w1' w0i w1i hwx
  go_loopg [] (q + 1) (fun f wr => Aside0 (∃ s ov acc, DS w wN g db z4 v ⟨n0, n1, n2, n3, []⟩ wr s ov acc ∧ R = parse z4 f s acc ∧ q < s.at_ + f))
  case atStart => exact ⟨⟨24, false⟩, .slice none 0 0, [], KD8.out, by rw [KRr.out, Kzl.out], by show q < 24 + (q + 1); omega⟩
  case round =>
    obtain ⟨s, ov, acc, hD, hP, hf⟩ := hrel.out
    have KD := Aside0.mk hD
    have KL := Aside0.mk (left_any hD.rd (by have := Kzl.out; omega))
    rw [Kzl.out] at KL
    cases gk with
    | zero => exact absurd hf (by have := hD.rd.at_; have := Kzl.out; omega)
    | succ f =>
      have Kf := Aside0.mk hf
      rw [parse, Kzl.out] at hP
      by_cases hend : q ≤ s.at_
      · rw [if_pos hend] at hP
        have KP := Aside0.mk hP
        have h0 : decide (0 < (q : Int) - (s.at_ : Int)) = false := decide_eq_false (by omega)
        go_wp2_with (go_at_call 47; apply Aside0.out)
        refine ⟨?_⟩
        refine KL.out.mono ?_
        rintro e w1 ⟨rfl, k1, hw1⟩
        have KB1 : Aside0 (Below wr.heap.size wr w1) := ⟨by rw [hw1]; exact pw_below_drewN (Below.refl _ _) _⟩
        have KX1 : Aside0 (XB w1 db ⟨n0, n1, n2, n3, []⟩ ov) := ⟨blk_below KD.out.box KB1.out⟩
        have KN1 := Aside0.mk (Kd.N_below KD.out.ops KB1.out)
        have KZ1 : Aside0 (XB w1 w.heap.size zeroD (.slice none 0 0)) := ⟨blk_below KD.out.zero KB1.out⟩
        have KW1 := Aside0.mk (below_then KD.out.below KD.out.below.size KB1.out)
        obtain ⟨A5, C5, rfl, hle5, hC5⟩ := N_C KN1.out
        obtain ⟨y0, y1, y2, y3, y4⟩ := KX1.out.cells
        have KCk := Aside0.mk (check_any ⟨n0, n1, n2, n3, acc⟩ A5 C5 w1 hC5 hle5 KD.out.wf (by have := KD.out.len; have := KD.out.rd.at_; have := Kzl.out; show acc.length ≤ _; omega))
        have Kfin : Aside0 (finD z4 R = if rightD ⟨n0, n1, n2, n3, acc⟩ = true then (⟨n0, n1, n2, n3, acc⟩, 0) else (zeroD, 6)) := ⟨by
          have e : headD z4 acc = ⟨n0, n1, n2, n3, acc⟩ := by unfold headD; rw [← Kns.out.1, ← Kns.out.2.1, ← Kns.out.2.2.1, ← Kns.out.2.2.2]
          rw [KP.out, finD, e]⟩
        obtain ⟨r, hr⟩ : ∃ r, r = rightD ⟨n0, n1, n2, n3, acc⟩ := ⟨_, rfl⟩
        rw [← hr] at KCk Kfin
        obtain ⟨la, hla⟩ : ∃ la, la = acc.length := ⟨_, rfl⟩
        have Kla := Aside0.mk hla
        simp only [dv] at KCk
        rw [← hla] at KCk y4
        have h01 : decide ((s.at_ : Int) < (q : Int)) = false := decide_eq_false (by omega)
        have h02 : decide (s.at_ < q) = false := decide_eq_false (by omega)
        clear hw1 hC5 hle5 hr hla hD hP hf hend
        cases r with
        | false =>
          have Kf6 : Aside0 (finD z4 R = (zeroD, 6)) := ⟨by rw [Kfin.out]; rfl⟩
          clear Kfin
          go_wp2_with (go_at_call 19; apply Aside0.out)
          refine ⟨?_⟩
          refine KCk.out.mono ?_
          rintro e w2 ⟨rfl, hb⟩
          have KZ2 : Aside0 (XB w2 w.heap.size zeroD (.slice none 0 0)) := ⟨blk_below KZ1.out hb⟩
          have KW2 := Aside0.mk (below_then KW1.out KW1.out.size hb)
          clear hb y0 y1 y2 y3 y4
          go_wp2_with ((with_reducible refine gate_store (t := 27) (p := 2) rfl ?_); apply Aside0.out)
          refine ⟨?_⟩
          refine store_del rfl (.tmp 2) (.tmp 86) rfl w.heap.size _ _ rfl rfl KZ2.out rfl rfl (by simp [Value.oneCell']) ?_
          intro w7 hg hB hE hS
          have KB7 := Aside0.mk (hB _ _ (Nat.le_refl _) KW2.out)
          have KZ7 := Aside0.mk hg
          clear hg hB hE hS
          go_wp2
          refine bodyPost_ret (results_list (rs := [.cell 2 27, .tmp 3]) rfl (by simp) (.cell w.heap.size 27 _ _ _ rfl KZ7.out Try.underlying27 rfl szDel (.tmp .nil))) rfl ?_
          rw [Kf6.out]
          exact ⟨_, rfl, Kd.N_nil _ _ _ _ _, KB7.out⟩
        | true =>
          have Kf6 : Aside0 (finD z4 R = (⟨n0, n1, n2, n3, acc⟩, 0)) := ⟨by rw [Kfin.out]; rfl⟩
          clear Kfin
          go_wp2_with (go_at_call 19; apply Aside0.out)
          refine ⟨?_⟩
          refine KCk.out.mono ?_
          rintro e w2 ⟨rfl, hb⟩
          have KZ2 : Aside0 (XB w2 w.heap.size zeroD (.slice none 0 0)) := ⟨blk_below KZ1.out hb⟩
          have KX2 : Aside0 (XB w2 db ⟨n0, n1, n2, n3, []⟩ (.slice A5 la C5)) := ⟨by rw [Kla.out]; exact blk_below KX1.out hb⟩
          have KN2 := Aside0.mk (Kd.N_below KN1.out hb)
          have KW2 := Aside0.mk (below_then KW1.out KW1.out.size hb)
          clear hb y0 y1 y2 y3 y4
          obtain ⟨y0, y1, y2, y3, y4⟩ := KX2.out.cells
          go_wp2_with ((with_reducible refine gate_store (t := 27) (p := 2) rfl ?_); apply Aside0.out)
          refine ⟨?_⟩
          refine store_del rfl (.tmp 2) (.tmp 87) rfl w.heap.size _ _ rfl rfl KZ2.out rfl rfl (by simp [Value.oneCell']) ?_
          intro w7 hg hB hE hS
          have KB7 := Aside0.mk (hB _ _ (Nat.le_refl _) KW2.out)
          have KZ7 := Aside0.mk hg
          have KN7 := Aside0.mk (Kd.N_mono (Kd.N_step KN2.out (fun k hk _ => hE k hk.2.2.2)) (fun k hk => hk.1))
          clear hg hB hE hS y0 y1 y2 y3 y4
          go_wp2
          refine bodyPost_ret (results_list (rs := [.cell 2 27, .tmp 3]) rfl (by simp) (.cell w.heap.size 27 _ _ _ rfl KZ7.out Try.underlying27 rfl szDel (.tmp .nil))) rfl ?_
          rw [Kf6.out]
          exact ⟨_, rfl, by rw [Kla.out]; exact KN7.out, KB7.out⟩
      · rw [if_neg hend] at hP
        have KP := Aside0.mk hP
        have h0 : decide (0 < (q : Int) - (s.at_ : Int)) = true := decide_eq_true (by omega)
        have h01 : decide ((s.at_ : Int) < (q : Int)) = true := decide_eq_true (by omega)
        have h02 : decide (s.at_ < q) = true := decide_eq_true (by omega)
        obtain ⟨o, b, s', hop⟩ : ∃ o b s', opP z4 s = (o, b, s') := ⟨_, _, _, rfl⟩
        have Kop := Aside0.mk hop
        clear hD hP hf hend
        go_wp2_with (go_at_call 47; apply Aside0.out)
        refine ⟨?_⟩
        refine KL.out.mono ?_
        rintro e w1 ⟨rfl, k1, hw1⟩
        have KD1 : Aside0 (DS w wN g db z4 v ⟨n0, n1, n2, n3, []⟩ w1 s ov acc) := ⟨KD.out.keep (by rw [hw1]; exact pw_below_drewN (Below.refl _ _) _)⟩
        have KO := Aside0.mk (op_any KD1.out.rd KzB.out (by have := Kzl.out; omega))
        rw [hop] at KO
        clear hw1 hop
        go_wp2_with (go_at_call 48; apply Aside0.out)
        refine ⟨?_⟩
        refine KO.out.mono ?_
        rintro e w2 ⟨u, rfl, hO, hF, hk⟩
        have KR2 := Aside0.mk (KD1.out.read hF hk)
        have KF2 := Aside0.mk hF
        have KO2 := Aside0.mk hO
        obtain ⟨Au, cu, rfl, hcu, -⟩ := hO.slice
        obtain ⟨lu, hlu⟩ : ∃ lu, lu = o.f2.length := ⟨_, rfl⟩
        have Klu := Aside0.mk hlu
        have Ksz := Aside0.mk hk.1
        simp only
        have hX := heap_alloc_new w2 (.cells #[.int .i64 o.f0, .int .i64 o.f1, .slice Au o.f2.length cu] 37)
        have hXb := below_alloc (Below.refl w2.heap.size w2) (.cells #[.int .i64 o.f0, .int .i64 o.f1, .slice Au o.f2.length cu] 37)
        have KX3 := Aside0.mk hX
        have KF3 := Aside0.mk (hF.keep hXb)
        have KO3 := Aside0.mk (hO.below hXb)
        have KXb := Aside0.mk hXb
        have KE := Aside0.mk (err_any KF3.out)
        rw [← hlu] at KX3 KF3 KO3 KXb KE ⊢
        clear hO hF hk hX hXb KO hcu hlu
        go_wp2_with (go_at_call 49; apply Aside0.out)
        refine ⟨?_⟩
        refine KE.out.mono ?_
        rintro e w4 ⟨rfl, k4, hw4⟩
        have Kb4 : Aside0 (Below w2.heap.size w2 w4) := ⟨by rw [hw4]; exact pw_below_drewN KXb.out _⟩
        have KX4 : Aside0 (w4.heap[w2.heap.size]? = some (.cells #[.int .i64 o.f0, .int .i64 o.f1, .slice Au lu cu] 37 (0, 0))) := ⟨by rw [hw4]; exact blk_drewN KX3.out _⟩
        have KF4 : Aside0 (FR wN wN.heap.size g w4 v z4 s') := ⟨by rw [hw4]; exact KF3.out.keep (pw_below_drewN (Below.refl _ _) _)⟩
        have KO4 : Aside0 (Row.OwnB w4 w1.heap.size (.slice Au lu cu) o.f2) := ⟨by rw [hw4]; exact KO3.out.below (pw_below_drewN (Below.refl _ _) _)⟩
        obtain ⟨y0, y1, y2⟩ := obox_cells KX4.out
        clear hw4
        by_cases hgood : b = true ∧ s'.bad = false
        · obtain ⟨rfl, hbad⟩ := hgood
          have he : s'.e = 0 := by unfold RS.e; rw [hbad]; rfl
          rw [he]
          have hX4 := blk_below KR2.out.1 Kb4.out
          have KXd : Aside0 (XB w4 db ⟨n0, n1, n2, n3, []⟩ ov) := ⟨hX4⟩
          have KN4 := Aside0.mk (Kd.N_below KR2.out.2.1 Kb4.out)
          have KZ4 : Aside0 (XB w4 w.heap.size zeroD (.slice none 0 0)) := ⟨blk_below KR2.out.2.2.1 Kb4.out⟩
          have KB4 := Aside0.mk (below_then KR2.out.2.2.2 KR2.out.2.2.2.size Kb4.out)
          obtain ⟨q0, q1, q2, q3, q4⟩ := KXd.out.cells
          clear hX4 he
          go_wp2_with ((with_reducible refine gate_builtin (b := .append) (xs := #[.tmp 78, .tmp 80]) rfl ?_); apply Aside0.out)
          refine ⟨?_⟩
          have Kal := Aside0.mk (below_alloc (Below.refl w4.heap.size w4) (.cells #[.int .i64 o.f0, .int .i64 o.f1, .slice Au lu cu] 37))
          refine Kd.N_append k37 (w0 := w) w.heap.size rfl (.tmp 78) (.tmp 80) 25 37 (.agg #[(.int .i64 0), (.int .i64 0), (.slice none 0 0)]) 40 rfl Try.underlying25 info37 rfl (by decide) (by omega) ov acc o [.int .i64 o.f0, .int .i64 o.f1, .slice Au lu cu] (fun k => w.heap.size ≤ k ∧ k ≠ g ∧ k ≠ db ∧ k ≠ w.heap.size) (fun k => (w.heap.size ≤ k ∧ k ≠ g ∧ k ≠ db ∧ k ≠ w.heap.size) ∧ some k ≠ ov.ownBlock) rfl rfl ?aF (fun _ hk => hk) ?aO KN4.out KB4.out KB4.out.size ?aL ?_
          case aF =>
            have h9 := FK_own (o := o) (A := Au) (c := cu) (W := w4) (b' := w1.heap.size) (by have := KO4.out; rwa [Klu.out] at this) (ok := fun k => (w.heap.size ≤ k ∧ k ≠ g ∧ k ≠ db ∧ k ≠ w.heap.size) ∧ some k ≠ ov.ownBlock) (fun k hk => by
              obtain ⟨l1, l2, l3⟩ := KD1.out.lt
              refine ⟨⟨by omega, by omega, by omega, by omega⟩, fun e => ?_⟩
              have := Kd.N_lt KD1.out.ops k e.symm
              omega)
            rwa [← Klu.out] at h9
          case aO =>
            intro k hk
            obtain ⟨l1, l2, l3⟩ := KD1.out.lt
            have h7 := Ksz.out
            have h8 := Kb4.out.size
            exact ⟨by omega, by omega, by omega, by omega⟩
          case aL =>
            have h7 := KD1.out.len
            have h8 := KD1.out.rd.at_
            have h9 := Kzl.out
            omega
          intro v5 w5 hN5 hB5 hg5 hat5
          have hX5 : XB w5 db ⟨n0, n1, n2, n3, []⟩ ov := (hg5.block db (blk_lt KXd.out) (Kd.N_ne KN4.out KXd.out (by decide))).trans KXd.out
          have hZ5 : XB w5 w.heap.size zeroD (.slice none 0 0) := (hg5.block _ (blk_lt KZ4.out) (Kd.N_ne KN4.out KZ4.out (by decide))).trans KZ4.out
          have hBN : Below wN.heap.size wN w5 := ⟨(hg5.os.trans KF4.out.below.os), (hg5.tape.trans KF4.out.below.tape), (hg5.output.trans KF4.out.below.output), Nat.le_trans KF4.out.below.size hg5.size, fun i hi => (hg5.block i (Nat.lt_of_lt_of_le hi KF4.out.below.size) (fun e => by
            have h9 := Kd.N_base KN4.out i e.symm
            have h10 := KN4.out.1 i e.symm
            have h11 := KD1.out.zs
            omega)).trans (KF4.out.below.block i hi)⟩
          obtain ⟨A5, C5, hv5⟩ := Kd.N_slice hN5
          obtain ⟨l5, hl5⟩ : ∃ l5, l5 = (acc ++ [o]).length := ⟨_, rfl⟩
          rw [← hl5] at hv5
          subst hv5
          have hF5 := FR_grown (u := ov) KF4.out KN4.out hg5 hBN
          have xf5 : w5.frozen? ⟨db, 4, none⟩ = false := blk_frozen hX5 4
          have x5 : w5.cell? ⟨db, 4, none⟩ = some ov := hX5.cells.2.2.2.2
          have KD6 : Aside0 (DS w wN g db z4 v ⟨n0, n1, n2, n3, []⟩ (w5.setCell ⟨db, 4, none⟩ (.slice A5 l5 C5)) s' (.slice A5 l5 C5) (acc ++ [o])) := ⟨by
            obtain ⟨l1, l2, l3⟩ := KD1.out.lt
            have hzg := KD1.out.zg
            have hgb := KD1.out.rd.bg
            have hog := op_good (x := z4) (s := s) (by rw [Kop.out]) (by rw [Kop.out]; exact hbad)
            rw [Kop.out] at hog
            have hwf := op_wf (x := z4) (s := s) KzB.out (by have := Kzl.out; omega)
            rw [Kop.out] at hwf
            have hlen := KD1.out.len
            refine ⟨FR_far hF5 hX5 (by decide) (by decide) (by omega) 4 _, ?_, Kd.N_far hN5 (p := ⟨db, 4, none⟩) (fun k hk => hk.2.2.1) _, (Below.heap_setCell _ ⟨db, 4, none⟩ _ w.heap.size (by show w.heap.size ≠ db; omega)).trans hZ5, hB5.setCell (by show w.heap.size ≤ db; omega) _, l2, hzg, KD1.out.zs, fun p hp => ?_, ?_, hbad⟩
            · exact blk_set hX5 4 _
            · rcases List.mem_append.1 hp with hp | hp
              · exact KD1.out.wf p hp
              · rw [List.mem_singleton.1 hp]; exact hwf
            · rw [List.length_append, List.length_singleton]
              have := hog.1
              simp only at this
              omega⟩
          have KP6 : Aside0 (R = parse z4 f s' (acc ++ [o]) ∧ q < s'.at_ + f) := ⟨by
            have hog := op_good (x := z4) (s := s) (by rw [Kop.out]) (by rw [Kop.out]; exact hbad)
            rw [Kop.out] at hog
            have := hog.1
            have hf := Kf.out
            simp only at this
            refine ⟨?_, by omega⟩
            rw [KP.out, Kop.out, if_pos ⟨rfl, hbad⟩]⟩
          clear hN5 hB5 hg5 hat5 hX5 hZ5 hBN hF5 q0 q1 q2 q3 q4 y0 y1 y2 hl5
          go_wp2
          go_roundg f
          case measure => omega
          case rel => exact ⟨s', _, acc ++ [o], KD6.out, KP6.out.1, KP6.out.2⟩
        · have Kng := Aside0.mk hgood
          clear hgood
          cases b with
          | false =>
            have KZ4 : Aside0 (XB w4 w.heap.size zeroD (.slice none 0 0)) := ⟨blk_below KR2.out.2.2.1 Kb4.out⟩
            have KB4 := Aside0.mk (below_then KR2.out.2.2.2 KR2.out.2.2.2.size Kb4.out)
            have Kf6 : Aside0 (finD z4 R = (zeroD, 6)) := ⟨by rw [KP.out, Kop.out, if_neg Kng.out]; rfl⟩
            clear y0 y1 y2
            go_wp2_with ((with_reducible refine gate_store (t := 27) (p := 2) rfl ?_); apply Aside0.out)
            refine ⟨?_⟩
            refine store_del rfl (.tmp 2) (.tmp 76) rfl w.heap.size _ _ rfl rfl KZ4.out rfl rfl (by simp [Value.oneCell']) ?_
            intro w7 hg hB hE hS
            have KB7 := Aside0.mk (hB _ _ (Nat.le_refl _) KB4.out)
            have KZ7 := Aside0.mk hg
            clear hg hB hE hS
            go_wp2
            refine bodyPost_ret (results_list (rs := [.cell 2 27, .tmp 3]) rfl (by simp) (.cell w.heap.size 27 _ _ _ rfl KZ7.out Try.underlying27 rfl szDel (.tmp .nil))) rfl ?_
            rw [Kf6.out]
            exact ⟨_, rfl, Kd.N_nil _ _ _ _ _, KB7.out⟩
          | true =>
            have hbad : s'.bad = true := by have := Kng.out; cases h : s'.bad with | true => rfl | false => exact absurd ⟨rfl, h⟩ this
            have he : s'.e = 6 := by unfold RS.e; rw [hbad]; rfl
            rw [he]
            clear he hbad
            have KZ4 : Aside0 (XB w4 w.heap.size zeroD (.slice none 0 0)) := ⟨blk_below KR2.out.2.2.1 Kb4.out⟩
            have KB4 := Aside0.mk (below_then KR2.out.2.2.2 KR2.out.2.2.2.size Kb4.out)
            have Kf6 : Aside0 (finD z4 R = (zeroD, 6)) := ⟨by rw [KP.out, Kop.out, if_neg Kng.out]; rfl⟩
            clear y0 y1 y2
            go_wp2_with ((with_reducible refine gate_store (t := 27) (p := 2) rfl ?_); apply Aside0.out)
            refine ⟨?_⟩
            refine store_del rfl (.tmp 2) (.tmp 76) rfl w.heap.size _ _ rfl rfl KZ4.out rfl rfl (by simp [Value.oneCell']) ?_
            intro w7 hg hB hE hS
            have KB7 := Aside0.mk (hB _ _ (Nat.le_refl _) KB4.out)
            have KZ7 := Aside0.mk hg
            clear hg hB hE hS
            go_wp2
            refine bodyPost_ret (results_list (rs := [.cell 2 27, .tmp 3]) rfl (by simp) (.cell w.heap.size 27 _ _ _ rfl KZ7.out Try.underlying27 rfl szDel (.tmp .nil))) rfl ?_
            rw [Kf6.out]
            exact ⟨_, rfl, Kd.N_nil _ _ _ _ _, KB7.out⟩
end Go.Proofs.Ytogplkochcalpaa.De
/- Deltas out of bytes: Decode of any bytes; a delta's own bytes tell it again. -/
set_option linter.unusedVariables false
set_option linter.unusedSimpArgs false
namespace Go.Proofs.Ytogplkochcalpaa.De
open Go.RowKit Go.Proofs.Ytogplkochcalpaa.PD Go.Proofs.Ytogplkochcalpaa.Fd Go.Proofs.Ytogplkochcalpaa.Bg Go.Proofs.YtogplkochcalpaaW.PrintWords Go.Proofs.YtogplkochcalpaaW.PrintLast Go.Proofs.YtogplkochcalpaaW.PrintMore
theorem decode_any (w : World) (l : List Int) (A : Option Addr) (c : Nat) (hC : Kd.C (Kd.int .u8) w A l.length l) (hl : ∀ x ∈ l, 0 ≤ x ∧ x < 256) (hm : l.length ≤ 2000000) (hc : l.length ≤ c) : Calls Try.prog 25 #[.slice A l.length c] w fun e w' => DecR w (decP l) e w' := by
  unfold decP
  by_cases h : l.length < 32
  · rw [if_pos (Or.inl h)]; exact decode_short w l A c h
  · by_cases hM : l.take 4 = [80, 77, 68, 49]
    · rw [if_neg (fun h1 => h1.elim h (fun h2 => h2 hM))]
      by_cases hS : rdN l (l.length - 4) 4 = Sum.crc 0 (l.take (l.length - 4))
      · rw [if_neg (fun h1 => h1 hS)]; exact decode_main w l A c hC hl hm hc (by omega) hM hS
      · rw [if_pos hS]; exact decode_sum w l A c hC hl hm hc (by omega) hM hS
    · rw [if_pos (Or.inr hM)]; exact decode_magic w l A c hC hl hm hc (by omega) hM
theorem tk_in {x : List Int} {p k : Nat} (h : p + k ≤ x.length) : (⟨p, false⟩ : RS).tk x k = (x.drop p).take k := by unfold RS.tk; rw [if_pos ⟨rfl, h⟩]
theorem next_in {x : List Int} {p k : Nat} (h : p + k ≤ x.length) : (⟨p, false⟩ : RS).next x k = ⟨p + k, false⟩ := by unfold RS.next; rw [if_neg (by simp), if_pos h]
theorem val_in {x : List Int} {p k : Nat} (h : p + k ≤ x.length) : val ((⟨p, false⟩ : RS).tk x k) = rdN x p k := by rw [tk_in h]; rfl
theorem p32' {n : Int} (h : n ≤ 8388608) : n.toNat < 2 ^ (8 * 4) := by
  have : n.toNat ≤ 8388608 := by omega
  exact Nat.lt_of_le_of_lt this (by decide)
/-- An op's bytes tell it. -/
theorem op_back (pre tail : List Int) (o : S37) (d : Dl) (hr : rightD d = true) (ho : o ∈ d.l) : opP (pre ++ opB o ++ tail) ⟨pre.length, false⟩ = (o, true, ⟨pre.length + (opB o).length, false⟩) := by
  obtain ⟨b1, b2, b3, b4, b5⟩ := op_bounds hr ho
  obtain ⟨r1, r2, r3, r4, r5, r6⟩ := right_parts hr
  have hro := (right_mem r6 ho).1
  obtain ⟨x, hx⟩ : ∃ x, x = pre ++ opB o ++ tail := ⟨_, rfl⟩
  rw [← hx]
  have hlen : x.length = pre.length + (opB o).length + tail.length := by rw [hx, List.length_append, List.length_append]
  obtain ⟨p, hp⟩ : ∃ p, p = pre.length := ⟨_, rfl⟩
  rw [← hp] at hlen ⊢
  by_cases c : o.f1 > 0
  · have hob : opB o = le 0 1 ++ le o.f0.toNat 4 ++ le o.f1.toNat 4 := if_pos c
    have h9 : (opB o).length = 9 := by rw [opB_len, if_pos c]
    rw [hob] at hx
    rw [h9] at hlen ⊢
    have v0 : rdN x p 1 = 0 := rd_mid pre (le o.f0.toNat 4 ++ le o.f1.toNat 4 ++ tail) 0 1 p hp.symm (by decide) x (by rw [hx]; simp [List.append_assoc])
    have v1 : rdN x (p + 1) 4 = o.f0.toNat := rd_mid (pre ++ le 0 1) (le o.f1.toNat 4 ++ tail) _ 4 (p + 1) (by simp [le_length, hp]) (p32' b2) x (by rw [hx]; simp [List.append_assoc])
    have v2 : rdN x (p + 1 + 4) 4 = o.f1.toNat := rd_mid (pre ++ le 0 1 ++ le o.f0.toNat 4) tail _ 4 (p + 1 + 4) (by simp [le_length, hp]) (p32' b4) x (by rw [hx]; simp [List.append_assoc])
    unfold opP
    rw [val_in (by omega), v0, if_pos rfl, next_in (by omega), val_in (by omega), v1, next_in (by omega), val_in (by omega), v2, next_in (by omega)]
    have e1 : ((o.f0.toNat : Nat) : Int) = o.f0 := Int.toNat_of_nonneg b1
    have e2 : ((o.f1.toNat : Nat) : Int) = o.f1 := Int.toNat_of_nonneg b3
    have e3 : (⟨o.f0, o.f1, []⟩ : S37) = o := by
      have := f2_nil hro c
      cases o; simp_all
    rw [e1, e2, e3, show decide (0 < o.f1.toNat) = true from decide_eq_true (by omega)]
  · have hob : opB o = le 1 1 ++ le o.f2.length 4 ++ o.f2 := if_neg c
    have h9 : (opB o).length = 5 + o.f2.length := by rw [opB_len, if_neg c]
    rw [hob] at hx
    rw [h9] at hlen ⊢
    have hz : o.f1 = 0 := by omega
    have hro2 := (rightO_z hz).1 hro
    have v0 : rdN x p 1 = 1 := rd_mid pre (le o.f2.length 4 ++ o.f2 ++ tail) 1 1 p hp.symm (by decide) x (by rw [hx]; simp [List.append_assoc])
    have v1 : rdN x (p + 1) 4 = o.f2.length := rd_mid (pre ++ le 1 1) (o.f2 ++ tail) _ 4 (p + 1) (by simp [le_length, hp]) (by have := p32' (n := (o.f2.length : Int)) b5; simpa using this) x (by rw [hx]; simp [List.append_assoc])
    have v2 : (x.drop (p + 1 + 4)).take o.f2.length = o.f2 := by
      have e : x = (pre ++ le 1 1 ++ le o.f2.length 4) ++ (o.f2 ++ tail) := by rw [hx]; simp [List.append_assoc]
      have el : (pre ++ le 1 1 ++ le o.f2.length 4).length = p + 1 + 4 := by simp [le_length, hp]
      rw [e, ← el, List.drop_left, List.take_left]
    unfold opP
    rw [val_in (by omega), v0, if_neg (by decide), if_pos rfl, next_in (by omega), val_in (by omega), v1, next_in (by omega), tk_in (by omega), v2, next_in (by omega)]
    have e3 : (⟨0, 0, o.f2⟩ : S37) = o := by
      have := hro2.1
      cases o; simp_all
    rw [e3, show decide (0 < o.f2.length) = true from decide_eq_true (by omega)]
    congr 2
    simp only [RS.mk.injEq, and_true]
    omega
theorem parse_back (d : Dl) (hr : rightD d = true) : ∀ (rest : List S37) (pre : List Int) (f : Nat) (acc : List S37), (∀ o ∈ rest, o ∈ d.l) → rest.length < f → parse (pre ++ opsB rest) f ⟨pre.length, false⟩ acc = some (acc ++ rest)
  | [], pre, f + 1, acc, hm, hf => by
    rw [parse]
    rw [if_pos (by simp [opsB])]
    simp
  | o :: rest, pre, f + 1, acc, hm, hf => by
    have e : opsB (o :: rest) = opB o ++ opsB rest := by simp [opsB]
    have hb := op_back pre (opsB rest) o d hr (hm o (by simp))
    have hpos : 5 ≤ (opB o).length := by rw [opB_len]; split <;> omega
    have ih := parse_back d hr rest (pre ++ opB o) f (acc ++ [o]) (fun p hp => hm p (by simp [hp])) (by simpa using hf)
    rw [List.append_assoc] at hb ih
    rw [e, parse, if_neg (by simp only [List.length_append]; omega), hb]
    rw [if_pos ⟨rfl, rfl⟩]
    rw [show pre.length + (opB o).length = (pre ++ opB o).length by simp, ih]
    simp
theorem inner_bytes (d : Dl) : inner (bytesB d) = le d.a.toNat 4 ++ le d.b.toNat 4 ++ le d.c.toNat 8 ++ le d.d.toNat 8 ++ opsB d.l := by
  unfold inner bytesB
  rw [List.length_append, le_length, Nat.add_sub_cancel, List.take_left, bodyB, headB]
  simp only [List.append_assoc]
  rfl
theorem ops_len_le (l : List S37) : l.length ≤ (opsB l).length := by
  induction l with
  | nil => simp
  | cons o l ih =>
    have e : opsB (o :: l) = opB o ++ opsB l := by simp [opsB]
    rw [e, List.length_append, opB_len, List.length_cons]
    split <;> omega
theorem p64' {n : Int} (h0 : 0 ≤ n) (h : n < 18446744073709551616) : n.toNat < 2 ^ (8 * 8) := by
  have : n.toNat < 18446744073709551616 := by omega
  exact this
theorem decode_back (d : Dl) (hr : rightD d = true) (hw : WfD d) : decP (bytesB d) = (d, 0) := by
  obtain ⟨r1, r2, r3, r4, r5, r6⟩ := right_parts hr
  have hl := bytesB_len d
  have hb4 : (bytesB d).length - 4 = (bodyB d).length := by rw [bodyB_len]; omega
  unfold decP
  rw [if_neg, if_neg]
  · have hin := inner_bytes d
    have hpre : (le d.a.toNat 4 ++ le d.b.toNat 4 ++ le d.c.toNat 8 ++ le d.d.toNat 8).length = 24 := by simp [le_length]
    have hpar := parse_back d hr d.l (le d.a.toNat 4 ++ le d.b.toNat 4 ++ le d.c.toNat 8 ++ le d.d.toNat 8) ((inner (bytesB d)).length + 1) [] (fun o ho => ho) (by rw [hin, List.length_append, hpre]; have := ops_len_le d.l; omega)
    rw [hpre, ← hin] at hpar
    rw [hpar, List.nil_append]
    have v0 : rdN (inner (bytesB d)) 0 4 = d.a.toNat := rd_mid [] (le d.b.toNat 4 ++ le d.c.toNat 8 ++ le d.d.toNat 8 ++ opsB d.l) _ 4 0 rfl (p32' r2) _ (by rw [hin]; simp [List.append_assoc])
    have v1 : rdN (inner (bytesB d)) 4 4 = d.b.toNat := rd_mid (le d.a.toNat 4) (le d.c.toNat 8 ++ le d.d.toNat 8 ++ opsB d.l) _ 4 4 (by simp [le_length]) (p32' r4) _ (by rw [hin]; simp [List.append_assoc])
    have v2 : rdN (inner (bytesB d)) 8 8 = d.c.toNat := rd_mid (le d.a.toNat 4 ++ le d.b.toNat 4) (le d.d.toNat 8 ++ opsB d.l) _ 8 8 (by simp [le_length]) (p64' hw.c0 hw.c1) _ (by rw [hin]; simp [List.append_assoc])
    have v3 : rdN (inner (bytesB d)) 16 8 = d.d.toNat := rd_mid (le d.a.toNat 4 ++ le d.b.toNat 4 ++ le d.c.toNat 8) (opsB d.l) _ 8 16 (by simp [le_length]) (p64' hw.d0 hw.d1) _ (by rw [hin])
    have hh : headD (inner (bytesB d)) d.l = d := by
      unfold headD
      rw [v0, v1, v2, v3, Int.toNat_of_nonneg r1, Int.toNat_of_nonneg r3, Int.toNat_of_nonneg hw.c0, Int.toNat_of_nonneg hw.d0]
    rw [finD, hh, if_pos hr]
  · rw [hb4]
    intro h
    apply h
    have h2 := rd_mid (bodyB d) [] (Sum.crc 0 (bodyB d)) 4 (bodyB d).length rfl (by have := crc_lt (bodyB d); omega) (bytesB d) (by rw [List.append_nil]; rfl)
    rw [h2, bytesB, List.take_left]
  · rintro (h | h)
    · omega
    · apply h
      rw [bytesB, bodyB, headB]
      simp only [List.append_assoc]
      rfl
end Go.Proofs.Ytogplkochcalpaa.De
