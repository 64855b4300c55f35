/- Blocks are unpacked: how much; the sequences, in memory of their own. -/
import Derived.Test.YtbnkglcgblhjeaaLz9
import Derived.Test.YtbnkglcgblhjeaaLz5
set_option linter.unusedVariables false
set_option linter.unusedSimpArgs false
namespace Go.Proofs.Ytbnkglcgblhjeaa.Lz
open Go.RowKit Go.Proofs.YtbnkglcgblhjeaaW.PrintWords Go.Proofs.YtbnkglcgblhjeaaW.PrintLast Go.Proofs.YtbnkglcgblhjeaaW.PrintMore
theorem size_take (w0 : World) (base : Nat) (P : Nat → Prop) (wr : World) (lit : List Int) (A2 : Option Addr) (c2 : Nat) (off len : Int) (HB : Below base w0 wr) (hbase : base ≤ wr.heap.size) :
    Calls Try.prog 39 (#[.agg #[.slice A2 lit.length c2, .int .i64 off, .int .i64 len]] ++ #[]) wr fun e w' => e = .returned (.tuple #[]) ∧ Below base w0 w' ∧ wr.heap.size ≤ w'.heap.size ∧ (∀ k, k < wr.heap.size → P k → some k ≠ (none : Option Nat) → w'.heap[k]? = wr.heap[k]?) ∧ ∃ o' : Option Nat, True ∧ (o' = none ∨ ∃ q, o' = some q ∧ wr.heap.size ≤ q) ∧ (∀ q, o' = some q → q < w'.heap.size) := by
  have hal : Below wr.heap.size wr (wr.alloc (.cells #[.slice A2 lit.length c2, .int .i64 off, .int .i64 len] 44)) := below_alloc (Below.refl _ _) _
  have K := Aside0.mk hal
  have KB := Aside0.mk HB
  clear hal HB
  go_enter Try.func39, Try.ntmps39
  go_wp2
  go_end0
  exact ⟨rfl, KB.out.trans (K.out.mono hbase), K.out.size, fun k hk _ _ => K.out.block k hk, none, trivial, Or.inl rfl, fun q hq => by cases hq⟩
/-- How much a block unpacks to; the error; its place. -/
def siz (b : List Int) : Int × Int × Int :=
  if (run b.length 1048576 (b.length + 1) 0 b).2.1 = 0 then (tot (run b.length 1048576 (b.length + 1) 0 b).1, 0, b.length) else (0, (run b.length 1048576 (b.length + 1) 0 b).2)
theorem results_tmp3 {fn : Func} {t u v : Nat} (h : fn.results = #[.tmp t, .tmp u, .tmp v]) (tmps : Array Value) (P : Program) (w : World) :
    (results fn tmps).run P w = .ok (.tuple #[tmps.getD t undef, tmps.getD u undef, tmps.getD v undef]) w := by
  simp only [results, h]
  simp
set_option maxHeartbeats 2000000 in
set_option maxRecDepth 100000 in
/-- Size. -/
theorem size_any (w : World) (b : List Int) (A : Option Addr) (c : Nat) (hC : ∀ w', Below w.heap.size w w' → Kd.C (Kd.int .u8) w' A b.length b) (hb : isB b) (hN : b.length ≤ 1000000) (hcap : b.length ≤ c) :
    Calls Try.prog 18 #[.slice A b.length c] w fun e w' => e = .returned (.tuple #[.int .i64 (siz b).1, .int .i64 (siz b).2.1, .int .i64 (siz b).2.2]) ∧ Below w.heap.size w w' := by
  have KC := Aside0.mk hC
  have Kb := Aside0.mk hb
  have heach := each2_size w w.heap.size b A c 1048576 (fun _ => True) (fun _ _ o => o = none) none w (fun _ _ _ _ h _ => h) (fun wr acc o lit A2 c2 off len hI HB hbase hg hfit h0 hcn hC hc2 => (size_take w w.heap.size (fun _ => True) wr lit A2 c2 off len HB hbase).mono fun e w' ⟨h1, h2, h3, h4, o', h5, h6, h7⟩ => ⟨h1, h2, h3, fun k hk hp _ => h4 k hk hp (by simp), none, rfl, Or.inl hI.symm, fun q hq => by cases hq⟩) rfl (fun _ _ => trivial) (fun q hq => by cases hq) (Below.refl _ _) (Nat.le_refl _) KC.out Kb.out hN (by decide) (by decide) hcap
  unfold EQ at heach
  unfold siz
  obtain ⟨l, er, pp, hrun⟩ : ∃ l er pp, run b.length 1048576 (b.length + 1) 0 b = (l, er, pp) := ⟨_, _, _, rfl⟩
  rw [hrun] at heach ⊢
  simp only at heach ⊢
  have Ke := Aside0.mk heach
  clear heach hrun hC hb
  by_cases her : er = 0
  · subst her
    rw [if_pos rfl]
    go_enter Try.func18, Try.ntmps18
    go_wp2_with (go_at_call 35; refine Ke.out.mono ?_; rintro e w1 ⟨g, at2, s2, o', rfl, hg, hR, htot, hb1, hs1, hf1, hI, ho', hlt'⟩; obtain rfl := htot rfl; obtain ⟨g0, g1, hg2, g3, hg4, g5⟩ := RD_cells hR; have K1 := Aside0.mk hb1; clear g0 g1 g3 g5 hR htot hb1 hs1 hf1 hI ho' hlt' Ke)
    refine bodyPost_ret (results_tmp3 rfl _ _ _) rfl ?_
    exact ⟨rfl, K1.out⟩
  · rw [if_neg her]
    have hne : ((er : Int) == 0) = false := by simpa using her
    go_enter Try.func18, Try.ntmps18
    go_wp2_with (go_at_call 35; refine Ke.out.mono ?_; rintro e w1 ⟨g, at2, s2, o', rfl, hg, hR, htot, hb1, hs1, hf1, hI, ho', hlt'⟩; obtain ⟨g0, g1, g2, g3, hg4, hg5⟩ := RD_cells hR; have K1 := Aside0.mk hb1; clear g0 g1 g2 g3 hR htot hb1 hs1 hf1 hI ho' hlt' Ke)
    go_quiet (fail)
    go_wp2
    refine bodyPost_ret (results_tmp3 rfl _ _ _) rfl ?_
    exact ⟨rfl, pw_below_drewN K1.out _⟩
/-- A sequence, as it lies in a row. -/
def kS : Kd Sq := Kd.pair (Kd.slice 5 (Kd.int .u8)) (Kd.pair (Kd.int .i64) (Kd.int .i64))
theorem infoSq : (Try.prog.info? 44).map (fun i => (i.zero, i.size, i.bytes)) = some (some (.agg #[.slice none 0 0, .int .i64 0, .int .i64 0]), 3, 40) := by kernel_rfl
/-- What Cut's closure keeps. -/
def IC (base p g : Nat) (wr : World) (acc : List Sq) (o : Option Nat) : Prop :=
  ∃ u, wr.heap[p]? = some (.cells #[u] 28 (0, 0)) ∧ Kd.R kS 44 wr base (fun k => k ≠ p ∧ k ≠ g) u acc ∧ u.ownBlock = o
theorem IC_stab (base p g : Nat) (hpg : p ≠ g) : Stab2 g (IC base p g) := by
  intro wr w' acc o ⟨u, h1, h2, h3⟩ hk
  exact ⟨u, (hk p (blk_lt h1) hpg).trans h1, Kd.R_step h2 fun k ho hlt => hk k hlt ho.2, h3⟩
theorem IC_row {base p g : Nat} {wr : World} {acc : List Sq} {o : Option Nat} (h : IC base p g wr acc o) : o ≠ some p := by
  obtain ⟨u, h1, h2, rfl⟩ := h
  intro e
  exact (h2.1 p e).1 rfl
theorem own_from {w : World} {base : Nat} {v : Value} {xs : List Int} (h : Row.OwnB w base v xs) : Kd.R (Kd.int .u8) 5 w base (fun k => base ≤ k) v xs := ⟨fun k hk => Kd.R_base h k hk, h.2⟩
set_option maxHeartbeats 4000000 in
set_option maxRecDepth 100000 in
theorem cut_take (w0 : World) (base p g : Nat) (hbp : base ≤ p) (hpg : p < g) (wr : World) (acc : List Sq) (o : Option Nat) (lit : List Int) (A2 : Option Addr) (c2 : Nat) (off len : Int) (hI : IC base p g wr acc o) (HB : Below base w0 wr) (hbase : base ≤ wr.heap.size) (hg : g < wr.heap.size) (hla : lit.length ≤ 2000000) (hac : acc.length ≤ 2000000) (hC : ∀ w', Below base w0 w' → Kd.C (Kd.int .u8) w' A2 lit.length lit) (hc2 : lit.length ≤ c2) :
    Calls Try.prog 40 (#[.agg #[.slice A2 lit.length c2, .int .i64 off, .int .i64 len]] ++ #[.pointer (some ⟨p, 0, none⟩)]) wr fun e w' => e = .returned (.tuple #[]) ∧ Below base w0 w' ∧ wr.heap.size ≤ w'.heap.size ∧ (∀ k, k < wr.heap.size → k ≠ p → some k ≠ o → w'.heap[k]? = wr.heap[k]?) ∧ ∃ o', IC base p g w' (acc ++ [(lit, off, len)]) o' ∧ (o' = o ∨ ∃ q, o' = some q ∧ wr.heap.size ≤ q) ∧ (∀ q, o' = some q → q < w'.heap.size) := by
  obtain ⟨u, hp, ho, rfl⟩ := hI
  obtain ⟨A9, c9, rfl⟩ := Kd.R_slice ho
  obtain ⟨la, hlaa⟩ : ∃ la, la = acc.length := ⟨_, rfl⟩
  rw [← hlaa] at ho hp ⊢
  have Kla := Aside0.mk hlaa
  clear hlaa
  have hal : Below wr.heap.size wr ((wr.alloc (.cells #[.slice A2 lit.length c2, .int .i64 off, .int .i64 len] 44)).alloc (.cells #[] 5)) := below_alloc (below_alloc (Below.refl _ _) _) _
  have hal1 : Below wr.heap.size wr (wr.alloc (.cells #[.slice A2 lit.length c2, .int .i64 off, .int .i64 len] 44)) := below_alloc (Below.refl _ _) _
  have hHB := HB.trans (hal.mono hbase)
  have hown : Row.OwnB ((wr.alloc (.cells #[.slice A2 lit.length c2, .int .i64 off, .int .i64 len] 44)).alloc (.cells #[] 5)) wr.heap.size (.slice (some ⟨wr.heap.size + 1, 0, none⟩) 0 0) [] := by
    have := Row.OwnB.lit (wr.alloc (.cells #[.slice A2 lit.length c2, .int .i64 off, .int .i64 len] 44)) wr.heap.size #[] [] rfl hal1.size (by simp)
    simpa using this
  have hsb : ((wr.alloc (.cells #[.slice A2 lit.length c2, .int .i64 off, .int .i64 len] 44)).alloc (.cells #[] 5)).heap[wr.heap.size]? = some (.cells #[.slice A2 lit.length c2, .int .i64 off, .int .i64 len] 44 (0, 0)) := blk_alloc (heap_alloc_new wr _) _
  have hplt := blk_lt hp
  have Ko := Aside0.mk ho
  have K := Aside0.mk (And.intro hp (And.intro ho (And.intro hal (And.intro hHB (And.intro hown hsb)))))
  have KH := Aside0.mk HB
  have KC := Aside0.mk (hC _ hHB)
  have Kbs := Aside0.mk (And.intro hbp hbase)
  have Kpg := Aside0.mk (And.intro hpg hg)
  have Kplt := Aside0.mk hplt
  clear hp ho hal hal1 hHB hown hsb HB hC hbp hbase hplt hpg hg
  go_enter Try.func40, Try.ntmps40
  go_wp2_with ((with_reducible refine gate_builtin (b := .append) (xs := #[.tmp 3, .tmp 5]) rfl ?_); apply Aside0.out)
  refine ⟨?_⟩
  refine Row.app_rows (w0 := wr) wr.heap.size rfl (.tmp 3) (.tmp 5) rfl (.slice (some ⟨wr.heap.size + 1, 0, none⟩) 0 0) [] lit A2 lit.length c2 rfl rfl K.out.2.2.2.2.1 KC.out K.out.2.2.1 K.out.2.2.1.size (by simp; omega) ?_
  intro zs A6 c6 w2 e1 e2 e3 h4 h5 e4 hb2 e5 e6 e7
  obtain rfl : zs = lit := by rw [e1.out]; rfl
  have Kl6 := Aside0.mk (own_from e2.out)
  have hlt2 : wr.heap.size + 2 ≤ w2.heap.size := by have := e6.out.size; simpa using this
  have hs2 : w2.heap[wr.heap.size]? = some (.cells #[.slice A2 zs.length c2, .int .i64 off, .int .i64 len] 44 (0, 0)) := (e6.out.block _ (by simp; omega) (by simp [Value.ownBlock])).trans K.out.2.2.2.2.2
  have hpp2 : w2.heap[p]? = some (.cells #[.slice A9 la c9] 28 (0, 0)) := (hb2.out.block p Kplt.out).trans K.out.1
  obtain ⟨sb, hsb⟩ : ∃ sb, sb = wr.heap.size := ⟨_, rfl⟩
  rw [← hsb] at hs2 ⊢
  have hpne : p ≠ sb := by rw [hsb]; exact Nat.ne_of_lt Kplt.out
  have Ksb := Aside0.mk hsb
  have Ks2 := Aside0.mk hs2
  have Kp2 := Aside0.mk hpp2
  have Kb2 := Aside0.mk hb2.out
  have Klt2 := Aside0.mk hlt2
  have hf0 : w2.frozen? ⟨sb, 0, none⟩ = false := blk_frozen hs2 0
  have hcp2 : w2.cell? ⟨p, 0, none⟩ = some (.slice A9 la c9) := (cell_of_row _ _ _ _ _ _ hpp2).trans rfl
  obtain ⟨nl, hnl⟩ : ∃ nl, nl = zs.length := ⟨_, rfl⟩
  rw [← hnl] at Kl6 ⊢
  have Knl := Aside0.mk hnl
  have hcp3 : (w2.setCell ⟨sb, 0, none⟩ (.slice A6 nl c6)).cell? ⟨p, 0, none⟩ = some (.slice A9 la c9) := (World.cell?_of_block (a := ⟨p, 0, none⟩) (Below.heap_setCell _ ⟨sb, 0, none⟩ _ p hpne)).trans hcp2
  have hs3 := blk_set hs2 0 (.slice A6 nl c6)
  have hy0 : w2.cell? ⟨sb, 0, none⟩ = some (.slice A2 zs.length c2) := (cell_of_row _ _ _ _ _ _ hs2).trans rfl
  have hz0 : (w2.setCell ⟨sb, 0, none⟩ (.slice A6 nl c6)).cell? ⟨sb, 0, none⟩ = some (.slice A6 nl c6) := (cell_of_row _ _ _ _ _ _ hs3).trans rfl
  have hz1 : (w2.setCell ⟨sb, 0, none⟩ (.slice A6 nl c6)).cell? ⟨sb, 1, none⟩ = some (.int .i64 off) := (cell_of_row _ _ _ _ _ _ hs3).trans rfl
  have hz2 : (w2.setCell ⟨sb, 0, none⟩ (.slice A6 nl c6)).cell? ⟨sb, 2, none⟩ = some (.int .i64 len) := (cell_of_row _ _ _ _ _ _ hs3).trans rfl
  clear hs3 hs2 hpp2 hb2 hlt2 e1 e2 e3 h4 e4 e5 e6 e7 hsb hnl K KC
  go_wp2_with ((with_reducible refine gate_builtin (b := .append) (xs := #[.tmp 8, .tmp 10]) rfl ?_); apply Aside0.out)
  refine ⟨?_⟩
  have hset : ∀ k, k ≠ sb → (w2.setCell ⟨sb, 0, none⟩ (.slice A6 nl c6)).heap[k]? = w2.heap[k]? := fun k hk => Below.heap_setCell w2 ⟨sb, 0, none⟩ _ k hk
  have hsz3 : (w2.setCell ⟨sb, 0, none⟩ (.slice A6 nl c6)).heap.size = w2.heap.size := by simp
  have hlt2 := Klt2.out
  have hsbw := Ksb.out
  have hHO : Kd.R kS 44 (w2.setCell ⟨sb, 0, none⟩ (.slice A6 nl c6)) base (fun k => k ≠ p ∧ k ≠ g) (.slice A9 la c9) acc := Kd.R_step Ko.out fun k _ hk => (hset k (by omega)).trans (Kb2.out.block k hk)
  have hlit : Kd.R (Kd.int .u8) 5 (w2.setCell ⟨sb, 0, none⟩ (.slice A6 nl c6)) base (fun k => wr.heap.size ≤ k) (.slice A6 nl c6) zs := Kd.R_lower (Kd.R_set Kl6.out Ks2.out (fun q hq => by simp [Kd.int, Kd.scalar] at hq; omega) 0 _) Kbs.out.2
  have hB3 : Below base w0 (w2.setCell ⟨sb, 0, none⟩ (.slice A6 nl c6)) := (KH.out.trans (Kb2.out.mono Kbs.out.2)).setCell (by rw [hsbw]; exact Kbs.out.2) _
  have hown := Kd.R_lt Ko.out
  refine Kd.R_append kS (w0 := w0) (W := w2.setCell ⟨sb, 0, none⟩ (.slice A6 nl c6)) base rfl (.tmp 8) (.tmp 10) 28 44 (.agg #[.slice none 0 0, .int .i64 0, .int .i64 0]) 40 rfl Try.underlying28 infoSq rfl (by decide) (by decide) (.slice A9 la c9) acc (zs, off, len) [.slice A6 nl c6, .int .i64 off, .int .i64 len] (fun k => k ≠ p ∧ k ≠ g) (fun k => wr.heap.size ≤ k) rfl (by rw [hsz3]; rfl) ⟨[_], [_, _], rfl, ⟨_, rfl, hlit⟩, ⟨[_], [_], rfl, rfl, rfl⟩⟩ (fun k hk => ⟨⟨by have := Kplt.out; omega, by have := Kpg.out; omega⟩, fun e => by have := hown k e.symm; omega⟩) (fun k hk => ⟨by have := Kplt.out; omega, by have := Kpg.out; omega⟩) hHO hB3 (by have := Kbs.out; omega) (by omega) ?_
  intro v7 w5 h7 hb7 hg7 hat7
  have hpp5 : w5.heap[p]? = some (.cells #[.slice A9 la c9] 28 (0, 0)) := (hg7.block p (by have := Kplt.out; omega) (fun e => (Ko.out.1 p e.symm).1 rfl)).trans ((hset p hpne).trans Kp2.out)
  have hfp : w5.frozen? ⟨p, 0, none⟩ = false := blk_frozen hpp5 0
  have hcp : w5.cell? ⟨p, 0, none⟩ = some (.slice A9 la c9) := (cell_of_row _ _ _ _ _ _ hpp5).trans rfl
  obtain ⟨A7, c7, rfl⟩ := Kd.R_slice h7
  obtain ⟨n7, hn7⟩ : ∃ n7, n7 = (acc ++ [(zs, off, len)]).length := ⟨_, rfl⟩
  rw [← hn7] at h7 hat7 ⊢
  have K7 := Aside0.mk h7
  have Kb7 := Aside0.mk hb7
  have Kg7 := Aside0.mk hg7
  have Ka7 := Aside0.mk hat7
  have Kp5 := Aside0.mk hpp5
  have Kset := Aside0.mk hset
  clear h7 hb7 hg7 hat7 hpp5 hset hHO hlit hB3 hown hn7 hf0 h5
  go_wp2
  go_end0
  have hset5 : ∀ k, k ≠ p → (w5.setCell ⟨p, 0, none⟩ (.slice A7 n7 c7)).heap[k]? = w5.heap[k]? := fun k hk => Below.heap_setCell w5 ⟨p, 0, none⟩ _ k hk
  have hsz5 := Kg7.out.size
  have hplt := Kplt.out
  have hpg := Kpg.out
  refine ⟨rfl, Kb7.out.setCell Kbs.out.1 _, by simp only [World.size_setCell]; omega, fun k hk h1 h2 => (hset5 k h1).trans ((Kg7.out.block k (by omega) h2).trans ((Kset.out k (by omega)).trans (Kb2.out.block k hk))), _, ⟨_, blk_set Kp5.out 0 _, Kd.R_far K7.out (fun k hk => hk.1) _, rfl⟩, ?_, fun q hq => ?_⟩
  · rcases Ka7.out with e | ⟨q, e, hq⟩
    · exact Or.inl e
    · exact Or.inr ⟨q, e, by omega⟩
  · have := Kd.R_lt K7.out q hq
    simpa using this
/-- A block's sequences; the error; its place. -/
def cuts (b : List Int) : List Sq × Int × Int :=
  if (run b.length 1048576 (b.length + 1) 0 b).2.1 = 0 then ((run b.length 1048576 (b.length + 1) 0 b).1, 0, b.length) else ([], (run b.length 1048576 (b.length + 1) 0 b).2)
theorem load_boxS {w : World} {a : Addr} {v : Value} (h : w.cell? a = some v) : (loadVar 28 a).run Try.prog w = .ok v w := by
  have hu : Try.prog.underlying 28 = some (.slice 44) := Try.underlying28
  simp [go_sem, loadVar, run_underlying hu, h]
set_option maxHeartbeats 4000000 in
set_option maxRecDepth 100000 in
/-- Cut. -/
theorem cut_any (w : World) (b : List Int) (A : Option Addr) (c : Nat) (hC : ∀ w', Below w.heap.size w w' → Kd.C (Kd.int .u8) w' A b.length b) (hb : isB b) (hN : b.length ≤ 1000000) (hcap : b.length ≤ c) :
    Calls Try.prog 19 #[.slice A b.length c] w fun e w' => ∃ v, e = .returned (.tuple #[v, .int .i64 (cuts b).2.1, .int .i64 (cuts b).2.2]) ∧ Kd.R kS 44 w' w.heap.size (fun _ => True) v (cuts b).1 ∧ Below w.heap.size w w' := by
  have KC := Aside0.mk hC
  have Kb := Aside0.mk hb
  have hal : Below w.heap.size w (w.alloc (.cells #[.slice none 0 0] 28)) := below_alloc (Below.refl _ _) _
  have hin := heap_alloc_new w (.cells #[.slice none 0 0] 28)
  have heach := each2_cut w w.heap.size w.heap.size b A c 1048576 (fun k => k ≠ w.heap.size) (fun wr acc o => IC w.heap.size w.heap.size (w.heap.size + 1) wr acc o) none (w.alloc (.cells #[.slice none 0 0] 28)) (by simpa using IC_stab w.heap.size w.heap.size (w.heap.size + 1) (by omega)) (fun wr acc o lit A2 c2 off len hI HB hbase hg hfit h0 hcn hC hc2 => cut_take w w.heap.size w.heap.size (w.heap.size + 1) (Nat.le_refl _) (by omega) wr acc o lit A2 c2 off len hI HB hbase (by simpa using hg) (by have := hfit.lit0; omega) (by omega) hC hc2) ⟨_, hin, Kd.R_nil _ _ _ _ _, rfl⟩ (fun k hk => by simp at hk; omega) (fun q hq => by cases hq) hal (by simp) KC.out Kb.out hN (by decide) (by decide) hcap
  unfold EQ at heach
  unfold cuts
  obtain ⟨l, er, pp, hrun⟩ : ∃ l er pp, run b.length 1048576 (b.length + 1) 0 b = (l, er, pp) := ⟨_, _, _, rfl⟩
  rw [hrun] at heach ⊢
  simp only at heach ⊢
  have Ke := Aside0.mk heach
  clear hal hin heach hrun hC hb
  by_cases her : er = 0
  · subst her
    rw [if_pos rfl]
    go_enter Try.func19, Try.ntmps19
    go_wp2_with (go_at_call 35; refine Ke.out.mono ?_; rintro e w1 ⟨g, at2, s2, o', rfl, hg, hR, htot, hb1, hs1, hf1, ⟨u, hu1, hu2, hu3⟩, ho', hlt'⟩; obtain ⟨A1, c1, hv1⟩ := Kd.R_slice hu2; obtain ⟨n1, hn1⟩ : ∃ n1, n1 = l.length := ⟨_, rfl⟩; rw [← hn1] at hv1; subst hv1; have hpc : w1.cell? ⟨w.heap.size, 0, none⟩ = some (.slice A1 n1 c1) := (cell_of_row _ _ _ _ _ _ hu1).trans rfl; have hpf : w1.frozen? ⟨w.heap.size, 0, none⟩ = false := blk_frozen hu1 0; have hg4 := (RD_cells hR).2.2.2.2.1; have K1 := Aside0.mk (And.intro hu1 (And.intro hu2 hb1)); clear hR htot hb1 hs1 hf1 hu1 hu2 hu3 ho' hlt' hn1 Ke)
    obtain ⟨hu1, hu2, hb1⟩ := K1.out
    refine bodyPost_ret (results_cell3 rfl _ _ _ ⟨w.heap.size, 0, none⟩ (.slice A1 n1 c1) rfl (load_boxS ((cell_of_row _ _ _ _ _ _ (blk_set hu1 0 _)).trans rfl))) rfl ?_
    exact ⟨_, rfl, Kd.R_mono (Kd.R_far hu2 (fun k hk => hk.1) _) (fun _ _ => trivial), hb1.setCell (Nat.le_refl _) _⟩
  · rw [if_neg her]
    have hne : ((er : Int) == 0) = false := by simpa using her
    go_enter Try.func19, Try.ntmps19
    go_wp2_with (go_at_call 35; refine Ke.out.mono ?_; rintro e w1 ⟨g, at2, s2, o', rfl, hg, hR, htot, hb1, hs1, hf1, ⟨u, hu1, hu2, hu3⟩, ho', hlt'⟩; obtain ⟨A1, c1, hv1⟩ := Kd.R_slice hu2; obtain ⟨n1, hn1⟩ : ∃ n1, n1 = l.length := ⟨_, rfl⟩; rw [← hn1] at hv1; subst hv1; have hpc : w1.cell? ⟨w.heap.size, 0, none⟩ = some (.slice A1 n1 c1) := (cell_of_row _ _ _ _ _ _ hu1).trans rfl; have hpf : w1.frozen? ⟨w.heap.size, 0, none⟩ = false := blk_frozen hu1 0; obtain ⟨g0, g1, g2, g3, hg4, hg5⟩ := (RD_cells hR); have hgp : w.heap.size < g := Nat.lt_of_succ_le (by simpa using hg); have K1 := Aside0.mk (And.intro hu1 hb1); clear g0 g1 g2 g3 hg hR htot hb1 hs1 hf1 hu1 hu2 hu3 ho' hlt' hn1 Ke)
    refine start_ (n := 11) (S := fun w' => w'.cell? ⟨g, 4, none⟩ = some (.int .i64 er) ∧ w'.cell? ⟨g, 5, none⟩ = some (.int .i64 pp)) (ds := []) #[false, false, false, false, false, false, false, false, false, false, false] (by kernel_rfl) rfl rfl ⟨(show w1.cell? _ = _ from hg4), (show w1.cell? _ = _ from hg5)⟩ (fun hHeld => ?_)
    refine pure_ (i := 0) (N := some 14) (v := ?_) (a' := ?_) #[true, false, false, false, false, false, false, false, false, false, false] rfl rfl (by kernel_rfl) (fun _ _ _ h => h) (Or.inl ⟨by rfl, ?_⟩) ?_ ?_
    rotate_left
    · intro w'
      go_simp
      with_reducible rfl
    rotate_left
    · simp only [Act.put, List.setIfInBounds_toArray, List.set_cons_zero, List.set_cons_succ, i64_w, i32_w]
      rfl
    refine pure_ (i := 1) (N := some 15) (v := ?_) (a' := ?_) #[true, true, false, false, false, false, false, false, false, false, false] rfl rfl (by kernel_rfl) (fun _ _ _ h => h) (Or.inl ⟨by rfl, ?_⟩) ?_ ?_
    rotate_left
    · intro w'
      go_simp
      with_reducible rfl
    rotate_left
    · simp only [Act.put, List.setIfInBounds_toArray, List.set_cons_zero, List.set_cons_succ, i64_w, i32_w]
      rfl
    refine pure_ (i := 2) (N := some 16) (v := ?_) (a' := ?_) #[true, true, true, false, false, false, false, false, false, false, false] rfl rfl (by kernel_rfl) (fun _ _ _ h => h) (Or.inl ⟨by rfl, ?_⟩) ?_ ?_
    rotate_left
    · intro w'
      go_simp
      with_reducible rfl
    rotate_left
    · simp only [Act.put, List.setIfInBounds_toArray, List.set_cons_zero, List.set_cons_succ, i64_w, i32_w]
      rfl
    refine pure_ (i := 4) (N := some 18) (v := ?_) (a' := ?_) #[true, true, true, false, true, false, false, false, false, false, false] rfl rfl (by kernel_rfl) (fun _ _ _ h => h) (Or.inl ⟨by rfl, ?_⟩) ?_ ?_
    rotate_left
    · intro w'
      go_simp
      with_reducible rfl
    rotate_left
    · simp only [Act.put, List.setIfInBounds_toArray, List.set_cons_zero, List.set_cons_succ, i64_w, i32_w]
      rfl
    refine pure_ (i := 5) (N := some 19) (v := ?_) (a' := ?_) #[true, true, true, false, true, true, false, false, false, false, false] rfl rfl (by kernel_rfl) (fun _ _ _ h => h) (Or.inl ⟨by rfl, ?_⟩) ?_ ?_
    rotate_left
    · intro w'
      go_simp
      with_reducible rfl
    rotate_left
    · simp only [Act.put, List.setIfInBounds_toArray, List.set_cons_zero, List.set_cons_succ, i64_w, i32_w]
      rfl
    refine pure_ (i := 6) (N := some 20) (v := ?_) (a' := ?_) #[true, true, true, false, true, true, true, false, false, false, false] rfl rfl (by kernel_rfl) (fun _ _ _ h => h) (Or.inl ⟨by rfl, ?_⟩) ?_ ?_
    rotate_left
    · intro w'
      go_simp
      with_reducible rfl
    rotate_left
    · simp only [Act.put, List.setIfInBounds_toArray, List.set_cons_zero, List.set_cons_succ, i64_w, i32_w]
      rfl
    refine take_ (i := 3) (N := some 17) (v := ?_) (a' := ?_) #[true, true, true, true, true, true, true, false, false, false, false] rfl rfl (by kernel_rfl) (fun _ _ _ h => h) (Or.inl ⟨by rfl, ?_⟩) hHeld ?_ ?_
    rotate_left
    · rintro w' ⟨s0, s1⟩
      go_simp
      with_reducible rfl
    rotate_left
    · simp only [Act.put, List.setIfInBounds_toArray, List.set_cons_zero, List.set_cons_succ, i64_w, i32_w]
      rfl
    refine take_ (i := 7) (N := some 21) (v := ?_) (a' := ?_) #[true, true, true, true, true, true, true, true, false, false, false] rfl rfl (by kernel_rfl) (fun _ _ _ h => h) (Or.inl ⟨by rfl, ?_⟩) hHeld ?_ ?_
    rotate_left
    · rintro w' ⟨s0, s1⟩
      go_simp
      with_reducible rfl
    rotate_left
    · simp only [Act.put, List.setIfInBounds_toArray, List.set_cons_zero, List.set_cons_succ, i64_w, i32_w]
      rfl
    refine one_ (i := 8) (N := none) #[true, true, true, true, true, true, true, true, true, false, false] rfl rfl (by kernel_rfl) (by decide) (fun K hK => ?_)
    refine skip_ (w1 := ?_) (by rfl) rfl ?_ ?_
    rotate_left
    · go_simp
      rfl
    refine hK.out _ _ ⟨((World.cell?_of_block (a := ⟨g, 4, none⟩) (Below.heap_setCell _ ⟨w.heap.size, 0, none⟩ _ g (Nat.ne_of_gt hgp))).trans hg4), ((World.cell?_of_block (a := ⟨g, 5, none⟩) (Below.heap_setCell _ ⟨w.heap.size, 0, none⟩ _ g (Nat.ne_of_gt hgp))).trans hg5)⟩ (fun hHeld => ?_)
    clear hK K
    refine pure_ (i := 9) (N := some 3) (v := ?_) (a' := ?_) #[true, true, true, true, true, true, true, true, true, true, false] rfl rfl (by kernel_rfl) (fun _ _ _ h => h) (Or.inl ⟨by rfl, ?_⟩) ?_ ?_
    rotate_left
    · intro w'
      go_simp
      with_reducible rfl
    rotate_left
    · simp only [Act.put, List.setIfInBounds_toArray, List.set_cons_zero, List.set_cons_succ, i64_w, i32_w]
      rfl
    refine pure_ (i := 10) (N := some 4) (v := ?_) (a' := ?_) #[true, true, true, true, true, true, true, true, true, true, true] rfl rfl (by kernel_rfl) (fun _ _ _ h => h) (Or.inl ⟨by rfl, ?_⟩) ?_ ?_
    rotate_left
    · intro w'
      go_simp
      with_reducible rfl
    rotate_left
    · simp only [Act.put, List.setIfInBounds_toArray, List.set_cons_zero, List.set_cons_succ, i64_w, i32_w]
      rfl
    refine done_ (by kernel_rfl) ?_
    go_wp2
    have hu3 := blk_set K1.out.1 0 (.slice none 0 0)
    refine bodyPost_ret (results_cell3 rfl _ _ _ ⟨w.heap.size, 0, none⟩ (.slice none 0 0) rfl (load_boxS ((cell_of_row _ _ _ _ _ _ (show (w1.setCell ⟨w.heap.size, 0, none⟩ (.slice none 0 0)).drew.heap[w.heap.size]? = _ from hu3)).trans rfl))) rfl ?_
    exact ⟨_, rfl, Kd.R_nil _ _ _ _ _, (K1.out.2.setCell (Nat.le_refl _) _).drew⟩
end Go.Proofs.Ytbnkglcgblhjeaa.Lz
