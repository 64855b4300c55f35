/- Deltas joined by the document: the walk. -/
import Derived.Test.YtogplkochcalpaaDj2
set_option linter.unusedVariables false
set_option linter.unusedSimpArgs false
namespace Go.Proofs.Ytogplkochcalpaa.De
open Go.RowKit Go.Proofs.Ytogplkochcalpaa.PD Go.Proofs.Ytogplkochcalpaa.Fd Go.Proofs.Ytogplkochcalpaa.Bg Go.Proofs.YtogplkochcalpaaW.PrintWords Go.Proofs.YtogplkochcalpaaW.PrintLast Go.Proofs.YtogplkochcalpaaW.PrintMore
theorem dataFK {w wr : World} {sp : Nat → Prop} {xb : Nat} {h : Dl} {ov : Value} {acc : List S37} (H : XS w sp wr xb h ov acc) {AL : Option Addr} {nn cL : Nat} {el : S37} (hw : ∀ k, sp k → w.heap.size ≤ k) (hC : Kd.C (Kd.int .u8) w AL el.f2.length el.f2) (hn : el.f2.length = nn) (hc : nn ≤ cL) (hf : el.f0 = 0 ∧ el.f1 = 0) : Kd.FK k37 wr (fun k => (¬ sp k) ∧ some k ≠ ov.ownBlock) el [.int .i64 0, .int .i64 0, .slice AL nn cL] := by
  have h9 := FK_came H (o := el) (cb := cL) hw hC (by omega)
  rw [hf.1, hf.2, hn] at h9
  exact h9
theorem sp3 {w : World} {sp : Nat → Prop} {xb b8 n : Nat} (hw : ∀ k, sp k → w.heap.size ≤ k) (hx : w.heap.size ≤ xb) (h1 : xb < b8) (h2 : b8 < n) (k : Nat) (hk : (sp k ∨ k = b8) ∨ k = n) : w.heap.size ≤ k := by
  rcases hk with (hk | rfl) | rfl
  · exact hw k hk
  · omega
  · omega
set_option maxHeartbeats 8000000 in
set_option maxRecDepth 100000 in
theorem rjoin_main (w : World) (d f : Dl) (A : Option Addr) (c : Nat) (B : Option Addr) (cb : Nat) (hd : Kd.C k37 w A d.l.length d.l) (hc : d.l.length ≤ c) (hf : Kd.C k37 w B f.l.length f.l) (hcb : f.l.length ≤ cb) (hwd : ∀ o ∈ d.l, WfO o) (hwf : ∀ o ∈ f.l, WfO o) (hld : d.l.length ≤ 8388608) (hlf : f.l.length ≤ 8388608) (hr : rightD d = true) (hr2 : rightD f = true) (hk : d.b = f.a ∧ d.d = f.c) (hj : (joinP d.l f.l).length ≤ 8388608) : Calls Try.prog 21 #[dv d A c, dv f B cb] w fun e w' => JR w (⟨d.a, f.b, d.c, f.d, joinP d.l f.l⟩, 0) e w' := by
  have KG := Aside0.mk (fun w1 (h : Below w.heap.size w w1) => rright_any d A c w1 (Kd.C_below hd h) hc hwd hld)
  have KH := Aside0.mk (fun w1 (h : Below w.heap.size w w1) => rright_any f B cb w1 (Kd.C_below hf h) hcb hwf hlf)
  rw [hr] at KG
  rw [hr2] at KH
  have K3 := Aside0.mk (B3.new w d f A c B cb d.l.length f.l.length)
  simp only [dv] at KG KH ⊢
  obtain ⟨nd, hnd⟩ : ∃ nd, nd = d.l.length := ⟨_, rfl⟩
  obtain ⟨nf, hnf⟩ : ∃ nf, nf = f.l.length := ⟨_, rfl⟩
  rw [← hnd] at KG K3 ⊢
  rw [← hnf] at K3 KH ⊢
  obtain ⟨q0, q1, q2, q3, q4⟩ := dbox_cells K3.out.d
  obtain ⟨p0, p1, p2, p3, p4⟩ := dbox_cells K3.out.f
  have h1 : (d.b != f.a) = false := by simp [hk.1]
  have h2 : (d.d != f.c) = false := by simp [hk.2]
  have KC := Aside0.mk hd
  have KF := Aside0.mk hf
  have Kr := Aside0.mk (And.intro hr hr2)
  have Kka := Aside0.mk hk.1
  have Kwf := Aside0.mk (And.intro hwd hwf)
  obtain ⟨T, hT⟩ : ∃ T, T = joinP d.l f.l := ⟨_, rfl⟩
  rw [← hT] at hj ⊢
  have KT := Aside0.mk hT
  have Kj := Aside0.mk hj
  rw [← hnd] at KC hld
  rw [← hnf] at KF hlf
  have Knd := Aside0.mk hnd
  have Knf := Aside0.mk hnf
  clear hd hc hwd hr hnd hnf hf hcb hwf hr2 hk hT hj
  go_enter Try.func21, Try.ntmps21
  go_wp2_with (go_at_call 18; apply Aside0.out)
  refine ⟨?_⟩
  refine (KG.out _ K3.out.below).mono ?_
  rintro e w1 ⟨rfl, hb⟩
  have K31 := Aside0.mk (K3.out.keep hb)
  have hs1 := hb.size
  simp only [World.size_alloc] at hs1
  clear hb q0 q1 q2 q3 q4 p0 p1 p2 p3 p4
  obtain ⟨p0, p1, p2, p3, p4⟩ := dbox_cells K31.out.f
  go_wp2_with (go_at_call 18; apply Aside0.out)
  refine ⟨?_⟩
  refine (KH.out _ K31.out.below).mono ?_
  rintro e w2 ⟨rfl, hb⟩
  have K32 := Aside0.mk (K31.out.keep hb)
  have hs2 := hb.size
  clear hb p0 p1 p2 p3 p4
  obtain ⟨q0, q1, q2, q3, q4⟩ := dbox_cells K32.out.d
  obtain ⟨p0, p1, p2, p3, p4⟩ := dbox_cells K32.out.f
  have hX := heap_alloc_new w2 (.cells #[.int .i64 d.a, .int .i64 f.b, .int .u64 d.c, .int .u64 f.d, .slice none 0 0] 27)
  have hXb := below_alloc (Below.refl w2.heap.size w2) (.cells #[.int .i64 d.a, .int .i64 f.b, .int .u64 d.c, .int .u64 f.d, .slice none 0 0] 27)
  have K33 := Aside0.mk (K32.out.keep hXb)
  have hxz : w.heap.size + 1 + 1 < w2.heap.size := by have := blk_lt K32.out.z; omega
  obtain ⟨sp, hsp⟩ : ∃ sp : Nat → Prop, sp = fun k => k = w.heap.size ∨ k = w.heap.size + 1 ∨ k = w.heap.size + 1 + 1 ∨ k = w2.heap.size := ⟨_, rfl⟩
  have Ksp := Aside0.mk hsp
  have KX3 : Aside0 (XS w sp (w2.alloc (.cells #[.int .i64 d.a, .int .i64 f.b, .int .u64 d.c, .int .u64 f.d, .slice none 0 0] 27)) w2.heap.size ⟨d.a, f.b, d.c, f.d, []⟩ (.slice none 0 0) []) := ⟨⟨hX, Kd.N_nil _ _ _ _ _, K33.out.below, by omega, by rw [hsp]; exact Or.inr (Or.inr (Or.inr rfl)), fun k hk => by
    rw [hsp] at hk
    rw [World.size_alloc]
    rcases hk with rfl | rfl | rfl | rfl <;> omega⟩⟩
  have Kspw : Aside0 (∀ k, sp k → w.heap.size ≤ k) := ⟨fun k hk => by
    rw [hsp] at hk
    rcases hk with rfl | rfl | rfl | rfl <;> omega⟩
  have Kspx : Aside0 (sp w2.heap.size) := ⟨by rw [hsp]; exact Or.inr (Or.inr (Or.inr rfl))⟩
  clear hX hXb hsp
  go_wp2
  obtain ⟨xb, hxb⟩ : ∃ xb, xb = w2.heap.size := ⟨_, rfl⟩
  rw [← hxb] at KX3 hxz Kspx ⊢
  clear hxb hs1 hs2 q0 q1 q2 q3 q4 p0 p1 p2 p3 p4 h1 h2 K3 K31 K32 KG KH
  go_loopw [7] (fun i wr => ∃ k : Nat, k ≤ nf ∧ i = .int .i64 k ∧ Aside0 (∃ ov acc, XS w sp wr xb ⟨d.a, f.b, d.c, f.d, []⟩ ov acc ∧ B3 w d f A c B cb nd nf wr ∧ T = acc ++ joinP d.l (f.l.drop k))) (fun i _ => nf - (intOf i).toNat)
  case atStart => exact ⟨0, Nat.zero_le _, rfl, ⟨⟨_, [], KX3.out, K33.out, by rw [KT.out]; simp⟩⟩⟩
  case round =>
    obtain ⟨k, hk, rfl, HR⟩ := hrel
    obtain ⟨ov, acc, HX, HB, HT⟩ := HR.out
    have KX := Aside0.mk HX
    have KB := Aside0.mk HB
    have KTT := Aside0.mk HT
    obtain ⟨p0, p1, p2, p3, p4⟩ := dbox_cells HB.f
    obtain ⟨x0, x1, x2, x3, x4⟩ := HX.box.cells
    have hxl : xb < wr.heap.size := blk_lt HX.box
    clear HX HB HT HR
    by_cases hlt : k < nf
    · obtain ⟨o, e1, e2, e3⟩ := rd_drop (l := f.l) (i := k) (by rw [← Knf.out]; exact hlt)
      obtain ⟨ad, Bo, co, rfl, y0, y1, y2, hco, hCo⟩ := at_T37 KF.out (k : Int) (by omega) (by omega)
      rw [e1] at y0 y1 y2 hco hCo
      rw [Int.toNat_natCast] at y0 y1 y2
      replace y0 := pw_cell_below KX.out.below y0
      replace y1 := pw_cell_below KX.out.below y1
      replace y2 := pw_cell_below KX.out.below y2
      obtain ⟨fr1, fr2, fr3, fr4, fr5, fr6⟩ := right_parts Kr.out.2
      have hro := (right_mem fr6 e3).1
      have hrest : joinP d.l (f.l.drop k) = joinO d.l o ++ joinP d.l (f.l.drop (k + 1)) := by rw [e2]; simp [joinP]
      have KT2 : Aside0 (T = acc ++ joinO d.l o ++ joinP d.l (f.l.drop (k + 1))) := ⟨by rw [KTT.out, hrest, List.append_assoc]⟩
      have Kob := Aside0.mk (op_bounds Kr.out.2 e3)
      have Kco := Aside0.mk (And.intro hCo hco)
      have Kro := Aside0.mk hro
      have hal := below_alloc (Below.refl wr.heap.size wr) (.cells #[.int .i64 o.f0, .int .i64 o.f1, .slice Bo o.f2.length co] 37)
      have Kal := Aside0.mk hal
      have hO8 := heap_alloc_new wr (.cells #[.int .i64 o.f0, .int .i64 o.f1, .slice Bo o.f2.length co] 37)
      have KO8 := Aside0.mk hO8
      have hal2 : Aside0 (acc.length ≤ 8388608) := ⟨by have := Kj.out; rw [KTT.out, List.length_append] at this; omega⟩
      obtain ⟨lo, hlo⟩ : ∃ lo, lo = o.f2.length := ⟨_, rfl⟩
      have Klo := Aside0.mk hlo
      rw [← hlo] at y2 KO8 Kal
      clear e1 e2 e3 hCo hco hro hrest fr1 fr2 fr3 fr4 fr5 fr6 hal hO8 hlo
      by_cases hz : o.f1 = 0
      · have hz1 : (o.f1 == 0) = true := by simp [hz]
        have Ko : Aside0 (joinO d.l o = [o]) := ⟨by
          have h9 := (rightO_z hz).1 Kro.out
          unfold joinO
          rw [if_pos hz]
          cases o
          simp_all⟩
        have Kxa := Aside0.mk (KX.out.keep Kal.out)
        obtain ⟨v0, v1, v2, v3, v4⟩ := Kxa.out.box.cells
        clear hz x0 x1 x2 x3 x4
        go_wp2_with ((with_reducible refine gate_builtin (b := .append) (xs := #[.tmp 62, .tmp 64]) rfl ?_); apply Aside0.out)
        refine ⟨?_⟩
        refine Kd.N_append k37 (w0 := w) w.heap.size rfl (.tmp 62) (.tmp 64) 25 37 (.agg #[(.int .i64 0), (.int .i64 0), (.slice none 0 0)]) 40 rfl Try.underlying25 info37 rfl (by decide) (by omega) ov acc o [.int .i64 o.f0, .int .i64 o.f1, .slice Bo lo co] (fun k => ¬ sp k) (fun k => (¬ sp k) ∧ some k ≠ ov.ownBlock) rfl (by rw [World.size_alloc]; rfl) ?aF (fun _ hk => hk) ?aO Kxa.out.ops Kxa.out.below Kxa.out.below.size ?aL ?_
        case aF =>
          have h9 := FK_came Kxa.out Kspw.out Kco.out.1 Kco.out.2
          rw [← Klo.out] at h9
          exact h9
        case aO => intro k hk hs; have := Kxa.out.lt k hs; omega
        case aL => have := hal2.out; omega
        intro v5 w5 hN5 hB5 hg5 hat5
        obtain ⟨A5, C5, hv5⟩ := Kd.N_slice hN5
        obtain ⟨l5, hl5⟩ : ∃ l5, l5 = (acc ++ [o]).length := ⟨_, rfl⟩
        rw [← hl5] at hv5
        subst hv5
        have hX5 := Kxa.out.grown hg5
        have xf5 : w5.frozen? ⟨xb, 4, none⟩ = false := blk_frozen hX5 4
        have x5 : w5.cell? ⟨xb, 4, none⟩ = some ov := hX5.cells.2.2.2.2
        have KX6 := Aside0.mk (Kxa.out.push hg5 hB5 hN5)
        have KB6 := Aside0.mk ((KB.out.keep Kal.out).else_ KX6.out.below ((Kxa.out.else_ hg5).trans (else_set (j := 4) (u := .slice A5 l5 C5))) hxz)
        clear hN5 hB5 hg5 hat5 hX5 hl5 p0 p1 p2 p3 p4 v0 v1 v2 v3 v4 y0 y1 y2
        go_wp2
        refine ⟨⟨k + 1, hlt, by go_num, ⟨⟨_, acc ++ [o], KX6.out, KB6.out, by rw [KT2.out, Ko.out]⟩⟩⟩, by simp [intOf]; omega⟩
      · have hz1 : (o.f1 == 0) = false := by simp [hz]
        have ho1 : 0 < o.f1 := by have := Kob.out; omega
        have Kx8 := Aside0.mk (KX.out.more (Nat.le_refl _) Kal.out (by rw [World.size_alloc]; omega))
        have KB8 := Aside0.mk (KB.out.keep Kal.out)
        obtain ⟨dr1, dr2, dr3, dr4, dr5, dr6⟩ := right_parts Kr.out.1
        have hob := Kob.out
        have hjo := ref_join d.l o dr6 hob.1 ho1
        obtain ⟨Bv, hBv⟩ : ∃ Bv, o.f0 + o.f1 = Bv := ⟨_, rfl⟩
        rw [hBv] at hjo
        obtain ⟨rest, hrest⟩ : ∃ rest, rest = joinP d.l (f.l.drop (k + 1)) := ⟨_, rfl⟩
        have Krest := Aside0.mk hrest
        have KT3 : Aside0 (T = acc ++ (refP d.l 0 o.f0 Bv ++ rest)) := ⟨by rw [KT2.out, ← hjo, hrest, List.append_assoc]⟩
        have KdrR : Aside0 (rightL d.a (d.b - 0) d.l = true) := ⟨by rw [Int.sub_zero]; exact dr6⟩
        have hf0 : 0 ≤ o.f0 := hob.1
        have hfo : o.f0 ≤ 8388608 := hob.2.1
        have hf1 : o.f1 ≤ 8388608 := hob.2.2.2.1
        have hBl : Bv ≤ 16777216 := by omega
        have hBp : o.f0 < Bv := by omega
        have Kda := Aside0.mk (And.intro dr2 dr4)
        clear hz hjo hrest dr1 dr2 dr3 dr4 dr5 dr6 hob
        go_wp2
        obtain ⟨b8, hb8⟩ : ∃ b8, b8 = wr.heap.size := ⟨_, rfl⟩
        rw [← hb8] at Kx8 KO8
        rw [← hb8]
        have Kb8 := Aside0.mk hb8
        have Kxb8 : Aside0 (xb < b8) := ⟨by rw [hb8]; exact hxl⟩
        clear hb8 x0 x1 x2 x3 x4 y0 y1 y2 p0 p1 p2 p3 p4
        go_loopw [9, 10] (fun u9 u10 wv => ∃ (j : Nat) (fr : Int), j ≤ nd ∧ u10 = .int .i64 j ∧ u9 = .int .i64 fr ∧ 0 ≤ fr ∧ fr ≤ 8388608 ∧ Aside0 (∃ ov acc2, XS w (fun k => sp k ∨ k = b8) wv xb ⟨d.a, f.b, d.c, f.d, []⟩ ov acc2 ∧ B3 w d f A c (some ad) cb nd nf wv ∧ wv.heap[b8]? = some (.cells #[.int .i64 o.f0, .int .i64 o.f1, .slice Bo lo co] 37 (0, 0)) ∧ T = acc2 ++ (refP (d.l.drop j) fr o.f0 Bv ++ rest) ∧ rightL d.a (d.b - fr) (d.l.drop j) = true)) (fun _ u10 _ => nd - (intOf u10).toNat)
        case atStart => exact ⟨0, 0, Nat.zero_le _, rfl, rfl, by omega, by omega, ⟨⟨_, acc, Kx8.out, KB8.out, KO8.out, by rw [List.drop_zero]; exact KT3.out, by rw [List.drop_zero]; exact KdrR.out⟩⟩⟩
        case round =>
          clear Kx8 KB8 KO8 KT3 KX KB KTT KT2 KdrR
          obtain ⟨j, fr, hj, rfl, rfl, hfr0, hfr1, HR⟩ := hrel
          obtain ⟨ov, acc2, HX, HB, HO, HT, HRt⟩ := HR.out
          have KX := Aside0.mk HX
          have KB := Aside0.mk HB
          have KO := Aside0.mk HO
          have KTT := Aside0.mk HT
          have KRt := Aside0.mk HRt
          obtain ⟨q0, q1, q2, q3, q4⟩ := dbox_cells HB.d
          obtain ⟨v0, v1, v2⟩ := obox_cells HO
          have hb8l : b8 < wr.heap.size := blk_lt HO
          have hxl2 : xb < wr.heap.size := blk_lt HX.box
          clear HX HB HO HT HRt HR hxl
          by_cases hlt2 : j < nd
          · obtain ⟨p, e1, e2, e3⟩ := rd_drop (l := d.l) (i := j) (by rw [← Knd.out]; exact hlt2)
            obtain ⟨ad2, Bp, cp, rfl, y0, y1, y2, hcp, hCp⟩ := at_T37 KC.out (j : Int) (by omega) (by omega)
            rw [e1] at y0 y1 y2 hcp hCp
            rw [Int.toNat_natCast] at y0 y1 y2
            replace y0 := pw_cell_below KX.out.below y0
            replace y1 := pw_cell_below KX.out.below y1
            replace y2 := pw_cell_below KX.out.below y2
            have hRc := KRt.out
            rw [e2] at hRc
            obtain ⟨g1, g2, g3⟩ := rightL_cons hRc
            have hpp := ol_pos g1
            have KT4 : Aside0 (T = acc2 ++ (refO p fr o.f0 Bv ++ (refP (d.l.drop (j + 1)) (fr + ol p) o.f0 Bv ++ rest))) := ⟨by rw [KTT.out, e2, refP, List.append_assoc]⟩
            have Kcp := Aside0.mk (And.intro hCp hcp)
            have Kg := Aside0.mk (And.intro g1 (And.intro g2 g3))
            obtain ⟨pb1, pb2, pb3, pb4, pb5⟩ := op_bounds Kr.out.1 e3
            have hacc : Aside0 (acc2.length ≤ 8388608) := ⟨by have := Kj.out; rw [KTT.out, List.length_append] at this; omega⟩
            have Kal2 := Aside0.mk (below_alloc (Below.refl wr.heap.size wr) (.cells #[.int .i64 p.f0, .int .i64 p.f1, .slice Bp p.f2.length cp] 37))
            obtain ⟨lp, hlp⟩ : ∃ lp, lp = p.f2.length := ⟨_, rfl⟩
            have Klp := Aside0.mk hlp
            obtain ⟨t, ht⟩ : ∃ t, fr + p.f1 + (lp : Int) = t := ⟨_, rfl⟩
            have eol : ol p = p.f1 + (lp : Int) := by rw [hlp]; rfl
            have Kt : Aside0 (fr + ol p = t ∧ t ≤ 8388608) := ⟨by have := Kda.out; omega⟩
            have ht1 : fr < t := by have := Kt.out; omega
            have ht0 : t - fr = p.f1 + (lp : Int) := by omega
            have Kht0 := Aside0.mk ht0
            clear eol ht0
            have ht2 : t ≤ 8388608 := Kt.out.2
            rw [← hlp] at y2 Kal2 pb5
            have pb6 : lp ≤ 8388608 := by omega
            clear e1 e2 e3 hCp hcp hRc g1 g2 g3 hpp hlp pb5
            have Kxa := Aside0.mk (KX.out.keep Kal2.out)
            have Kxq := Aside0.mk (KX.out.more (Nat.le_refl _) Kal2.out (by rw [World.size_alloc]; omega))
            have KPa : Aside0 ((wr.alloc (.cells #[.int .i64 p.f0, .int .i64 p.f1, .slice Bp lp cp] 37)).heap[wr.heap.size]? = some (.cells #[.int .i64 p.f0, .int .i64 p.f1, .slice Bp lp cp] 37 (0, 0))) := ⟨heap_alloc_new wr _⟩
            have KBa := Aside0.mk (KB.out.keep Kal2.out)
            have KOa := Aside0.mk (blk_below KO.out Kal2.out)
            obtain ⟨r0, r1, r2⟩ := obox_cells KOa.out
            obtain ⟨z0, z1, z2, z3, z4⟩ := Kxa.out.box.cells
            have Kwrs : Aside0 (b8 < wr.heap.size) := ⟨hb8l⟩
            have hspl : ∀ k, (sp k ∨ k = b8) → k < wr.heap.size := KX.out.lt
            have Kspl := Aside0.mk hspl
            clear hspl
            by_cases hA : o.f0 < fr
            · by_cases hB : t < Bv
              · by_cases hab : fr < t
                · by_cases hp1 : p.f1 > 0
                  · have dA : decide (o.f0 < fr) = true := decide_eq_true hA
                    have dB : decide (t < Bv) = true := decide_eq_true hB
                    have Kab : Aside0 (aOf fr o.f0 = fr ∧ bOf (fr + ol p) Bv = t) := ⟨by rw [Kt.out.1]; exact ⟨if_pos hA, if_pos hB⟩⟩
                    have KR5 : Aside0 (rightL d.a (d.b - t) (d.l.drop (j + 1)) = true) := ⟨by have := Kg.out.2.2; rwa [show d.b - fr - ol p = d.b - t by have := Kt.out; omega] at this⟩
                    have dab : decide (fr < t) = true := decide_eq_true hab
                    have Kel : Aside0 (T = (acc2 ++ [cutO p (fr - fr) (t - fr)]) ++ (refP (d.l.drop (j + 1)) t o.f0 Bv ++ rest)) := ⟨by rw [KT4.out, refO, Kab.out.1, Kab.out.2, if_pos hab, Kt.out.1, List.append_assoc]⟩
                    have dp : decide (0 < p.f1) = true := decide_eq_true hp1
                    have dp2 : (p.f1 == 0) = false := by simp; omega
                    obtain ⟨el, hel⟩ : ∃ el : S37, el = ⟨p.f0, t - fr, []⟩ := ⟨_, rfl⟩
                    have Kee : Aside0 (cutO p (fr - fr) (t - fr) = el) := ⟨by rw [hel]; unfold cutO; rw [if_pos hp1]; congr 1; omega⟩
                    have Khel := Aside0.mk hel
                    clear hA hB hab hp1 hel
                    go_wp2
                    go_quiet (fail)
                    generalize hwq : World.drewN _ _ = wq
                    have Kxm : Aside0 (XS w (fun k => (sp k ∨ k = b8) ∨ k = wr.heap.size) wq xb ⟨d.a, f.b, d.c, f.d, []⟩ ov acc2) := ⟨by rw [← hwq]; exact Kxq.out.keep (pw_below_drewN (Below.refl _ _) _)⟩
                    have KBm : Aside0 (B3 w d f (some ad2) c (some ad) cb nd nf wq) := ⟨by rw [← hwq]; exact KBa.out.keep (pw_below_drewN (Below.refl _ _) _)⟩
                    have KOm : Aside0 (wq.heap[b8]? = some (.cells #[.int .i64 o.f0, .int .i64 o.f1, .slice Bo lo co] 37 (0, 0))) := ⟨by rw [← hwq]; exact blk_drewN KOa.out _⟩
                    have KPm : Aside0 (wq.heap[wr.heap.size]? = some (.cells #[.int .i64 p.f0, .int .i64 p.f1, .slice Bp lp cp] 37 (0, 0))) := ⟨by rw [← hwq]; exact blk_drewN KPa.out _⟩
                    clear hwq r0 r1 r2 z0 z1 z2 z3 z4 y0 y1 y2 q0 q1 q2 q3 q4 v0 v1 v2
                    obtain ⟨z0, z1, z2, z3, z4⟩ := Kxm.out.box.cells
                    obtain ⟨r0, r1, r2⟩ := obox_cells KPm.out
                    go_wp2_with ((with_reducible refine gate_builtin (b := .append) (xs := #[.tmp 111, .tmp 122]) rfl ?_); apply Aside0.out)
                    refine ⟨?_⟩
                    refine Kd.N_append k37 (w0 := w) w.heap.size rfl (.tmp 111) (.tmp 122) 25 37 (.agg #[(.int .i64 0), (.int .i64 0), (.slice none 0 0)]) 40 rfl Try.underlying25 info37 rfl (by decide) (by omega) ov acc2 el [.int .i64 (p.f0), .int .i64 (t - fr), .slice none 0 0] (fun k => ¬ ((sp k ∨ k = b8) ∨ k = wr.heap.size)) (fun k => (¬ ((sp k ∨ k = b8) ∨ k = wr.heap.size)) ∧ some k ≠ ov.ownBlock) rfl rfl ?aF (fun _ hk => hk) ?aO Kxm.out.ops Kxm.out.below Kxm.out.below.size ?aL ?_
                    case aF => rw [Khel.out]; exact k37_mkF _ _ (⟨p.f0, t - fr, []⟩ : S37) (Nat.le_refl _) (Kd.F_nil _ _ _)
                    case aO => intro k hk hs; have := Kxm.out.lt k hs; omega
                    case aL => have := hacc.out; omega
                    intro v5 w5 hN5 hB5 hg5 hat5
                    obtain ⟨A5, C5, hv5⟩ := Kd.N_slice hN5
                    obtain ⟨l5, hl5⟩ : ∃ l5, l5 = (acc2 ++ [el]).length := ⟨_, rfl⟩
                    rw [← hl5] at hv5
                    subst hv5
                    have hX5 := Kxm.out.grown hg5
                    have xf5 : w5.frozen? ⟨xb, 4, none⟩ = false := blk_frozen hX5 4
                    have x5 : w5.cell? ⟨xb, 4, none⟩ = some ov := hX5.cells.2.2.2.2
                    have KX6 := Aside0.mk (Kxm.out.push hg5 hB5 hN5)
                    have KB6 := Aside0.mk (KBm.out.else_ KX6.out.below ((Kxm.out.else_ hg5).trans (else_set (j := 4) (u := .slice A5 l5 C5))) hxz)
                    have KO6 : Aside0 ((w5.setCell ⟨xb, 4, none⟩ (.slice A5 l5 C5)).heap[b8]? = some (.cells #[.int .i64 o.f0, .int .i64 o.f1, .slice Bo lo co] 37 (0, 0))) := ⟨(Below.heap_setCell _ ⟨xb, 4, none⟩ _ b8 (by have := Kxb8.out; show b8 ≠ xb; omega)).trans ((Kxm.out.sp_block hg5 (Or.inl (Or.inr rfl))).trans KOm.out)⟩
                    have KP6 : Aside0 ((w5.setCell ⟨xb, 4, none⟩ (.slice A5 l5 C5)).heap[wr.heap.size]? = some (.cells #[.int .i64 p.f0, .int .i64 p.f1, .slice Bp lp cp] 37 (0, 0))) := ⟨(Below.heap_setCell _ ⟨xb, 4, none⟩ _ wr.heap.size (by show wr.heap.size ≠ xb; omega)).trans ((Kxm.out.sp_block hg5 (Or.inr rfl)).trans KPm.out)⟩
                    obtain ⟨m0, m1, m2⟩ := obox_cells KP6.out
                    clear hN5 hB5 hg5 hat5 hX5 hl5 z0 z1 z2 z3 z4 r0 r1 r2
                    go_wp2
                    refine ⟨⟨j + 1, t, hlt2, by go_num, rfl, by omega, ht2, ⟨⟨_, acc2 ++ [el], KX6.out.less (Or.inl Kspx.out), KB6.out, KO6.out, by rw [Kel.out, Kee.out], KR5.out⟩⟩⟩, by simp [intOf]; omega⟩
                  · have dA : decide (o.f0 < fr) = true := decide_eq_true hA
                    have dB : decide (t < Bv) = true := decide_eq_true hB
                    have Kab : Aside0 (aOf fr o.f0 = fr ∧ bOf (fr + ol p) Bv = t) := ⟨by rw [Kt.out.1]; exact ⟨if_pos hA, if_pos hB⟩⟩
                    have KR5 : Aside0 (rightL d.a (d.b - t) (d.l.drop (j + 1)) = true) := ⟨by have := Kg.out.2.2; rwa [show d.b - fr - ol p = d.b - t by have := Kt.out; omega] at this⟩
                    have dab : decide (fr < t) = true := decide_eq_true hab
                    have Kel : Aside0 (T = (acc2 ++ [cutO p (fr - fr) (t - fr)]) ++ (refP (d.l.drop (j + 1)) t o.f0 Bv ++ rest)) := ⟨by rw [KT4.out, refO, Kab.out.1, Kab.out.2, if_pos hab, Kt.out.1, List.append_assoc]⟩
                    have hz2 : p.f1 = 0 := by omega
                    have dp : decide (0 < p.f1) = false := decide_eq_false hp1
                    have dp2 : (p.f1 == 0) = true := by simp [hz2]
                    obtain ⟨pa, hpa⟩ : ∃ pa : Nat, (pa : Int) = fr - fr := ⟨(fr - fr).toNat, by omega⟩
                    obtain ⟨pb, hpb⟩ : ∃ pb : Nat, (pb : Int) = t - fr := ⟨(t - fr).toNat, by omega⟩
                    have hpab : pa ≤ pb := by omega
                    have hpbl : pb ≤ lp := by have := Kht0.out; omega
                    have hpa0 : pa = 0 := by omega
                    subst hpa0
                    have hpb0 : 0 ≤ pb := Nat.zero_le _
                    have hnn : ((p.f2.drop 0).take (pb - 0)).length = pb := by rw [List.drop_zero, Nat.sub_zero, List.length_take, ← Klp.out]; omega
                    have hncL : pb ≤ cp := by have := Kcp.out.2; rw [← Klp.out] at this; omega
                    have hCL : ∀ w : World, Kd.C (Kd.int .u8) w Bp p.f2.length p.f2 → Kd.C (Kd.int .u8) w Bp ((p.f2.drop 0).take (pb - 0)).length ((p.f2.drop 0).take (pb - 0)) := fun w h => by rw [List.drop_zero, Nat.sub_zero]; exact Kd.C_take h (by rw [← Klp.out]; exact hpbl)
                    have hcut : True := trivial
                    obtain ⟨el, hel⟩ : ∃ el : S37, el = ⟨0, 0, (p.f2.drop 0).take (pb - 0)⟩ := ⟨_, rfl⟩
                    have Kee : Aside0 (cutO p (fr - fr) (t - fr) = el) := ⟨by rw [hel]; unfold cutO; rw [if_neg hp1, Int.sub_self, show (t - fr).toNat = pb - 0 by omega]; rfl⟩
                    have Khel := Aside0.mk hel
                    have hell : el.f2.length = pb := by rw [hel]; exact hnn
                    have Khell := Aside0.mk hell
                    have KCL : Aside0 (Kd.C (Kd.int .u8) w Bp el.f2.length el.f2) := ⟨by rw [hel]; exact hCL w Kcp.out.1⟩
                    have Kwa : Aside0 (wrap64 (fr - fr) = 0 ∧ IntKind.i64.wrap (fr - fr) = 0) := ⟨by rw [Int.sub_self]; exact ⟨wrap_in (by omega), IntWalk.i64_in _ (by omega)⟩⟩
                    have Kwb : Aside0 (wrap64 (t - fr) = pb ∧ IntKind.i64.wrap (t - fr) = pb) := ⟨by rw [← hpb]; exact ⟨wrap_in (by omega), IntWalk.i64_in _ (by omega)⟩⟩
                    have Kcut := Aside0.mk hcut
                    have hf00 : el.f0 = 0 := by rw [hel]
                    have hf10 : el.f1 = 0 := by rw [hel]
                    have Kf := Aside0.mk (And.intro hf00 hf10)
                    clear hA hB hab hp1 hel hpa hpb hpab hpbl hnn hCL hell hf00 hf10 hz2 hcut
                    go_wp2
                    go_quiet (fail)
                    generalize hwq : World.drewN _ _ = wq
                    have Kxm : Aside0 (XS w (fun k => (sp k ∨ k = b8) ∨ k = wr.heap.size) wq xb ⟨d.a, f.b, d.c, f.d, []⟩ ov acc2) := ⟨by rw [← hwq]; exact Kxq.out.keep (pw_below_drewN (Below.refl _ _) _)⟩
                    have KBm : Aside0 (B3 w d f (some ad2) c (some ad) cb nd nf wq) := ⟨by rw [← hwq]; exact KBa.out.keep (pw_below_drewN (Below.refl _ _) _)⟩
                    have KOm : Aside0 (wq.heap[b8]? = some (.cells #[.int .i64 o.f0, .int .i64 o.f1, .slice Bo lo co] 37 (0, 0))) := ⟨by rw [← hwq]; exact blk_drewN KOa.out _⟩
                    have KPm : Aside0 (wq.heap[wr.heap.size]? = some (.cells #[.int .i64 p.f0, .int .i64 p.f1, .slice Bp lp cp] 37 (0, 0))) := ⟨by rw [← hwq]; exact blk_drewN KPa.out _⟩
                    clear hwq r0 r1 r2 z0 z1 z2 z3 z4 y0 y1 y2 q0 q1 q2 q3 q4 v0 v1 v2
                    obtain ⟨z0, z1, z2, z3, z4⟩ := Kxm.out.box.cells
                    obtain ⟨r0, r1, r2⟩ := obox_cells KPm.out
                    go_wp2
                    refine start_ (n := 16) (S := fun w' => w'.cell? ⟨xb, 4, none⟩ = some ov ∧ w'.cell? ⟨wr.heap.size, 2, none⟩ = some (.slice Bp lp cp)) (ds := [13, 15]) #[false, false, false, false, false, false, false, false, false, false, false, false, false, false, false, false] (by kernel_rfl) rfl rfl ⟨(show wq.cell? _ = _ from z4), (show wq.cell? _ = _ from r2)⟩ (fun hHeld => ?_)
                    refine pure_ (i := 0) (N := some 133) (v := ?_) (a' := ?_) #[true, false, false, false, false, false, false, false, false, false, false, false, false, false, false, false] rfl rfl (by kernel_rfl) (fun _ _ _ h => h) (Or.inl ⟨by rfl, ?_⟩) ?_ ?_
                    rotate_left
                    · intro w'
                      go_simp
                      with_reducible rfl
                    rotate_left
                    · simp only [Act.put, List.setIfInBounds_toArray, List.set_cons_zero, List.set_cons_succ, i64_w, i32_w]
                      rfl
                    refine pure_ (i := 2) (N := some 135) (v := ?_) (a' := ?_) #[true, false, true, false, false, false, false, false, false, false, false, false, false, false, false, false] rfl rfl (by kernel_rfl) (fun _ _ _ h => h) (Or.inl ⟨by rfl, ?_⟩) ?_ ?_
                    rotate_left
                    · intro w'
                      go_simp
                      with_reducible rfl
                    rotate_left
                    · simp only [Act.put, List.setIfInBounds_toArray, List.set_cons_zero, List.set_cons_succ, i64_w, i32_w]
                      rfl
                    refine pure_ (i := 4) (N := some 137) (v := ?_) (a' := ?_) #[true, false, true, false, true, false, false, false, false, false, false, false, false, false, false, false] rfl rfl (by kernel_rfl) (fun _ _ _ h => h) (Or.inl ⟨by rfl, ?_⟩) ?_ ?_
                    rotate_left
                    · intro w'
                      go_simp
                      with_reducible rfl
                    rotate_left
                    · simp only [Act.put, List.setIfInBounds_toArray, List.set_cons_zero, List.set_cons_succ, i64_w, i32_w]
                      rfl
                    refine pure_ (i := 5) (N := some 138) (v := ?_) (a' := ?_) #[true, false, true, false, true, true, false, false, false, false, false, false, false, false, false, false] rfl rfl (by kernel_rfl) (fun _ _ _ h => h) (Or.inl ⟨by rfl, ?_⟩) ?_ ?_
                    rotate_left
                    · intro w'
                      go_simp
                      with_reducible rfl
                    rotate_left
                    · simp only [Act.put, List.setIfInBounds_toArray, List.set_cons_zero, List.set_cons_succ, i64_w, i32_w]
                      rfl
                    refine pure_ (i := 6) (N := some 139) (v := .int .i64 0) (a' := ?_) #[true, false, true, false, true, true, true, false, false, false, false, false, false, false, false, false] rfl rfl (by kernel_rfl) (fun _ _ _ h => h) (Or.inl ⟨by rfl, ?_⟩) ?_ ?_
                    · intro w'
                      (have hw := Kwa.out)
                      go_simp
                      (try simp only [i64_w, hw])
                      (try rfl)
                      (try exact wrap_in (by omega))
                    rotate_left
                    · simp only [Act.put, List.setIfInBounds_toArray, List.set_cons_zero, List.set_cons_succ, i64_w, i32_w]
                      rfl
                    refine pure_ (i := 7) (N := some 140) (v := ?_) (a' := ?_) #[true, false, true, false, true, true, true, true, false, false, false, false, false, false, false, false] rfl rfl (by kernel_rfl) (fun _ _ _ h => h) (Or.inl ⟨by rfl, ?_⟩) ?_ ?_
                    rotate_left
                    · intro w'
                      go_simp
                      with_reducible rfl
                    rotate_left
                    · simp only [Act.put, List.setIfInBounds_toArray, List.set_cons_zero, List.set_cons_succ, i64_w, i32_w]
                      rfl
                    refine pure_ (i := 8) (N := some 141) (v := ?_) (a' := ?_) #[true, false, true, false, true, true, true, true, true, false, false, false, false, false, false, false] rfl rfl (by kernel_rfl) (fun _ _ _ h => h) (Or.inl ⟨by rfl, ?_⟩) ?_ ?_
                    rotate_left
                    · intro w'
                      go_simp
                      with_reducible rfl
                    rotate_left
                    · simp only [Act.put, List.setIfInBounds_toArray, List.set_cons_zero, List.set_cons_succ, i64_w, i32_w]
                      rfl
                    refine pure_ (i := 9) (N := some 142) (v := .int .i64 (pb : Int)) (a' := ?_) #[true, false, true, false, true, true, true, true, true, true, false, false, false, false, false, false] rfl rfl (by kernel_rfl) (fun _ _ _ h => h) (Or.inl ⟨by rfl, ?_⟩) ?_ ?_
                    · intro w'
                      (have hw := Kwb.out)
                      go_simp
                      (try simp only [i64_w, hw])
                      (try rfl)
                    rotate_left
                    · simp only [Act.put, List.setIfInBounds_toArray, List.set_cons_zero, List.set_cons_succ, i64_w, i32_w]
                      rfl
                    refine take_ (i := 1) (N := some 134) (v := ?_) (a' := ?_) #[true, true, true, false, true, true, true, true, true, true, false, false, false, false, false, false] rfl rfl (by kernel_rfl) (fun _ _ _ h => h) (Or.inl ⟨by rfl, ?_⟩) hHeld ?_ ?_
                    rotate_left
                    · rintro w' ⟨s0, s1⟩
                      go_simp
                      with_reducible rfl
                    rotate_left
                    · simp only [Act.put, List.setIfInBounds_toArray, List.set_cons_zero, List.set_cons_succ, i64_w, i32_w]
                      rfl
                    refine take_ (i := 3) (N := some 136) (v := ?_) (a' := ?_) #[true, true, true, true, true, true, true, true, true, true, false, false, false, false, false, false] rfl rfl (by kernel_rfl) (fun _ _ _ h => h) (Or.inl ⟨by rfl, ?_⟩) hHeld ?_ ?_
                    rotate_left
                    · rintro w' ⟨s0, s1⟩
                      go_simp
                      with_reducible rfl
                    rotate_left
                    · simp only [Act.put, List.setIfInBounds_toArray, List.set_cons_zero, List.set_cons_succ, i64_w, i32_w]
                      rfl
                    refine pure_ (i := 10) (N := some 143) (v := .slice Bp pb cp) (a' := ?_) #[true, true, true, true, true, true, true, true, true, true, true, false, false, false, false, false] rfl rfl (by kernel_rfl) (fun _ _ _ h => h) (Or.inl ⟨by rfl, ?_⟩) ?_ ?_
                    · intro w'
                      (have hcut := Kcut.out)
                      go_simp
                      (try simp only [hcut])
                      (try rfl)
                    rotate_left
                    · simp only [Act.put, List.setIfInBounds_toArray, List.set_cons_zero, List.set_cons_succ, i64_w, i32_w]
                      rfl
                    refine pure_ (i := 11) (N := some 144) (v := ?_) (a' := ?_) #[true, true, true, true, true, true, true, true, true, true, true, true, false, false, false, false] rfl rfl (by kernel_rfl) (fun _ _ _ h => h) (Or.inl ⟨by rfl, ?_⟩) ?_ ?_
                    rotate_left
                    · intro w'
                      go_simp
                      with_reducible rfl
                    rotate_left
                    · simp only [Act.put, List.setIfInBounds_toArray, List.set_cons_zero, List.set_cons_succ, i64_w, i32_w]
                      rfl
                    refine one_ (i := 12) (N := some 145) #[true, true, true, true, true, true, true, true, true, true, true, true, true, false, false, false] rfl rfl (by kernel_rfl) (by decide) (fun K hK => ?_)
                    refine value_ (w1 := ?_) (v := ?_) (by rfl) rfl ?_ ?_
                    rotate_left 2
                    · go_simp
                      constructor
                      · rfl
                      · rfl
                    refine hK.out _ _ ⟨((cell_of_row _ _ _ _ _ _ (blk_alloc (show wq.drew.heap[xb]? = _ from Kxm.out.box) _)).trans rfl), ((cell_of_row _ _ _ _ _ _ (blk_alloc (show wq.drew.heap[wr.heap.size]? = _ from KPm.out) _)).trans rfl)⟩ (fun hHeld => ?_)
                    clear hK K
                    refine norm_ (a' := ?_) ?_ ?_
                    rotate_left
                    · show Act.put _ (some 145) _ = _
                      simp only [Act.put, List.setIfInBounds_toArray, List.set_cons_zero, List.set_cons_succ, i64_w, i32_w]
                      rfl
                    refine last_ (i := 13) (N := some 146) #[true, true, true, true, true, true, true, true, true, true, true, true, true, true, false, false] rfl rfl (by kernel_rfl) (by decide) (fun K hK => ?_)
                    refine Kd.N_append_step k37 (w0 := w) (W := wq.drew) w.heap.size (by rfl) (.tmp 134) (.tmp 145) 25 37 (.agg #[(.int .i64 0), (.int .i64 0), (.slice none 0 0)]) 40 rfl Try.underlying25 info37 rfl (by decide) (by omega) ov acc2 el [.int .i64 0, .int .i64 0, .slice Bp pb cp] (fun k => ¬ ((sp k ∨ k = b8) ∨ k = wr.heap.size)) (fun k => (¬ ((sp k ∨ k = b8) ∨ k = wr.heap.size)) ∧ some k ≠ ov.ownBlock) rfl rfl (dataFK (Kxm.out.keep (below_drew (Below.refl _ _))) (fun k hk => sp3 Kspw.out Kxm.out.xg Kxb8.out Kwrs.out k hk) KCL.out Khell.out hncL Kf.out) (fun _ hk => hk) (fun k hk hs => absurd (Kxm.out.lt k hs) (by have h9 : wq.heap.size ≤ k := hk; omega)) (Kd.N_drew Kxm.out.ops) (below_drew Kxm.out.below) Kxm.out.below.size (by have := hacc.out; omega) ?_; intro v5 w5 hN5 hB5 hg5 hat5; obtain ⟨A5, C5, hv5⟩ := Kd.N_slice hN5; obtain ⟨l5, hl5⟩ : ∃ l5, l5 = (acc2 ++ [el]).length := ⟨_, rfl⟩; rw [← hl5] at hv5; subst hv5; have hX5 := (Kxm.out.keep (below_drew (Below.refl _ _))).grown hg5; have xf5 : w5.frozen? ⟨xb, 4, none⟩ = false := blk_frozen hX5 4; have x5 : w5.cell? ⟨xb, 4, none⟩ = some ov := hX5.cells.2.2.2.2; have KX6 := Aside0.mk ((Kxm.out.keep (below_drew (Below.refl _ _))).push hg5 hB5 hN5); have KB6 := Aside0.mk ((KBm.out.keep (below_drew (Below.refl _ _))).else_ KX6.out.below (((Kxm.out.keep (below_drew (Below.refl _ _))).else_ hg5).trans (else_set (j := 4) (u := .slice A5 l5 C5))) hxz); have KO6 : Aside0 ((w5.setCell ⟨xb, 4, none⟩ (.slice A5 l5 C5)).heap[b8]? = some (.cells #[.int .i64 o.f0, .int .i64 o.f1, .slice Bo lo co] 37 (0, 0))) := ⟨(Below.heap_setCell _ ⟨xb, 4, none⟩ _ b8 (by have := Kxb8.out; show b8 ≠ xb; omega)).trans (((Kxm.out.keep (below_drew (Below.refl _ _))).sp_block hg5 (Or.inl (Or.inr rfl))).trans KOm.out)⟩; have KP6 : Aside0 ((w5.setCell ⟨xb, 4, none⟩ (.slice A5 l5 C5)).heap[wr.heap.size]? = some (.cells #[.int .i64 p.f0, .int .i64 p.f1, .slice Bp lp cp] 37 (0, 0))) := ⟨(Below.heap_setCell _ ⟨xb, 4, none⟩ _ wr.heap.size (by show wr.heap.size ≠ xb; omega)).trans (((Kxm.out.keep (below_drew (Below.refl _ _))).sp_block hg5 (Or.inr rfl)).trans KPm.out)⟩; obtain ⟨m0, m1, m2⟩ := obox_cells KP6.out; have e1 : w5.cell? ⟨wr.heap.size, 2, none⟩ = some (.slice Bp lp cp) := (cell_of_row _ _ _ _ _ _ (((Kxm.out.keep (below_drew (Below.refl _ _))).sp_block hg5 (Or.inr rfl)).trans KPm.out)).trans rfl; clear hN5 hB5 hg5 hat5 hX5 hl5 z0 z1 z2 z3 z4 r0 r1 r2
                    refine hK.out _ _ ?_
                    clear hK K
                    refine norm_ (a' := ?_) ?_ ?_
                    rotate_left
                    · show Act.put _ (some 146) _ = _
                      simp only [Act.put, List.setIfInBounds_toArray, List.set_cons_zero, List.set_cons_succ, i64_w, i32_w]
                      rfl
                    refine pure_ (i := 14) (N := some 147) (v := ?_) (a' := ?_) #[true, true, true, true, true, true, true, true, true, true, true, true, true, true, true, false] rfl rfl (by kernel_rfl) (fun _ _ _ h => h) (Or.inl ⟨by rfl, ?_⟩) ?_ ?_
                    rotate_left
                    · intro w'
                      go_simp
                      with_reducible rfl
                    rotate_left
                    · simp only [Act.put, List.setIfInBounds_toArray, List.set_cons_zero, List.set_cons_succ, i64_w, i32_w]
                      rfl
                    refine last_ (i := 15) (N := none) #[true, true, true, true, true, true, true, true, true, true, true, true, true, true, true, true] rfl rfl (by kernel_rfl) (by decide) (fun K hK => ?_)
                    refine skip_ (w1 := ?_) (by rfl) rfl ?_ ?_
                    rotate_left
                    · go_simp
                      rfl
                    refine hK.out _ _ ?_
                    clear hK K
                    refine done_ (by kernel_rfl) ?_
                    try clear hHeld
                    go_wp2
                    refine ⟨⟨j + 1, t, hlt2, by go_num, rfl, by omega, ht2, ⟨⟨_, acc2 ++ [el], KX6.out.less (Or.inl Kspx.out), KB6.out, KO6.out, by rw [Kel.out, Kee.out], KR5.out⟩⟩⟩, by simp [intOf]; omega⟩
                · exact absurd ht1 hab
              · by_cases hab : fr < Bv
                · by_cases hp1 : p.f1 > 0
                  · have dA : decide (o.f0 < fr) = true := decide_eq_true hA
                    have dB : decide (t < Bv) = false := decide_eq_false hB
                    have Kab : Aside0 (aOf fr o.f0 = fr ∧ bOf (fr + ol p) Bv = Bv) := ⟨by rw [Kt.out.1]; exact ⟨if_pos hA, if_neg hB⟩⟩
                    have KR5 : Aside0 (rightL d.a (d.b - t) (d.l.drop (j + 1)) = true) := ⟨by have := Kg.out.2.2; rwa [show d.b - fr - ol p = d.b - t by have := Kt.out; omega] at this⟩
                    have dab : decide (fr < Bv) = true := decide_eq_true hab
                    have Kel : Aside0 (T = (acc2 ++ [cutO p (fr - fr) (Bv - fr)]) ++ (refP (d.l.drop (j + 1)) t o.f0 Bv ++ rest)) := ⟨by rw [KT4.out, refO, Kab.out.1, Kab.out.2, if_pos hab, Kt.out.1, List.append_assoc]⟩
                    have dp : decide (0 < p.f1) = true := decide_eq_true hp1
                    have dp2 : (p.f1 == 0) = false := by simp; omega
                    obtain ⟨el, hel⟩ : ∃ el : S37, el = ⟨p.f0, Bv - fr, []⟩ := ⟨_, rfl⟩
                    have Kee : Aside0 (cutO p (fr - fr) (Bv - fr) = el) := ⟨by rw [hel]; unfold cutO; rw [if_pos hp1]; congr 1; omega⟩
                    have Khel := Aside0.mk hel
                    clear hA hB hab hp1 hel
                    go_wp2
                    go_quiet (fail)
                    generalize hwq : World.drewN _ _ = wq
                    have Kxm : Aside0 (XS w (fun k => (sp k ∨ k = b8) ∨ k = wr.heap.size) wq xb ⟨d.a, f.b, d.c, f.d, []⟩ ov acc2) := ⟨by rw [← hwq]; exact Kxq.out.keep (pw_below_drewN (Below.refl _ _) _)⟩
                    have KBm : Aside0 (B3 w d f (some ad2) c (some ad) cb nd nf wq) := ⟨by rw [← hwq]; exact KBa.out.keep (pw_below_drewN (Below.refl _ _) _)⟩
                    have KOm : Aside0 (wq.heap[b8]? = some (.cells #[.int .i64 o.f0, .int .i64 o.f1, .slice Bo lo co] 37 (0, 0))) := ⟨by rw [← hwq]; exact blk_drewN KOa.out _⟩
                    have KPm : Aside0 (wq.heap[wr.heap.size]? = some (.cells #[.int .i64 p.f0, .int .i64 p.f1, .slice Bp lp cp] 37 (0, 0))) := ⟨by rw [← hwq]; exact blk_drewN KPa.out _⟩
                    clear hwq r0 r1 r2 z0 z1 z2 z3 z4 y0 y1 y2 q0 q1 q2 q3 q4 v0 v1 v2
                    obtain ⟨z0, z1, z2, z3, z4⟩ := Kxm.out.box.cells
                    obtain ⟨r0, r1, r2⟩ := obox_cells KPm.out
                    go_wp2_with ((with_reducible refine gate_builtin (b := .append) (xs := #[.tmp 111, .tmp 122]) rfl ?_); apply Aside0.out)
                    refine ⟨?_⟩
                    refine Kd.N_append k37 (w0 := w) w.heap.size rfl (.tmp 111) (.tmp 122) 25 37 (.agg #[(.int .i64 0), (.int .i64 0), (.slice none 0 0)]) 40 rfl Try.underlying25 info37 rfl (by decide) (by omega) ov acc2 el [.int .i64 (p.f0), .int .i64 (Bv - fr), .slice none 0 0] (fun k => ¬ ((sp k ∨ k = b8) ∨ k = wr.heap.size)) (fun k => (¬ ((sp k ∨ k = b8) ∨ k = wr.heap.size)) ∧ some k ≠ ov.ownBlock) rfl rfl ?aF (fun _ hk => hk) ?aO Kxm.out.ops Kxm.out.below Kxm.out.below.size ?aL ?_
                    case aF => rw [Khel.out]; exact k37_mkF _ _ (⟨p.f0, Bv - fr, []⟩ : S37) (Nat.le_refl _) (Kd.F_nil _ _ _)
                    case aO => intro k hk hs; have := Kxm.out.lt k hs; omega
                    case aL => have := hacc.out; omega
                    intro v5 w5 hN5 hB5 hg5 hat5
                    obtain ⟨A5, C5, hv5⟩ := Kd.N_slice hN5
                    obtain ⟨l5, hl5⟩ : ∃ l5, l5 = (acc2 ++ [el]).length := ⟨_, rfl⟩
                    rw [← hl5] at hv5
                    subst hv5
                    have hX5 := Kxm.out.grown hg5
                    have xf5 : w5.frozen? ⟨xb, 4, none⟩ = false := blk_frozen hX5 4
                    have x5 : w5.cell? ⟨xb, 4, none⟩ = some ov := hX5.cells.2.2.2.2
                    have KX6 := Aside0.mk (Kxm.out.push hg5 hB5 hN5)
                    have KB6 := Aside0.mk (KBm.out.else_ KX6.out.below ((Kxm.out.else_ hg5).trans (else_set (j := 4) (u := .slice A5 l5 C5))) hxz)
                    have KO6 : Aside0 ((w5.setCell ⟨xb, 4, none⟩ (.slice A5 l5 C5)).heap[b8]? = some (.cells #[.int .i64 o.f0, .int .i64 o.f1, .slice Bo lo co] 37 (0, 0))) := ⟨(Below.heap_setCell _ ⟨xb, 4, none⟩ _ b8 (by have := Kxb8.out; show b8 ≠ xb; omega)).trans ((Kxm.out.sp_block hg5 (Or.inl (Or.inr rfl))).trans KOm.out)⟩
                    have KP6 : Aside0 ((w5.setCell ⟨xb, 4, none⟩ (.slice A5 l5 C5)).heap[wr.heap.size]? = some (.cells #[.int .i64 p.f0, .int .i64 p.f1, .slice Bp lp cp] 37 (0, 0))) := ⟨(Below.heap_setCell _ ⟨xb, 4, none⟩ _ wr.heap.size (by show wr.heap.size ≠ xb; omega)).trans ((Kxm.out.sp_block hg5 (Or.inr rfl)).trans KPm.out)⟩
                    obtain ⟨m0, m1, m2⟩ := obox_cells KP6.out
                    clear hN5 hB5 hg5 hat5 hX5 hl5 z0 z1 z2 z3 z4 r0 r1 r2
                    go_wp2
                    refine ⟨⟨j + 1, t, hlt2, by go_num, rfl, by omega, ht2, ⟨⟨_, acc2 ++ [el], KX6.out.less (Or.inl Kspx.out), KB6.out, KO6.out, by rw [Kel.out, Kee.out], KR5.out⟩⟩⟩, by simp [intOf]; omega⟩
                  · have dA : decide (o.f0 < fr) = true := decide_eq_true hA
                    have dB : decide (t < Bv) = false := decide_eq_false hB
                    have Kab : Aside0 (aOf fr o.f0 = fr ∧ bOf (fr + ol p) Bv = Bv) := ⟨by rw [Kt.out.1]; exact ⟨if_pos hA, if_neg hB⟩⟩
                    have KR5 : Aside0 (rightL d.a (d.b - t) (d.l.drop (j + 1)) = true) := ⟨by have := Kg.out.2.2; rwa [show d.b - fr - ol p = d.b - t by have := Kt.out; omega] at this⟩
                    have dab : decide (fr < Bv) = true := decide_eq_true hab
                    have Kel : Aside0 (T = (acc2 ++ [cutO p (fr - fr) (Bv - fr)]) ++ (refP (d.l.drop (j + 1)) t o.f0 Bv ++ rest)) := ⟨by rw [KT4.out, refO, Kab.out.1, Kab.out.2, if_pos hab, Kt.out.1, List.append_assoc]⟩
                    have hz2 : p.f1 = 0 := by omega
                    have dp : decide (0 < p.f1) = false := decide_eq_false hp1
                    have dp2 : (p.f1 == 0) = true := by simp [hz2]
                    obtain ⟨pa, hpa⟩ : ∃ pa : Nat, (pa : Int) = fr - fr := ⟨(fr - fr).toNat, by omega⟩
                    obtain ⟨pb, hpb⟩ : ∃ pb : Nat, (pb : Int) = Bv - fr := ⟨(Bv - fr).toNat, by omega⟩
                    have hpab : pa ≤ pb := by omega
                    have hpbl : pb ≤ lp := by have := Kht0.out; omega
                    have hpa0 : pa = 0 := by omega
                    subst hpa0
                    have hpb0 : 0 ≤ pb := Nat.zero_le _
                    have hnn : ((p.f2.drop 0).take (pb - 0)).length = pb := by rw [List.drop_zero, Nat.sub_zero, List.length_take, ← Klp.out]; omega
                    have hncL : pb ≤ cp := by have := Kcp.out.2; rw [← Klp.out] at this; omega
                    have hCL : ∀ w : World, Kd.C (Kd.int .u8) w Bp p.f2.length p.f2 → Kd.C (Kd.int .u8) w Bp ((p.f2.drop 0).take (pb - 0)).length ((p.f2.drop 0).take (pb - 0)) := fun w h => by rw [List.drop_zero, Nat.sub_zero]; exact Kd.C_take h (by rw [← Klp.out]; exact hpbl)
                    have hcut : True := trivial
                    obtain ⟨el, hel⟩ : ∃ el : S37, el = ⟨0, 0, (p.f2.drop 0).take (pb - 0)⟩ := ⟨_, rfl⟩
                    have Kee : Aside0 (cutO p (fr - fr) (Bv - fr) = el) := ⟨by rw [hel]; unfold cutO; rw [if_neg hp1, Int.sub_self, show (Bv - fr).toNat = pb - 0 by omega]; rfl⟩
                    have Khel := Aside0.mk hel
                    have hell : el.f2.length = pb := by rw [hel]; exact hnn
                    have Khell := Aside0.mk hell
                    have KCL : Aside0 (Kd.C (Kd.int .u8) w Bp el.f2.length el.f2) := ⟨by rw [hel]; exact hCL w Kcp.out.1⟩
                    have Kwa : Aside0 (wrap64 (fr - fr) = 0 ∧ IntKind.i64.wrap (fr - fr) = 0) := ⟨by rw [Int.sub_self]; exact ⟨wrap_in (by omega), IntWalk.i64_in _ (by omega)⟩⟩
                    have Kwb : Aside0 (wrap64 (Bv - fr) = pb ∧ IntKind.i64.wrap (Bv - fr) = pb) := ⟨by rw [← hpb]; exact ⟨wrap_in (by omega), IntWalk.i64_in _ (by omega)⟩⟩
                    have Kcut := Aside0.mk hcut
                    have hf00 : el.f0 = 0 := by rw [hel]
                    have hf10 : el.f1 = 0 := by rw [hel]
                    have Kf := Aside0.mk (And.intro hf00 hf10)
                    clear hA hB hab hp1 hel hpa hpb hpab hpbl hnn hCL hell hf00 hf10 hz2 hcut
                    go_wp2
                    go_quiet (fail)
                    generalize hwq : World.drewN _ _ = wq
                    have Kxm : Aside0 (XS w (fun k => (sp k ∨ k = b8) ∨ k = wr.heap.size) wq xb ⟨d.a, f.b, d.c, f.d, []⟩ ov acc2) := ⟨by rw [← hwq]; exact Kxq.out.keep (pw_below_drewN (Below.refl _ _) _)⟩
                    have KBm : Aside0 (B3 w d f (some ad2) c (some ad) cb nd nf wq) := ⟨by rw [← hwq]; exact KBa.out.keep (pw_below_drewN (Below.refl _ _) _)⟩
                    have KOm : Aside0 (wq.heap[b8]? = some (.cells #[.int .i64 o.f0, .int .i64 o.f1, .slice Bo lo co] 37 (0, 0))) := ⟨by rw [← hwq]; exact blk_drewN KOa.out _⟩
                    have KPm : Aside0 (wq.heap[wr.heap.size]? = some (.cells #[.int .i64 p.f0, .int .i64 p.f1, .slice Bp lp cp] 37 (0, 0))) := ⟨by rw [← hwq]; exact blk_drewN KPa.out _⟩
                    clear hwq r0 r1 r2 z0 z1 z2 z3 z4 y0 y1 y2 q0 q1 q2 q3 q4 v0 v1 v2
                    obtain ⟨z0, z1, z2, z3, z4⟩ := Kxm.out.box.cells
                    obtain ⟨r0, r1, r2⟩ := obox_cells KPm.out
                    go_wp2
                    refine start_ (n := 16) (S := fun w' => w'.cell? ⟨xb, 4, none⟩ = some ov ∧ w'.cell? ⟨wr.heap.size, 2, none⟩ = some (.slice Bp lp cp)) (ds := [13, 15]) #[false, false, false, false, false, false, false, false, false, false, false, false, false, false, false, false] (by kernel_rfl) rfl rfl ⟨(show wq.cell? _ = _ from z4), (show wq.cell? _ = _ from r2)⟩ (fun hHeld => ?_)
                    refine pure_ (i := 0) (N := some 133) (v := ?_) (a' := ?_) #[true, false, false, false, false, false, false, false, false, false, false, false, false, false, false, false] rfl rfl (by kernel_rfl) (fun _ _ _ h => h) (Or.inl ⟨by rfl, ?_⟩) ?_ ?_
                    rotate_left
                    · intro w'
                      go_simp
                      with_reducible rfl
                    rotate_left
                    · simp only [Act.put, List.setIfInBounds_toArray, List.set_cons_zero, List.set_cons_succ, i64_w, i32_w]
                      rfl
                    refine pure_ (i := 2) (N := some 135) (v := ?_) (a' := ?_) #[true, false, true, false, false, false, false, false, false, false, false, false, false, false, false, false] rfl rfl (by kernel_rfl) (fun _ _ _ h => h) (Or.inl ⟨by rfl, ?_⟩) ?_ ?_
                    rotate_left
                    · intro w'
                      go_simp
                      with_reducible rfl
                    rotate_left
                    · simp only [Act.put, List.setIfInBounds_toArray, List.set_cons_zero, List.set_cons_succ, i64_w, i32_w]
                      rfl
                    refine pure_ (i := 4) (N := some 137) (v := ?_) (a' := ?_) #[true, false, true, false, true, false, false, false, false, false, false, false, false, false, false, false] rfl rfl (by kernel_rfl) (fun _ _ _ h => h) (Or.inl ⟨by rfl, ?_⟩) ?_ ?_
                    rotate_left
                    · intro w'
                      go_simp
                      with_reducible rfl
                    rotate_left
                    · simp only [Act.put, List.setIfInBounds_toArray, List.set_cons_zero, List.set_cons_succ, i64_w, i32_w]
                      rfl
                    refine pure_ (i := 5) (N := some 138) (v := ?_) (a' := ?_) #[true, false, true, false, true, true, false, false, false, false, false, false, false, false, false, false] rfl rfl (by kernel_rfl) (fun _ _ _ h => h) (Or.inl ⟨by rfl, ?_⟩) ?_ ?_
                    rotate_left
                    · intro w'
                      go_simp
                      with_reducible rfl
                    rotate_left
                    · simp only [Act.put, List.setIfInBounds_toArray, List.set_cons_zero, List.set_cons_succ, i64_w, i32_w]
                      rfl
                    refine pure_ (i := 6) (N := some 139) (v := .int .i64 0) (a' := ?_) #[true, false, true, false, true, true, true, false, false, false, false, false, false, false, false, false] rfl rfl (by kernel_rfl) (fun _ _ _ h => h) (Or.inl ⟨by rfl, ?_⟩) ?_ ?_
                    · intro w'
                      (have hw := Kwa.out)
                      go_simp
                      (try simp only [i64_w, hw])
                      (try rfl)
                      (try exact wrap_in (by omega))
                    rotate_left
                    · simp only [Act.put, List.setIfInBounds_toArray, List.set_cons_zero, List.set_cons_succ, i64_w, i32_w]
                      rfl
                    refine pure_ (i := 7) (N := some 140) (v := ?_) (a' := ?_) #[true, false, true, false, true, true, true, true, false, false, false, false, false, false, false, false] rfl rfl (by kernel_rfl) (fun _ _ _ h => h) (Or.inl ⟨by rfl, ?_⟩) ?_ ?_
                    rotate_left
                    · intro w'
                      go_simp
                      with_reducible rfl
                    rotate_left
                    · simp only [Act.put, List.setIfInBounds_toArray, List.set_cons_zero, List.set_cons_succ, i64_w, i32_w]
                      rfl
                    refine pure_ (i := 8) (N := some 141) (v := ?_) (a' := ?_) #[true, false, true, false, true, true, true, true, true, false, false, false, false, false, false, false] rfl rfl (by kernel_rfl) (fun _ _ _ h => h) (Or.inl ⟨by rfl, ?_⟩) ?_ ?_
                    rotate_left
                    · intro w'
                      go_simp
                      with_reducible rfl
                    rotate_left
                    · simp only [Act.put, List.setIfInBounds_toArray, List.set_cons_zero, List.set_cons_succ, i64_w, i32_w]
                      rfl
                    refine pure_ (i := 9) (N := some 142) (v := .int .i64 (pb : Int)) (a' := ?_) #[true, false, true, false, true, true, true, true, true, true, false, false, false, false, false, false] rfl rfl (by kernel_rfl) (fun _ _ _ h => h) (Or.inl ⟨by rfl, ?_⟩) ?_ ?_
                    · intro w'
                      (have hw := Kwb.out)
                      go_simp
                      (try simp only [i64_w, hw])
                      (try rfl)
                    rotate_left
                    · simp only [Act.put, List.setIfInBounds_toArray, List.set_cons_zero, List.set_cons_succ, i64_w, i32_w]
                      rfl
                    refine take_ (i := 1) (N := some 134) (v := ?_) (a' := ?_) #[true, true, true, false, true, true, true, true, true, true, false, false, false, false, false, false] rfl rfl (by kernel_rfl) (fun _ _ _ h => h) (Or.inl ⟨by rfl, ?_⟩) hHeld ?_ ?_
                    rotate_left
                    · rintro w' ⟨s0, s1⟩
                      go_simp
                      with_reducible rfl
                    rotate_left
                    · simp only [Act.put, List.setIfInBounds_toArray, List.set_cons_zero, List.set_cons_succ, i64_w, i32_w]
                      rfl
                    refine take_ (i := 3) (N := some 136) (v := ?_) (a' := ?_) #[true, true, true, true, true, true, true, true, true, true, false, false, false, false, false, false] rfl rfl (by kernel_rfl) (fun _ _ _ h => h) (Or.inl ⟨by rfl, ?_⟩) hHeld ?_ ?_
                    rotate_left
                    · rintro w' ⟨s0, s1⟩
                      go_simp
                      with_reducible rfl
                    rotate_left
                    · simp only [Act.put, List.setIfInBounds_toArray, List.set_cons_zero, List.set_cons_succ, i64_w, i32_w]
                      rfl
                    refine pure_ (i := 10) (N := some 143) (v := .slice Bp pb cp) (a' := ?_) #[true, true, true, true, true, true, true, true, true, true, true, false, false, false, false, false] rfl rfl (by kernel_rfl) (fun _ _ _ h => h) (Or.inl ⟨by rfl, ?_⟩) ?_ ?_
                    · intro w'
                      (have hcut := Kcut.out)
                      go_simp
                      (try simp only [hcut])
                      (try rfl)
                    rotate_left
                    · simp only [Act.put, List.setIfInBounds_toArray, List.set_cons_zero, List.set_cons_succ, i64_w, i32_w]
                      rfl
                    refine pure_ (i := 11) (N := some 144) (v := ?_) (a' := ?_) #[true, true, true, true, true, true, true, true, true, true, true, true, false, false, false, false] rfl rfl (by kernel_rfl) (fun _ _ _ h => h) (Or.inl ⟨by rfl, ?_⟩) ?_ ?_
                    rotate_left
                    · intro w'
                      go_simp
                      with_reducible rfl
                    rotate_left
                    · simp only [Act.put, List.setIfInBounds_toArray, List.set_cons_zero, List.set_cons_succ, i64_w, i32_w]
                      rfl
                    refine one_ (i := 12) (N := some 145) #[true, true, true, true, true, true, true, true, true, true, true, true, true, false, false, false] rfl rfl (by kernel_rfl) (by decide) (fun K hK => ?_)
                    refine value_ (w1 := ?_) (v := ?_) (by rfl) rfl ?_ ?_
                    rotate_left 2
                    · go_simp
                      constructor
                      · rfl
                      · rfl
                    refine hK.out _ _ ⟨((cell_of_row _ _ _ _ _ _ (blk_alloc (show wq.drew.heap[xb]? = _ from Kxm.out.box) _)).trans rfl), ((cell_of_row _ _ _ _ _ _ (blk_alloc (show wq.drew.heap[wr.heap.size]? = _ from KPm.out) _)).trans rfl)⟩ (fun hHeld => ?_)
                    clear hK K
                    refine norm_ (a' := ?_) ?_ ?_
                    rotate_left
                    · show Act.put _ (some 145) _ = _
                      simp only [Act.put, List.setIfInBounds_toArray, List.set_cons_zero, List.set_cons_succ, i64_w, i32_w]
                      rfl
                    refine last_ (i := 13) (N := some 146) #[true, true, true, true, true, true, true, true, true, true, true, true, true, true, false, false] rfl rfl (by kernel_rfl) (by decide) (fun K hK => ?_)
                    refine Kd.N_append_step k37 (w0 := w) (W := wq.drew) w.heap.size (by rfl) (.tmp 134) (.tmp 145) 25 37 (.agg #[(.int .i64 0), (.int .i64 0), (.slice none 0 0)]) 40 rfl Try.underlying25 info37 rfl (by decide) (by omega) ov acc2 el [.int .i64 0, .int .i64 0, .slice Bp pb cp] (fun k => ¬ ((sp k ∨ k = b8) ∨ k = wr.heap.size)) (fun k => (¬ ((sp k ∨ k = b8) ∨ k = wr.heap.size)) ∧ some k ≠ ov.ownBlock) rfl rfl (dataFK (Kxm.out.keep (below_drew (Below.refl _ _))) (fun k hk => sp3 Kspw.out Kxm.out.xg Kxb8.out Kwrs.out k hk) KCL.out Khell.out hncL Kf.out) (fun _ hk => hk) (fun k hk hs => absurd (Kxm.out.lt k hs) (by have h9 : wq.heap.size ≤ k := hk; omega)) (Kd.N_drew Kxm.out.ops) (below_drew Kxm.out.below) Kxm.out.below.size (by have := hacc.out; omega) ?_; intro v5 w5 hN5 hB5 hg5 hat5; obtain ⟨A5, C5, hv5⟩ := Kd.N_slice hN5; obtain ⟨l5, hl5⟩ : ∃ l5, l5 = (acc2 ++ [el]).length := ⟨_, rfl⟩; rw [← hl5] at hv5; subst hv5; have hX5 := (Kxm.out.keep (below_drew (Below.refl _ _))).grown hg5; have xf5 : w5.frozen? ⟨xb, 4, none⟩ = false := blk_frozen hX5 4; have x5 : w5.cell? ⟨xb, 4, none⟩ = some ov := hX5.cells.2.2.2.2; have KX6 := Aside0.mk ((Kxm.out.keep (below_drew (Below.refl _ _))).push hg5 hB5 hN5); have KB6 := Aside0.mk ((KBm.out.keep (below_drew (Below.refl _ _))).else_ KX6.out.below (((Kxm.out.keep (below_drew (Below.refl _ _))).else_ hg5).trans (else_set (j := 4) (u := .slice A5 l5 C5))) hxz); have KO6 : Aside0 ((w5.setCell ⟨xb, 4, none⟩ (.slice A5 l5 C5)).heap[b8]? = some (.cells #[.int .i64 o.f0, .int .i64 o.f1, .slice Bo lo co] 37 (0, 0))) := ⟨(Below.heap_setCell _ ⟨xb, 4, none⟩ _ b8 (by have := Kxb8.out; show b8 ≠ xb; omega)).trans (((Kxm.out.keep (below_drew (Below.refl _ _))).sp_block hg5 (Or.inl (Or.inr rfl))).trans KOm.out)⟩; have KP6 : Aside0 ((w5.setCell ⟨xb, 4, none⟩ (.slice A5 l5 C5)).heap[wr.heap.size]? = some (.cells #[.int .i64 p.f0, .int .i64 p.f1, .slice Bp lp cp] 37 (0, 0))) := ⟨(Below.heap_setCell _ ⟨xb, 4, none⟩ _ wr.heap.size (by show wr.heap.size ≠ xb; omega)).trans (((Kxm.out.keep (below_drew (Below.refl _ _))).sp_block hg5 (Or.inr rfl)).trans KPm.out)⟩; obtain ⟨m0, m1, m2⟩ := obox_cells KP6.out; have e1 : w5.cell? ⟨wr.heap.size, 2, none⟩ = some (.slice Bp lp cp) := (cell_of_row _ _ _ _ _ _ (((Kxm.out.keep (below_drew (Below.refl _ _))).sp_block hg5 (Or.inr rfl)).trans KPm.out)).trans rfl; clear hN5 hB5 hg5 hat5 hX5 hl5 z0 z1 z2 z3 z4 r0 r1 r2
                    refine hK.out _ _ ?_
                    clear hK K
                    refine norm_ (a' := ?_) ?_ ?_
                    rotate_left
                    · show Act.put _ (some 146) _ = _
                      simp only [Act.put, List.setIfInBounds_toArray, List.set_cons_zero, List.set_cons_succ, i64_w, i32_w]
                      rfl
                    refine pure_ (i := 14) (N := some 147) (v := ?_) (a' := ?_) #[true, true, true, true, true, true, true, true, true, true, true, true, true, true, true, false] rfl rfl (by kernel_rfl) (fun _ _ _ h => h) (Or.inl ⟨by rfl, ?_⟩) ?_ ?_
                    rotate_left
                    · intro w'
                      go_simp
                      with_reducible rfl
                    rotate_left
                    · simp only [Act.put, List.setIfInBounds_toArray, List.set_cons_zero, List.set_cons_succ, i64_w, i32_w]
                      rfl
                    refine last_ (i := 15) (N := none) #[true, true, true, true, true, true, true, true, true, true, true, true, true, true, true, true] rfl rfl (by kernel_rfl) (by decide) (fun K hK => ?_)
                    refine skip_ (w1 := ?_) (by rfl) rfl ?_ ?_
                    rotate_left
                    · go_simp
                      rfl
                    refine hK.out _ _ ?_
                    clear hK K
                    refine done_ (by kernel_rfl) ?_
                    try clear hHeld
                    go_wp2
                    refine ⟨⟨j + 1, t, hlt2, by go_num, rfl, by omega, ht2, ⟨⟨_, acc2 ++ [el], KX6.out.less (Or.inl Kspx.out), KB6.out, KO6.out, by rw [Kel.out, Kee.out], KR5.out⟩⟩⟩, by simp [intOf]; omega⟩
                · have dA : decide (o.f0 < fr) = true := decide_eq_true hA
                  have dB : decide (t < Bv) = false := decide_eq_false hB
                  have Kab : Aside0 (aOf fr o.f0 = fr ∧ bOf (fr + ol p) Bv = Bv) := ⟨by rw [Kt.out.1]; exact ⟨if_pos hA, if_neg hB⟩⟩
                  have KR5 : Aside0 (rightL d.a (d.b - t) (d.l.drop (j + 1)) = true) := ⟨by have := Kg.out.2.2; rwa [show d.b - fr - ol p = d.b - t by have := Kt.out; omega] at this⟩
                  have dab : decide (fr < Bv) = false := decide_eq_false hab
                  have KT5 : Aside0 (T = acc2 ++ (refP (d.l.drop (j + 1)) t o.f0 Bv ++ rest)) := ⟨by rw [KT4.out, refO, Kab.out.1, Kab.out.2, if_neg hab, Kt.out.1]; rfl⟩
                  clear hA hB hab
                  go_wp2
                  go_quiet (fail)
                  go_wp2
                  refine ⟨⟨j + 1, t, hlt2, by go_num, rfl, by omega, ht2, ⟨⟨_, acc2, Kxa.out.keep (pw_below_drewN (Below.refl _ _) _), KBa.out.keep (pw_below_drewN (Below.refl _ _) _), blk_drewN KOa.out _, KT5.out, KR5.out⟩⟩⟩, by simp [intOf]; omega⟩
            · by_cases hB : t < Bv
              · by_cases hab : o.f0 < t
                · by_cases hp1 : p.f1 > 0
                  · have dA : decide (o.f0 < fr) = false := decide_eq_false hA
                    have dB : decide (t < Bv) = true := decide_eq_true hB
                    have Kab : Aside0 (aOf fr o.f0 = o.f0 ∧ bOf (fr + ol p) Bv = t) := ⟨by rw [Kt.out.1]; exact ⟨if_neg hA, if_pos hB⟩⟩
                    have KR5 : Aside0 (rightL d.a (d.b - t) (d.l.drop (j + 1)) = true) := ⟨by have := Kg.out.2.2; rwa [show d.b - fr - ol p = d.b - t by have := Kt.out; omega] at this⟩
                    have dab : decide (o.f0 < t) = true := decide_eq_true hab
                    have Kel : Aside0 (T = (acc2 ++ [cutO p (o.f0 - fr) (t - o.f0)]) ++ (refP (d.l.drop (j + 1)) t o.f0 Bv ++ rest)) := ⟨by rw [KT4.out, refO, Kab.out.1, Kab.out.2, if_pos hab, Kt.out.1, List.append_assoc]⟩
                    have dp : decide (0 < p.f1) = true := decide_eq_true hp1
                    have dp2 : (p.f1 == 0) = false := by simp; omega
                    obtain ⟨el, hel⟩ : ∃ el : S37, el = ⟨p.f0 + o.f0 - fr, t - o.f0, []⟩ := ⟨_, rfl⟩
                    have Kee : Aside0 (cutO p (o.f0 - fr) (t - o.f0) = el) := ⟨by rw [hel]; unfold cutO; rw [if_pos hp1]; congr 1; omega⟩
                    have Khel := Aside0.mk hel
                    clear hA hB hab hp1 hel
                    go_wp2
                    go_quiet (fail)
                    generalize hwq : World.drewN _ _ = wq
                    have Kxm : Aside0 (XS w (fun k => (sp k ∨ k = b8) ∨ k = wr.heap.size) wq xb ⟨d.a, f.b, d.c, f.d, []⟩ ov acc2) := ⟨by rw [← hwq]; exact Kxq.out.keep (pw_below_drewN (Below.refl _ _) _)⟩
                    have KBm : Aside0 (B3 w d f (some ad2) c (some ad) cb nd nf wq) := ⟨by rw [← hwq]; exact KBa.out.keep (pw_below_drewN (Below.refl _ _) _)⟩
                    have KOm : Aside0 (wq.heap[b8]? = some (.cells #[.int .i64 o.f0, .int .i64 o.f1, .slice Bo lo co] 37 (0, 0))) := ⟨by rw [← hwq]; exact blk_drewN KOa.out _⟩
                    have KPm : Aside0 (wq.heap[wr.heap.size]? = some (.cells #[.int .i64 p.f0, .int .i64 p.f1, .slice Bp lp cp] 37 (0, 0))) := ⟨by rw [← hwq]; exact blk_drewN KPa.out _⟩
                    clear hwq r0 r1 r2 z0 z1 z2 z3 z4 y0 y1 y2 q0 q1 q2 q3 q4 v0 v1 v2
                    obtain ⟨z0, z1, z2, z3, z4⟩ := Kxm.out.box.cells
                    obtain ⟨r0, r1, r2⟩ := obox_cells KPm.out
                    go_wp2_with ((with_reducible refine gate_builtin (b := .append) (xs := #[.tmp 111, .tmp 122]) rfl ?_); apply Aside0.out)
                    refine ⟨?_⟩
                    refine Kd.N_append k37 (w0 := w) w.heap.size rfl (.tmp 111) (.tmp 122) 25 37 (.agg #[(.int .i64 0), (.int .i64 0), (.slice none 0 0)]) 40 rfl Try.underlying25 info37 rfl (by decide) (by omega) ov acc2 el [.int .i64 (p.f0 + o.f0 - fr), .int .i64 (t - o.f0), .slice none 0 0] (fun k => ¬ ((sp k ∨ k = b8) ∨ k = wr.heap.size)) (fun k => (¬ ((sp k ∨ k = b8) ∨ k = wr.heap.size)) ∧ some k ≠ ov.ownBlock) rfl rfl ?aF (fun _ hk => hk) ?aO Kxm.out.ops Kxm.out.below Kxm.out.below.size ?aL ?_
                    case aF => rw [Khel.out]; exact k37_mkF _ _ (⟨p.f0 + o.f0 - fr, t - o.f0, []⟩ : S37) (Nat.le_refl _) (Kd.F_nil _ _ _)
                    case aO => intro k hk hs; have := Kxm.out.lt k hs; omega
                    case aL => have := hacc.out; omega
                    intro v5 w5 hN5 hB5 hg5 hat5
                    obtain ⟨A5, C5, hv5⟩ := Kd.N_slice hN5
                    obtain ⟨l5, hl5⟩ : ∃ l5, l5 = (acc2 ++ [el]).length := ⟨_, rfl⟩
                    rw [← hl5] at hv5
                    subst hv5
                    have hX5 := Kxm.out.grown hg5
                    have xf5 : w5.frozen? ⟨xb, 4, none⟩ = false := blk_frozen hX5 4
                    have x5 : w5.cell? ⟨xb, 4, none⟩ = some ov := hX5.cells.2.2.2.2
                    have KX6 := Aside0.mk (Kxm.out.push hg5 hB5 hN5)
                    have KB6 := Aside0.mk (KBm.out.else_ KX6.out.below ((Kxm.out.else_ hg5).trans (else_set (j := 4) (u := .slice A5 l5 C5))) hxz)
                    have KO6 : Aside0 ((w5.setCell ⟨xb, 4, none⟩ (.slice A5 l5 C5)).heap[b8]? = some (.cells #[.int .i64 o.f0, .int .i64 o.f1, .slice Bo lo co] 37 (0, 0))) := ⟨(Below.heap_setCell _ ⟨xb, 4, none⟩ _ b8 (by have := Kxb8.out; show b8 ≠ xb; omega)).trans ((Kxm.out.sp_block hg5 (Or.inl (Or.inr rfl))).trans KOm.out)⟩
                    have KP6 : Aside0 ((w5.setCell ⟨xb, 4, none⟩ (.slice A5 l5 C5)).heap[wr.heap.size]? = some (.cells #[.int .i64 p.f0, .int .i64 p.f1, .slice Bp lp cp] 37 (0, 0))) := ⟨(Below.heap_setCell _ ⟨xb, 4, none⟩ _ wr.heap.size (by show wr.heap.size ≠ xb; omega)).trans ((Kxm.out.sp_block hg5 (Or.inr rfl)).trans KPm.out)⟩
                    obtain ⟨m0, m1, m2⟩ := obox_cells KP6.out
                    clear hN5 hB5 hg5 hat5 hX5 hl5 z0 z1 z2 z3 z4 r0 r1 r2
                    go_wp2
                    refine ⟨⟨j + 1, t, hlt2, by go_num, rfl, by omega, ht2, ⟨⟨_, acc2 ++ [el], KX6.out.less (Or.inl Kspx.out), KB6.out, KO6.out, by rw [Kel.out, Kee.out], KR5.out⟩⟩⟩, by simp [intOf]; omega⟩
                  · have dA : decide (o.f0 < fr) = false := decide_eq_false hA
                    have dB : decide (t < Bv) = true := decide_eq_true hB
                    have Kab : Aside0 (aOf fr o.f0 = o.f0 ∧ bOf (fr + ol p) Bv = t) := ⟨by rw [Kt.out.1]; exact ⟨if_neg hA, if_pos hB⟩⟩
                    have KR5 : Aside0 (rightL d.a (d.b - t) (d.l.drop (j + 1)) = true) := ⟨by have := Kg.out.2.2; rwa [show d.b - fr - ol p = d.b - t by have := Kt.out; omega] at this⟩
                    have dab : decide (o.f0 < t) = true := decide_eq_true hab
                    have Kel : Aside0 (T = (acc2 ++ [cutO p (o.f0 - fr) (t - o.f0)]) ++ (refP (d.l.drop (j + 1)) t o.f0 Bv ++ rest)) := ⟨by rw [KT4.out, refO, Kab.out.1, Kab.out.2, if_pos hab, Kt.out.1, List.append_assoc]⟩
                    have hz2 : p.f1 = 0 := by omega
                    have dp : decide (0 < p.f1) = false := decide_eq_false hp1
                    have dp2 : (p.f1 == 0) = true := by simp [hz2]
                    obtain ⟨pa, hpa⟩ : ∃ pa : Nat, (pa : Int) = o.f0 - fr := ⟨(o.f0 - fr).toNat, by omega⟩
                    obtain ⟨pb, hpb⟩ : ∃ pb : Nat, (pb : Int) = t - fr := ⟨(t - fr).toNat, by omega⟩
                    have hpab : pa ≤ pb := by omega
                    have hpbl : pb ≤ lp := by have := Kht0.out; omega
                    obtain ⟨AL, nn, cL, hnn, hncL, hcut, hCL⟩ := cut_mid2 Bp cp p.f2 pa pb hpab (by rw [← Klp.out]; exact hpbl) Kcp.out.2
                    rw [← Klp.out] at hcut
                    obtain ⟨el, hel⟩ : ∃ el : S37, el = ⟨0, 0, (p.f2.drop pa).take (pb - pa)⟩ := ⟨_, rfl⟩
                    have Kee : Aside0 (cutO p (o.f0 - fr) (t - o.f0) = el) := ⟨by rw [hel]; unfold cutO; rw [if_neg hp1, ← hpa, Int.toNat_natCast, show (t - o.f0).toNat = pb - pa by omega]⟩
                    have Khel := Aside0.mk hel
                    have hell : el.f2.length = nn := by rw [hel]; exact hnn
                    have Khell := Aside0.mk hell
                    have KCL : Aside0 (Kd.C (Kd.int .u8) w AL el.f2.length el.f2) := ⟨by rw [hel]; exact hCL w Kcp.out.1⟩
                    have Kwa : Aside0 (wrap64 (o.f0 - fr) = pa ∧ IntKind.i64.wrap (o.f0 - fr) = pa) := ⟨by rw [← hpa]; exact ⟨wrap_in (by omega), IntWalk.i64_in _ (by omega)⟩⟩
                    have Kwb : Aside0 (wrap64 (t - fr) = pb ∧ IntKind.i64.wrap (t - fr) = pb) := ⟨by rw [← hpb]; exact ⟨wrap_in (by omega), IntWalk.i64_in _ (by omega)⟩⟩
                    have Kcut := Aside0.mk hcut
                    have hf00 : el.f0 = 0 := by rw [hel]
                    have hf10 : el.f1 = 0 := by rw [hel]
                    have Kf := Aside0.mk (And.intro hf00 hf10)
                    clear hA hB hab hp1 hel hpa hpb hpab hpbl hnn hCL hell hf00 hf10 hz2 hcut
                    go_wp2
                    go_quiet (fail)
                    generalize hwq : World.drewN _ _ = wq
                    have Kxm : Aside0 (XS w (fun k => (sp k ∨ k = b8) ∨ k = wr.heap.size) wq xb ⟨d.a, f.b, d.c, f.d, []⟩ ov acc2) := ⟨by rw [← hwq]; exact Kxq.out.keep (pw_below_drewN (Below.refl _ _) _)⟩
                    have KBm : Aside0 (B3 w d f (some ad2) c (some ad) cb nd nf wq) := ⟨by rw [← hwq]; exact KBa.out.keep (pw_below_drewN (Below.refl _ _) _)⟩
                    have KOm : Aside0 (wq.heap[b8]? = some (.cells #[.int .i64 o.f0, .int .i64 o.f1, .slice Bo lo co] 37 (0, 0))) := ⟨by rw [← hwq]; exact blk_drewN KOa.out _⟩
                    have KPm : Aside0 (wq.heap[wr.heap.size]? = some (.cells #[.int .i64 p.f0, .int .i64 p.f1, .slice Bp lp cp] 37 (0, 0))) := ⟨by rw [← hwq]; exact blk_drewN KPa.out _⟩
                    clear hwq r0 r1 r2 z0 z1 z2 z3 z4 y0 y1 y2 q0 q1 q2 q3 q4 v0 v1 v2
                    obtain ⟨z0, z1, z2, z3, z4⟩ := Kxm.out.box.cells
                    obtain ⟨r0, r1, r2⟩ := obox_cells KPm.out
                    go_wp2
                    refine start_ (n := 16) (S := fun w' => w'.cell? ⟨xb, 4, none⟩ = some ov ∧ w'.cell? ⟨wr.heap.size, 2, none⟩ = some (.slice Bp lp cp)) (ds := [13, 15]) #[false, false, false, false, false, false, false, false, false, false, false, false, false, false, false, false] (by kernel_rfl) rfl rfl ⟨(show wq.cell? _ = _ from z4), (show wq.cell? _ = _ from r2)⟩ (fun hHeld => ?_)
                    refine pure_ (i := 0) (N := some 133) (v := ?_) (a' := ?_) #[true, false, false, false, false, false, false, false, false, false, false, false, false, false, false, false] rfl rfl (by kernel_rfl) (fun _ _ _ h => h) (Or.inl ⟨by rfl, ?_⟩) ?_ ?_
                    rotate_left
                    · intro w'
                      go_simp
                      with_reducible rfl
                    rotate_left
                    · simp only [Act.put, List.setIfInBounds_toArray, List.set_cons_zero, List.set_cons_succ, i64_w, i32_w]
                      rfl
                    refine pure_ (i := 2) (N := some 135) (v := ?_) (a' := ?_) #[true, false, true, false, false, false, false, false, false, false, false, false, false, false, false, false] rfl rfl (by kernel_rfl) (fun _ _ _ h => h) (Or.inl ⟨by rfl, ?_⟩) ?_ ?_
                    rotate_left
                    · intro w'
                      go_simp
                      with_reducible rfl
                    rotate_left
                    · simp only [Act.put, List.setIfInBounds_toArray, List.set_cons_zero, List.set_cons_succ, i64_w, i32_w]
                      rfl
                    refine pure_ (i := 4) (N := some 137) (v := ?_) (a' := ?_) #[true, false, true, false, true, false, false, false, false, false, false, false, false, false, false, false] rfl rfl (by kernel_rfl) (fun _ _ _ h => h) (Or.inl ⟨by rfl, ?_⟩) ?_ ?_
                    rotate_left
                    · intro w'
                      go_simp
                      with_reducible rfl
                    rotate_left
                    · simp only [Act.put, List.setIfInBounds_toArray, List.set_cons_zero, List.set_cons_succ, i64_w, i32_w]
                      rfl
                    refine pure_ (i := 5) (N := some 138) (v := ?_) (a' := ?_) #[true, false, true, false, true, true, false, false, false, false, false, false, false, false, false, false] rfl rfl (by kernel_rfl) (fun _ _ _ h => h) (Or.inl ⟨by rfl, ?_⟩) ?_ ?_
                    rotate_left
                    · intro w'
                      go_simp
                      with_reducible rfl
                    rotate_left
                    · simp only [Act.put, List.setIfInBounds_toArray, List.set_cons_zero, List.set_cons_succ, i64_w, i32_w]
                      rfl
                    refine pure_ (i := 6) (N := some 139) (v := .int .i64 (pa : Int)) (a' := ?_) #[true, false, true, false, true, true, true, false, false, false, false, false, false, false, false, false] rfl rfl (by kernel_rfl) (fun _ _ _ h => h) (Or.inl ⟨by rfl, ?_⟩) ?_ ?_
                    · intro w'
                      (have hw := Kwa.out)
                      go_simp
                      (try simp only [i64_w, hw])
                      (try rfl)
                      (try exact wrap_in (by omega))
                    rotate_left
                    · simp only [Act.put, List.setIfInBounds_toArray, List.set_cons_zero, List.set_cons_succ, i64_w, i32_w]
                      rfl
                    refine pure_ (i := 7) (N := some 140) (v := ?_) (a' := ?_) #[true, false, true, false, true, true, true, true, false, false, false, false, false, false, false, false] rfl rfl (by kernel_rfl) (fun _ _ _ h => h) (Or.inl ⟨by rfl, ?_⟩) ?_ ?_
                    rotate_left
                    · intro w'
                      go_simp
                      with_reducible rfl
                    rotate_left
                    · simp only [Act.put, List.setIfInBounds_toArray, List.set_cons_zero, List.set_cons_succ, i64_w, i32_w]
                      rfl
                    refine pure_ (i := 8) (N := some 141) (v := ?_) (a' := ?_) #[true, false, true, false, true, true, true, true, true, false, false, false, false, false, false, false] rfl rfl (by kernel_rfl) (fun _ _ _ h => h) (Or.inl ⟨by rfl, ?_⟩) ?_ ?_
                    rotate_left
                    · intro w'
                      go_simp
                      with_reducible rfl
                    rotate_left
                    · simp only [Act.put, List.setIfInBounds_toArray, List.set_cons_zero, List.set_cons_succ, i64_w, i32_w]
                      rfl
                    refine pure_ (i := 9) (N := some 142) (v := .int .i64 (pb : Int)) (a' := ?_) #[true, false, true, false, true, true, true, true, true, true, false, false, false, false, false, false] rfl rfl (by kernel_rfl) (fun _ _ _ h => h) (Or.inl ⟨by rfl, ?_⟩) ?_ ?_
                    · intro w'
                      (have hw := Kwb.out)
                      go_simp
                      (try simp only [i64_w, hw])
                      (try rfl)
                    rotate_left
                    · simp only [Act.put, List.setIfInBounds_toArray, List.set_cons_zero, List.set_cons_succ, i64_w, i32_w]
                      rfl
                    refine take_ (i := 1) (N := some 134) (v := ?_) (a' := ?_) #[true, true, true, false, true, true, true, true, true, true, false, false, false, false, false, false] rfl rfl (by kernel_rfl) (fun _ _ _ h => h) (Or.inl ⟨by rfl, ?_⟩) hHeld ?_ ?_
                    rotate_left
                    · rintro w' ⟨s0, s1⟩
                      go_simp
                      with_reducible rfl
                    rotate_left
                    · simp only [Act.put, List.setIfInBounds_toArray, List.set_cons_zero, List.set_cons_succ, i64_w, i32_w]
                      rfl
                    refine take_ (i := 3) (N := some 136) (v := ?_) (a' := ?_) #[true, true, true, true, true, true, true, true, true, true, false, false, false, false, false, false] rfl rfl (by kernel_rfl) (fun _ _ _ h => h) (Or.inl ⟨by rfl, ?_⟩) hHeld ?_ ?_
                    rotate_left
                    · rintro w' ⟨s0, s1⟩
                      go_simp
                      with_reducible rfl
                    rotate_left
                    · simp only [Act.put, List.setIfInBounds_toArray, List.set_cons_zero, List.set_cons_succ, i64_w, i32_w]
                      rfl
                    refine pure_ (i := 10) (N := some 143) (v := .slice AL nn cL) (a' := ?_) #[true, true, true, true, true, true, true, true, true, true, true, false, false, false, false, false] rfl rfl (by kernel_rfl) (fun _ _ _ h => h) (Or.inl ⟨by rfl, ?_⟩) ?_ ?_
                    · intro w'
                      (have hcut := Kcut.out)
                      go_simp
                      (try simp only [hcut])
                      (try rfl)
                    rotate_left
                    · simp only [Act.put, List.setIfInBounds_toArray, List.set_cons_zero, List.set_cons_succ, i64_w, i32_w]
                      rfl
                    refine pure_ (i := 11) (N := some 144) (v := ?_) (a' := ?_) #[true, true, true, true, true, true, true, true, true, true, true, true, false, false, false, false] rfl rfl (by kernel_rfl) (fun _ _ _ h => h) (Or.inl ⟨by rfl, ?_⟩) ?_ ?_
                    rotate_left
                    · intro w'
                      go_simp
                      with_reducible rfl
                    rotate_left
                    · simp only [Act.put, List.setIfInBounds_toArray, List.set_cons_zero, List.set_cons_succ, i64_w, i32_w]
                      rfl
                    refine one_ (i := 12) (N := some 145) #[true, true, true, true, true, true, true, true, true, true, true, true, true, false, false, false] rfl rfl (by kernel_rfl) (by decide) (fun K hK => ?_)
                    refine value_ (w1 := ?_) (v := ?_) (by rfl) rfl ?_ ?_
                    rotate_left 2
                    · go_simp
                      constructor
                      · rfl
                      · rfl
                    refine hK.out _ _ ⟨((cell_of_row _ _ _ _ _ _ (blk_alloc (show wq.drew.heap[xb]? = _ from Kxm.out.box) _)).trans rfl), ((cell_of_row _ _ _ _ _ _ (blk_alloc (show wq.drew.heap[wr.heap.size]? = _ from KPm.out) _)).trans rfl)⟩ (fun hHeld => ?_)
                    clear hK K
                    refine norm_ (a' := ?_) ?_ ?_
                    rotate_left
                    · show Act.put _ (some 145) _ = _
                      simp only [Act.put, List.setIfInBounds_toArray, List.set_cons_zero, List.set_cons_succ, i64_w, i32_w]
                      rfl
                    refine last_ (i := 13) (N := some 146) #[true, true, true, true, true, true, true, true, true, true, true, true, true, true, false, false] rfl rfl (by kernel_rfl) (by decide) (fun K hK => ?_)
                    refine Kd.N_append_step k37 (w0 := w) (W := wq.drew) w.heap.size (by rfl) (.tmp 134) (.tmp 145) 25 37 (.agg #[(.int .i64 0), (.int .i64 0), (.slice none 0 0)]) 40 rfl Try.underlying25 info37 rfl (by decide) (by omega) ov acc2 el [.int .i64 0, .int .i64 0, .slice AL nn cL] (fun k => ¬ ((sp k ∨ k = b8) ∨ k = wr.heap.size)) (fun k => (¬ ((sp k ∨ k = b8) ∨ k = wr.heap.size)) ∧ some k ≠ ov.ownBlock) rfl rfl (dataFK (Kxm.out.keep (below_drew (Below.refl _ _))) (fun k hk => sp3 Kspw.out Kxm.out.xg Kxb8.out Kwrs.out k hk) KCL.out Khell.out hncL Kf.out) (fun _ hk => hk) (fun k hk hs => absurd (Kxm.out.lt k hs) (by have h9 : wq.heap.size ≤ k := hk; omega)) (Kd.N_drew Kxm.out.ops) (below_drew Kxm.out.below) Kxm.out.below.size (by have := hacc.out; omega) ?_; intro v5 w5 hN5 hB5 hg5 hat5; obtain ⟨A5, C5, hv5⟩ := Kd.N_slice hN5; obtain ⟨l5, hl5⟩ : ∃ l5, l5 = (acc2 ++ [el]).length := ⟨_, rfl⟩; rw [← hl5] at hv5; subst hv5; have hX5 := (Kxm.out.keep (below_drew (Below.refl _ _))).grown hg5; have xf5 : w5.frozen? ⟨xb, 4, none⟩ = false := blk_frozen hX5 4; have x5 : w5.cell? ⟨xb, 4, none⟩ = some ov := hX5.cells.2.2.2.2; have KX6 := Aside0.mk ((Kxm.out.keep (below_drew (Below.refl _ _))).push hg5 hB5 hN5); have KB6 := Aside0.mk ((KBm.out.keep (below_drew (Below.refl _ _))).else_ KX6.out.below (((Kxm.out.keep (below_drew (Below.refl _ _))).else_ hg5).trans (else_set (j := 4) (u := .slice A5 l5 C5))) hxz); have KO6 : Aside0 ((w5.setCell ⟨xb, 4, none⟩ (.slice A5 l5 C5)).heap[b8]? = some (.cells #[.int .i64 o.f0, .int .i64 o.f1, .slice Bo lo co] 37 (0, 0))) := ⟨(Below.heap_setCell _ ⟨xb, 4, none⟩ _ b8 (by have := Kxb8.out; show b8 ≠ xb; omega)).trans (((Kxm.out.keep (below_drew (Below.refl _ _))).sp_block hg5 (Or.inl (Or.inr rfl))).trans KOm.out)⟩; have KP6 : Aside0 ((w5.setCell ⟨xb, 4, none⟩ (.slice A5 l5 C5)).heap[wr.heap.size]? = some (.cells #[.int .i64 p.f0, .int .i64 p.f1, .slice Bp lp cp] 37 (0, 0))) := ⟨(Below.heap_setCell _ ⟨xb, 4, none⟩ _ wr.heap.size (by show wr.heap.size ≠ xb; omega)).trans (((Kxm.out.keep (below_drew (Below.refl _ _))).sp_block hg5 (Or.inr rfl)).trans KPm.out)⟩; obtain ⟨m0, m1, m2⟩ := obox_cells KP6.out; have e1 : w5.cell? ⟨wr.heap.size, 2, none⟩ = some (.slice Bp lp cp) := (cell_of_row _ _ _ _ _ _ (((Kxm.out.keep (below_drew (Below.refl _ _))).sp_block hg5 (Or.inr rfl)).trans KPm.out)).trans rfl; clear hN5 hB5 hg5 hat5 hX5 hl5 z0 z1 z2 z3 z4 r0 r1 r2
                    refine hK.out _ _ ?_
                    clear hK K
                    refine norm_ (a' := ?_) ?_ ?_
                    rotate_left
                    · show Act.put _ (some 146) _ = _
                      simp only [Act.put, List.setIfInBounds_toArray, List.set_cons_zero, List.set_cons_succ, i64_w, i32_w]
                      rfl
                    refine pure_ (i := 14) (N := some 147) (v := ?_) (a' := ?_) #[true, true, true, true, true, true, true, true, true, true, true, true, true, true, true, false] rfl rfl (by kernel_rfl) (fun _ _ _ h => h) (Or.inl ⟨by rfl, ?_⟩) ?_ ?_
                    rotate_left
                    · intro w'
                      go_simp
                      with_reducible rfl
                    rotate_left
                    · simp only [Act.put, List.setIfInBounds_toArray, List.set_cons_zero, List.set_cons_succ, i64_w, i32_w]
                      rfl
                    refine last_ (i := 15) (N := none) #[true, true, true, true, true, true, true, true, true, true, true, true, true, true, true, true] rfl rfl (by kernel_rfl) (by decide) (fun K hK => ?_)
                    refine skip_ (w1 := ?_) (by rfl) rfl ?_ ?_
                    rotate_left
                    · go_simp
                      rfl
                    refine hK.out _ _ ?_
                    clear hK K
                    refine done_ (by kernel_rfl) ?_
                    try clear hHeld
                    go_wp2
                    refine ⟨⟨j + 1, t, hlt2, by go_num, rfl, by omega, ht2, ⟨⟨_, acc2 ++ [el], KX6.out.less (Or.inl Kspx.out), KB6.out, KO6.out, by rw [Kel.out, Kee.out], KR5.out⟩⟩⟩, by simp [intOf]; omega⟩
                · have dA : decide (o.f0 < fr) = false := decide_eq_false hA
                  have dB : decide (t < Bv) = true := decide_eq_true hB
                  have Kab : Aside0 (aOf fr o.f0 = o.f0 ∧ bOf (fr + ol p) Bv = t) := ⟨by rw [Kt.out.1]; exact ⟨if_neg hA, if_pos hB⟩⟩
                  have KR5 : Aside0 (rightL d.a (d.b - t) (d.l.drop (j + 1)) = true) := ⟨by have := Kg.out.2.2; rwa [show d.b - fr - ol p = d.b - t by have := Kt.out; omega] at this⟩
                  have dab : decide (o.f0 < t) = false := decide_eq_false hab
                  have KT5 : Aside0 (T = acc2 ++ (refP (d.l.drop (j + 1)) t o.f0 Bv ++ rest)) := ⟨by rw [KT4.out, refO, Kab.out.1, Kab.out.2, if_neg hab, Kt.out.1]; rfl⟩
                  clear hA hB hab
                  go_wp2
                  go_quiet (fail)
                  go_wp2
                  refine ⟨⟨j + 1, t, hlt2, by go_num, rfl, by omega, ht2, ⟨⟨_, acc2, Kxa.out.keep (pw_below_drewN (Below.refl _ _) _), KBa.out.keep (pw_below_drewN (Below.refl _ _) _), blk_drewN KOa.out _, KT5.out, KR5.out⟩⟩⟩, by simp [intOf]; omega⟩
              · by_cases hab : o.f0 < Bv
                · by_cases hp1 : p.f1 > 0
                  · have dA : decide (o.f0 < fr) = false := decide_eq_false hA
                    have dB : decide (t < Bv) = false := decide_eq_false hB
                    have Kab : Aside0 (aOf fr o.f0 = o.f0 ∧ bOf (fr + ol p) Bv = Bv) := ⟨by rw [Kt.out.1]; exact ⟨if_neg hA, if_neg hB⟩⟩
                    have KR5 : Aside0 (rightL d.a (d.b - t) (d.l.drop (j + 1)) = true) := ⟨by have := Kg.out.2.2; rwa [show d.b - fr - ol p = d.b - t by have := Kt.out; omega] at this⟩
                    have dab : decide (o.f0 < Bv) = true := decide_eq_true hab
                    have Kel : Aside0 (T = (acc2 ++ [cutO p (o.f0 - fr) (Bv - o.f0)]) ++ (refP (d.l.drop (j + 1)) t o.f0 Bv ++ rest)) := ⟨by rw [KT4.out, refO, Kab.out.1, Kab.out.2, if_pos hab, Kt.out.1, List.append_assoc]⟩
                    have dp : decide (0 < p.f1) = true := decide_eq_true hp1
                    have dp2 : (p.f1 == 0) = false := by simp; omega
                    obtain ⟨el, hel⟩ : ∃ el : S37, el = ⟨p.f0 + o.f0 - fr, Bv - o.f0, []⟩ := ⟨_, rfl⟩
                    have Kee : Aside0 (cutO p (o.f0 - fr) (Bv - o.f0) = el) := ⟨by rw [hel]; unfold cutO; rw [if_pos hp1]; congr 1; omega⟩
                    have Khel := Aside0.mk hel
                    clear hA hB hab hp1 hel
                    go_wp2
                    go_quiet (fail)
                    generalize hwq : World.drewN _ _ = wq
                    have Kxm : Aside0 (XS w (fun k => (sp k ∨ k = b8) ∨ k = wr.heap.size) wq xb ⟨d.a, f.b, d.c, f.d, []⟩ ov acc2) := ⟨by rw [← hwq]; exact Kxq.out.keep (pw_below_drewN (Below.refl _ _) _)⟩
                    have KBm : Aside0 (B3 w d f (some ad2) c (some ad) cb nd nf wq) := ⟨by rw [← hwq]; exact KBa.out.keep (pw_below_drewN (Below.refl _ _) _)⟩
                    have KOm : Aside0 (wq.heap[b8]? = some (.cells #[.int .i64 o.f0, .int .i64 o.f1, .slice Bo lo co] 37 (0, 0))) := ⟨by rw [← hwq]; exact blk_drewN KOa.out _⟩
                    have KPm : Aside0 (wq.heap[wr.heap.size]? = some (.cells #[.int .i64 p.f0, .int .i64 p.f1, .slice Bp lp cp] 37 (0, 0))) := ⟨by rw [← hwq]; exact blk_drewN KPa.out _⟩
                    clear hwq r0 r1 r2 z0 z1 z2 z3 z4 y0 y1 y2 q0 q1 q2 q3 q4 v0 v1 v2
                    obtain ⟨z0, z1, z2, z3, z4⟩ := Kxm.out.box.cells
                    obtain ⟨r0, r1, r2⟩ := obox_cells KPm.out
                    go_wp2_with ((with_reducible refine gate_builtin (b := .append) (xs := #[.tmp 111, .tmp 122]) rfl ?_); apply Aside0.out)
                    refine ⟨?_⟩
                    refine Kd.N_append k37 (w0 := w) w.heap.size rfl (.tmp 111) (.tmp 122) 25 37 (.agg #[(.int .i64 0), (.int .i64 0), (.slice none 0 0)]) 40 rfl Try.underlying25 info37 rfl (by decide) (by omega) ov acc2 el [.int .i64 (p.f0 + o.f0 - fr), .int .i64 (Bv - o.f0), .slice none 0 0] (fun k => ¬ ((sp k ∨ k = b8) ∨ k = wr.heap.size)) (fun k => (¬ ((sp k ∨ k = b8) ∨ k = wr.heap.size)) ∧ some k ≠ ov.ownBlock) rfl rfl ?aF (fun _ hk => hk) ?aO Kxm.out.ops Kxm.out.below Kxm.out.below.size ?aL ?_
                    case aF => rw [Khel.out]; exact k37_mkF _ _ (⟨p.f0 + o.f0 - fr, Bv - o.f0, []⟩ : S37) (Nat.le_refl _) (Kd.F_nil _ _ _)
                    case aO => intro k hk hs; have := Kxm.out.lt k hs; omega
                    case aL => have := hacc.out; omega
                    intro v5 w5 hN5 hB5 hg5 hat5
                    obtain ⟨A5, C5, hv5⟩ := Kd.N_slice hN5
                    obtain ⟨l5, hl5⟩ : ∃ l5, l5 = (acc2 ++ [el]).length := ⟨_, rfl⟩
                    rw [← hl5] at hv5
                    subst hv5
                    have hX5 := Kxm.out.grown hg5
                    have xf5 : w5.frozen? ⟨xb, 4, none⟩ = false := blk_frozen hX5 4
                    have x5 : w5.cell? ⟨xb, 4, none⟩ = some ov := hX5.cells.2.2.2.2
                    have KX6 := Aside0.mk (Kxm.out.push hg5 hB5 hN5)
                    have KB6 := Aside0.mk (KBm.out.else_ KX6.out.below ((Kxm.out.else_ hg5).trans (else_set (j := 4) (u := .slice A5 l5 C5))) hxz)
                    have KO6 : Aside0 ((w5.setCell ⟨xb, 4, none⟩ (.slice A5 l5 C5)).heap[b8]? = some (.cells #[.int .i64 o.f0, .int .i64 o.f1, .slice Bo lo co] 37 (0, 0))) := ⟨(Below.heap_setCell _ ⟨xb, 4, none⟩ _ b8 (by have := Kxb8.out; show b8 ≠ xb; omega)).trans ((Kxm.out.sp_block hg5 (Or.inl (Or.inr rfl))).trans KOm.out)⟩
                    have KP6 : Aside0 ((w5.setCell ⟨xb, 4, none⟩ (.slice A5 l5 C5)).heap[wr.heap.size]? = some (.cells #[.int .i64 p.f0, .int .i64 p.f1, .slice Bp lp cp] 37 (0, 0))) := ⟨(Below.heap_setCell _ ⟨xb, 4, none⟩ _ wr.heap.size (by show wr.heap.size ≠ xb; omega)).trans ((Kxm.out.sp_block hg5 (Or.inr rfl)).trans KPm.out)⟩
                    obtain ⟨m0, m1, m2⟩ := obox_cells KP6.out
                    clear hN5 hB5 hg5 hat5 hX5 hl5 z0 z1 z2 z3 z4 r0 r1 r2
                    go_wp2
                    refine ⟨⟨j + 1, t, hlt2, by go_num, rfl, by omega, ht2, ⟨⟨_, acc2 ++ [el], KX6.out.less (Or.inl Kspx.out), KB6.out, KO6.out, by rw [Kel.out, Kee.out], KR5.out⟩⟩⟩, by simp [intOf]; omega⟩
                  · have dA : decide (o.f0 < fr) = false := decide_eq_false hA
                    have dB : decide (t < Bv) = false := decide_eq_false hB
                    have Kab : Aside0 (aOf fr o.f0 = o.f0 ∧ bOf (fr + ol p) Bv = Bv) := ⟨by rw [Kt.out.1]; exact ⟨if_neg hA, if_neg hB⟩⟩
                    have KR5 : Aside0 (rightL d.a (d.b - t) (d.l.drop (j + 1)) = true) := ⟨by have := Kg.out.2.2; rwa [show d.b - fr - ol p = d.b - t by have := Kt.out; omega] at this⟩
                    have dab : decide (o.f0 < Bv) = true := decide_eq_true hab
                    have Kel : Aside0 (T = (acc2 ++ [cutO p (o.f0 - fr) (Bv - o.f0)]) ++ (refP (d.l.drop (j + 1)) t o.f0 Bv ++ rest)) := ⟨by rw [KT4.out, refO, Kab.out.1, Kab.out.2, if_pos hab, Kt.out.1, List.append_assoc]⟩
                    have hz2 : p.f1 = 0 := by omega
                    have dp : decide (0 < p.f1) = false := decide_eq_false hp1
                    have dp2 : (p.f1 == 0) = true := by simp [hz2]
                    obtain ⟨pa, hpa⟩ : ∃ pa : Nat, (pa : Int) = o.f0 - fr := ⟨(o.f0 - fr).toNat, by omega⟩
                    obtain ⟨pb, hpb⟩ : ∃ pb : Nat, (pb : Int) = Bv - fr := ⟨(Bv - fr).toNat, by omega⟩
                    have hpab : pa ≤ pb := by omega
                    have hpbl : pb ≤ lp := by have := Kht0.out; omega
                    obtain ⟨AL, nn, cL, hnn, hncL, hcut, hCL⟩ := cut_mid2 Bp cp p.f2 pa pb hpab (by rw [← Klp.out]; exact hpbl) Kcp.out.2
                    rw [← Klp.out] at hcut
                    obtain ⟨el, hel⟩ : ∃ el : S37, el = ⟨0, 0, (p.f2.drop pa).take (pb - pa)⟩ := ⟨_, rfl⟩
                    have Kee : Aside0 (cutO p (o.f0 - fr) (Bv - o.f0) = el) := ⟨by rw [hel]; unfold cutO; rw [if_neg hp1, ← hpa, Int.toNat_natCast, show (Bv - o.f0).toNat = pb - pa by omega]⟩
                    have Khel := Aside0.mk hel
                    have hell : el.f2.length = nn := by rw [hel]; exact hnn
                    have Khell := Aside0.mk hell
                    have KCL : Aside0 (Kd.C (Kd.int .u8) w AL el.f2.length el.f2) := ⟨by rw [hel]; exact hCL w Kcp.out.1⟩
                    have Kwa : Aside0 (wrap64 (o.f0 - fr) = pa ∧ IntKind.i64.wrap (o.f0 - fr) = pa) := ⟨by rw [← hpa]; exact ⟨wrap_in (by omega), IntWalk.i64_in _ (by omega)⟩⟩
                    have Kwb : Aside0 (wrap64 (Bv - fr) = pb ∧ IntKind.i64.wrap (Bv - fr) = pb) := ⟨by rw [← hpb]; exact ⟨wrap_in (by omega), IntWalk.i64_in _ (by omega)⟩⟩
                    have Kcut := Aside0.mk hcut
                    have hf00 : el.f0 = 0 := by rw [hel]
                    have hf10 : el.f1 = 0 := by rw [hel]
                    have Kf := Aside0.mk (And.intro hf00 hf10)
                    clear hA hB hab hp1 hel hpa hpb hpab hpbl hnn hCL hell hf00 hf10 hz2 hcut
                    go_wp2
                    go_quiet (fail)
                    generalize hwq : World.drewN _ _ = wq
                    have Kxm : Aside0 (XS w (fun k => (sp k ∨ k = b8) ∨ k = wr.heap.size) wq xb ⟨d.a, f.b, d.c, f.d, []⟩ ov acc2) := ⟨by rw [← hwq]; exact Kxq.out.keep (pw_below_drewN (Below.refl _ _) _)⟩
                    have KBm : Aside0 (B3 w d f (some ad2) c (some ad) cb nd nf wq) := ⟨by rw [← hwq]; exact KBa.out.keep (pw_below_drewN (Below.refl _ _) _)⟩
                    have KOm : Aside0 (wq.heap[b8]? = some (.cells #[.int .i64 o.f0, .int .i64 o.f1, .slice Bo lo co] 37 (0, 0))) := ⟨by rw [← hwq]; exact blk_drewN KOa.out _⟩
                    have KPm : Aside0 (wq.heap[wr.heap.size]? = some (.cells #[.int .i64 p.f0, .int .i64 p.f1, .slice Bp lp cp] 37 (0, 0))) := ⟨by rw [← hwq]; exact blk_drewN KPa.out _⟩
                    clear hwq r0 r1 r2 z0 z1 z2 z3 z4 y0 y1 y2 q0 q1 q2 q3 q4 v0 v1 v2
                    obtain ⟨z0, z1, z2, z3, z4⟩ := Kxm.out.box.cells
                    obtain ⟨r0, r1, r2⟩ := obox_cells KPm.out
                    go_wp2
                    refine start_ (n := 16) (S := fun w' => w'.cell? ⟨xb, 4, none⟩ = some ov ∧ w'.cell? ⟨wr.heap.size, 2, none⟩ = some (.slice Bp lp cp)) (ds := [13, 15]) #[false, false, false, false, false, false, false, false, false, false, false, false, false, false, false, false] (by kernel_rfl) rfl rfl ⟨(show wq.cell? _ = _ from z4), (show wq.cell? _ = _ from r2)⟩ (fun hHeld => ?_)
                    refine pure_ (i := 0) (N := some 133) (v := ?_) (a' := ?_) #[true, false, false, false, false, false, false, false, false, false, false, false, false, false, false, false] rfl rfl (by kernel_rfl) (fun _ _ _ h => h) (Or.inl ⟨by rfl, ?_⟩) ?_ ?_
                    rotate_left
                    · intro w'
                      go_simp
                      with_reducible rfl
                    rotate_left
                    · simp only [Act.put, List.setIfInBounds_toArray, List.set_cons_zero, List.set_cons_succ, i64_w, i32_w]
                      rfl
                    refine pure_ (i := 2) (N := some 135) (v := ?_) (a' := ?_) #[true, false, true, false, false, false, false, false, false, false, false, false, false, false, false, false] rfl rfl (by kernel_rfl) (fun _ _ _ h => h) (Or.inl ⟨by rfl, ?_⟩) ?_ ?_
                    rotate_left
                    · intro w'
                      go_simp
                      with_reducible rfl
                    rotate_left
                    · simp only [Act.put, List.setIfInBounds_toArray, List.set_cons_zero, List.set_cons_succ, i64_w, i32_w]
                      rfl
                    refine pure_ (i := 4) (N := some 137) (v := ?_) (a' := ?_) #[true, false, true, false, true, false, false, false, false, false, false, false, false, false, false, false] rfl rfl (by kernel_rfl) (fun _ _ _ h => h) (Or.inl ⟨by rfl, ?_⟩) ?_ ?_
                    rotate_left
                    · intro w'
                      go_simp
                      with_reducible rfl
                    rotate_left
                    · simp only [Act.put, List.setIfInBounds_toArray, List.set_cons_zero, List.set_cons_succ, i64_w, i32_w]
                      rfl
                    refine pure_ (i := 5) (N := some 138) (v := ?_) (a' := ?_) #[true, false, true, false, true, true, false, false, false, false, false, false, false, false, false, false] rfl rfl (by kernel_rfl) (fun _ _ _ h => h) (Or.inl ⟨by rfl, ?_⟩) ?_ ?_
                    rotate_left
                    · intro w'
                      go_simp
                      with_reducible rfl
                    rotate_left
                    · simp only [Act.put, List.setIfInBounds_toArray, List.set_cons_zero, List.set_cons_succ, i64_w, i32_w]
                      rfl
                    refine pure_ (i := 6) (N := some 139) (v := .int .i64 (pa : Int)) (a' := ?_) #[true, false, true, false, true, true, true, false, false, false, false, false, false, false, false, false] rfl rfl (by kernel_rfl) (fun _ _ _ h => h) (Or.inl ⟨by rfl, ?_⟩) ?_ ?_
                    · intro w'
                      (have hw := Kwa.out)
                      go_simp
                      (try simp only [i64_w, hw])
                      (try rfl)
                      (try exact wrap_in (by omega))
                    rotate_left
                    · simp only [Act.put, List.setIfInBounds_toArray, List.set_cons_zero, List.set_cons_succ, i64_w, i32_w]
                      rfl
                    refine pure_ (i := 7) (N := some 140) (v := ?_) (a' := ?_) #[true, false, true, false, true, true, true, true, false, false, false, false, false, false, false, false] rfl rfl (by kernel_rfl) (fun _ _ _ h => h) (Or.inl ⟨by rfl, ?_⟩) ?_ ?_
                    rotate_left
                    · intro w'
                      go_simp
                      with_reducible rfl
                    rotate_left
                    · simp only [Act.put, List.setIfInBounds_toArray, List.set_cons_zero, List.set_cons_succ, i64_w, i32_w]
                      rfl
                    refine pure_ (i := 8) (N := some 141) (v := ?_) (a' := ?_) #[true, false, true, false, true, true, true, true, true, false, false, false, false, false, false, false] rfl rfl (by kernel_rfl) (fun _ _ _ h => h) (Or.inl ⟨by rfl, ?_⟩) ?_ ?_
                    rotate_left
                    · intro w'
                      go_simp
                      with_reducible rfl
                    rotate_left
                    · simp only [Act.put, List.setIfInBounds_toArray, List.set_cons_zero, List.set_cons_succ, i64_w, i32_w]
                      rfl
                    refine pure_ (i := 9) (N := some 142) (v := .int .i64 (pb : Int)) (a' := ?_) #[true, false, true, false, true, true, true, true, true, true, false, false, false, false, false, false] rfl rfl (by kernel_rfl) (fun _ _ _ h => h) (Or.inl ⟨by rfl, ?_⟩) ?_ ?_
                    · intro w'
                      (have hw := Kwb.out)
                      go_simp
                      (try simp only [i64_w, hw])
                      (try rfl)
                    rotate_left
                    · simp only [Act.put, List.setIfInBounds_toArray, List.set_cons_zero, List.set_cons_succ, i64_w, i32_w]
                      rfl
                    refine take_ (i := 1) (N := some 134) (v := ?_) (a' := ?_) #[true, true, true, false, true, true, true, true, true, true, false, false, false, false, false, false] rfl rfl (by kernel_rfl) (fun _ _ _ h => h) (Or.inl ⟨by rfl, ?_⟩) hHeld ?_ ?_
                    rotate_left
                    · rintro w' ⟨s0, s1⟩
                      go_simp
                      with_reducible rfl
                    rotate_left
                    · simp only [Act.put, List.setIfInBounds_toArray, List.set_cons_zero, List.set_cons_succ, i64_w, i32_w]
                      rfl
                    refine take_ (i := 3) (N := some 136) (v := ?_) (a' := ?_) #[true, true, true, true, true, true, true, true, true, true, false, false, false, false, false, false] rfl rfl (by kernel_rfl) (fun _ _ _ h => h) (Or.inl ⟨by rfl, ?_⟩) hHeld ?_ ?_
                    rotate_left
                    · rintro w' ⟨s0, s1⟩
                      go_simp
                      with_reducible rfl
                    rotate_left
                    · simp only [Act.put, List.setIfInBounds_toArray, List.set_cons_zero, List.set_cons_succ, i64_w, i32_w]
                      rfl
                    refine pure_ (i := 10) (N := some 143) (v := .slice AL nn cL) (a' := ?_) #[true, true, true, true, true, true, true, true, true, true, true, false, false, false, false, false] rfl rfl (by kernel_rfl) (fun _ _ _ h => h) (Or.inl ⟨by rfl, ?_⟩) ?_ ?_
                    · intro w'
                      (have hcut := Kcut.out)
                      go_simp
                      (try simp only [hcut])
                      (try rfl)
                    rotate_left
                    · simp only [Act.put, List.setIfInBounds_toArray, List.set_cons_zero, List.set_cons_succ, i64_w, i32_w]
                      rfl
                    refine pure_ (i := 11) (N := some 144) (v := ?_) (a' := ?_) #[true, true, true, true, true, true, true, true, true, true, true, true, false, false, false, false] rfl rfl (by kernel_rfl) (fun _ _ _ h => h) (Or.inl ⟨by rfl, ?_⟩) ?_ ?_
                    rotate_left
                    · intro w'
                      go_simp
                      with_reducible rfl
                    rotate_left
                    · simp only [Act.put, List.setIfInBounds_toArray, List.set_cons_zero, List.set_cons_succ, i64_w, i32_w]
                      rfl
                    refine one_ (i := 12) (N := some 145) #[true, true, true, true, true, true, true, true, true, true, true, true, true, false, false, false] rfl rfl (by kernel_rfl) (by decide) (fun K hK => ?_)
                    refine value_ (w1 := ?_) (v := ?_) (by rfl) rfl ?_ ?_
                    rotate_left 2
                    · go_simp
                      constructor
                      · rfl
                      · rfl
                    refine hK.out _ _ ⟨((cell_of_row _ _ _ _ _ _ (blk_alloc (show wq.drew.heap[xb]? = _ from Kxm.out.box) _)).trans rfl), ((cell_of_row _ _ _ _ _ _ (blk_alloc (show wq.drew.heap[wr.heap.size]? = _ from KPm.out) _)).trans rfl)⟩ (fun hHeld => ?_)
                    clear hK K
                    refine norm_ (a' := ?_) ?_ ?_
                    rotate_left
                    · show Act.put _ (some 145) _ = _
                      simp only [Act.put, List.setIfInBounds_toArray, List.set_cons_zero, List.set_cons_succ, i64_w, i32_w]
                      rfl
                    refine last_ (i := 13) (N := some 146) #[true, true, true, true, true, true, true, true, true, true, true, true, true, true, false, false] rfl rfl (by kernel_rfl) (by decide) (fun K hK => ?_)
                    refine Kd.N_append_step k37 (w0 := w) (W := wq.drew) w.heap.size (by rfl) (.tmp 134) (.tmp 145) 25 37 (.agg #[(.int .i64 0), (.int .i64 0), (.slice none 0 0)]) 40 rfl Try.underlying25 info37 rfl (by decide) (by omega) ov acc2 el [.int .i64 0, .int .i64 0, .slice AL nn cL] (fun k => ¬ ((sp k ∨ k = b8) ∨ k = wr.heap.size)) (fun k => (¬ ((sp k ∨ k = b8) ∨ k = wr.heap.size)) ∧ some k ≠ ov.ownBlock) rfl rfl (dataFK (Kxm.out.keep (below_drew (Below.refl _ _))) (fun k hk => sp3 Kspw.out Kxm.out.xg Kxb8.out Kwrs.out k hk) KCL.out Khell.out hncL Kf.out) (fun _ hk => hk) (fun k hk hs => absurd (Kxm.out.lt k hs) (by have h9 : wq.heap.size ≤ k := hk; omega)) (Kd.N_drew Kxm.out.ops) (below_drew Kxm.out.below) Kxm.out.below.size (by have := hacc.out; omega) ?_; intro v5 w5 hN5 hB5 hg5 hat5; obtain ⟨A5, C5, hv5⟩ := Kd.N_slice hN5; obtain ⟨l5, hl5⟩ : ∃ l5, l5 = (acc2 ++ [el]).length := ⟨_, rfl⟩; rw [← hl5] at hv5; subst hv5; have hX5 := (Kxm.out.keep (below_drew (Below.refl _ _))).grown hg5; have xf5 : w5.frozen? ⟨xb, 4, none⟩ = false := blk_frozen hX5 4; have x5 : w5.cell? ⟨xb, 4, none⟩ = some ov := hX5.cells.2.2.2.2; have KX6 := Aside0.mk ((Kxm.out.keep (below_drew (Below.refl _ _))).push hg5 hB5 hN5); have KB6 := Aside0.mk ((KBm.out.keep (below_drew (Below.refl _ _))).else_ KX6.out.below (((Kxm.out.keep (below_drew (Below.refl _ _))).else_ hg5).trans (else_set (j := 4) (u := .slice A5 l5 C5))) hxz); have KO6 : Aside0 ((w5.setCell ⟨xb, 4, none⟩ (.slice A5 l5 C5)).heap[b8]? = some (.cells #[.int .i64 o.f0, .int .i64 o.f1, .slice Bo lo co] 37 (0, 0))) := ⟨(Below.heap_setCell _ ⟨xb, 4, none⟩ _ b8 (by have := Kxb8.out; show b8 ≠ xb; omega)).trans (((Kxm.out.keep (below_drew (Below.refl _ _))).sp_block hg5 (Or.inl (Or.inr rfl))).trans KOm.out)⟩; have KP6 : Aside0 ((w5.setCell ⟨xb, 4, none⟩ (.slice A5 l5 C5)).heap[wr.heap.size]? = some (.cells #[.int .i64 p.f0, .int .i64 p.f1, .slice Bp lp cp] 37 (0, 0))) := ⟨(Below.heap_setCell _ ⟨xb, 4, none⟩ _ wr.heap.size (by show wr.heap.size ≠ xb; omega)).trans (((Kxm.out.keep (below_drew (Below.refl _ _))).sp_block hg5 (Or.inr rfl)).trans KPm.out)⟩; obtain ⟨m0, m1, m2⟩ := obox_cells KP6.out; have e1 : w5.cell? ⟨wr.heap.size, 2, none⟩ = some (.slice Bp lp cp) := (cell_of_row _ _ _ _ _ _ (((Kxm.out.keep (below_drew (Below.refl _ _))).sp_block hg5 (Or.inr rfl)).trans KPm.out)).trans rfl; clear hN5 hB5 hg5 hat5 hX5 hl5 z0 z1 z2 z3 z4 r0 r1 r2
                    refine hK.out _ _ ?_
                    clear hK K
                    refine norm_ (a' := ?_) ?_ ?_
                    rotate_left
                    · show Act.put _ (some 146) _ = _
                      simp only [Act.put, List.setIfInBounds_toArray, List.set_cons_zero, List.set_cons_succ, i64_w, i32_w]
                      rfl
                    refine pure_ (i := 14) (N := some 147) (v := ?_) (a' := ?_) #[true, true, true, true, true, true, true, true, true, true, true, true, true, true, true, false] rfl rfl (by kernel_rfl) (fun _ _ _ h => h) (Or.inl ⟨by rfl, ?_⟩) ?_ ?_
                    rotate_left
                    · intro w'
                      go_simp
                      with_reducible rfl
                    rotate_left
                    · simp only [Act.put, List.setIfInBounds_toArray, List.set_cons_zero, List.set_cons_succ, i64_w, i32_w]
                      rfl
                    refine last_ (i := 15) (N := none) #[true, true, true, true, true, true, true, true, true, true, true, true, true, true, true, true] rfl rfl (by kernel_rfl) (by decide) (fun K hK => ?_)
                    refine skip_ (w1 := ?_) (by rfl) rfl ?_ ?_
                    rotate_left
                    · go_simp
                      rfl
                    refine hK.out _ _ ?_
                    clear hK K
                    refine done_ (by kernel_rfl) ?_
                    try clear hHeld
                    go_wp2
                    refine ⟨⟨j + 1, t, hlt2, by go_num, rfl, by omega, ht2, ⟨⟨_, acc2 ++ [el], KX6.out.less (Or.inl Kspx.out), KB6.out, KO6.out, by rw [Kel.out, Kee.out], KR5.out⟩⟩⟩, by simp [intOf]; omega⟩
                · exact absurd hBp hab
          · obtain rfl : j = nd := by omega
            have KT5 : Aside0 (T = acc2 ++ joinP d.l (f.l.drop (k + 1))) := ⟨by rw [KTT.out, Knd.out, List.drop_length, ← Krest.out]; rfl⟩
            have KX5 := Aside0.mk (KX.out.less Kspx.out)
            clear v0 v1 v2
            go_wp2
            refine ⟨⟨k + 1, hlt, by go_num, ⟨⟨_, acc2, KX5.out, KB.out, KT5.out⟩⟩⟩, by simp [intOf]; omega⟩
    · obtain rfl : k = nf := by omega
      have hTa : Aside0 (T = acc) := ⟨by rw [KTT.out, Knf.out, List.drop_length]; simp [joinP]⟩
      obtain ⟨A5, C5, hv5⟩ := Kd.N_slice KX.out.ops
      obtain ⟨la, hla⟩ : ∃ la, la = acc.length := ⟨_, rfl⟩
      rw [← hla] at hv5
      subst hv5
      have hlb : la ≤ 8388608 := by rw [hla, ← hTa.out]; exact Kj.out
      have Kla := Aside0.mk hla
      clear hla
      go_wp2_with ((with_reducible refine gate_store (t := 27) (p := 4) rfl ?_); apply Aside0.out)
      refine ⟨?_⟩
      refine store_del rfl (.tmp 4) (.tmp 154) rfl (w.heap.size + 1 + 1) _ _ rfl rfl KB.out.z rfl rfl (by simp [Value.oneCell']) ?_
      intro w7 hg hB hE hS
      have KB7 := Aside0.mk (hB _ _ (by omega) KB.out.below)
      have KZ7 := Aside0.mk hg
      have hN7 := Kd.N_step KX.out.ops (w1 := w7) (fun k hk _ => hE k (fun e => hk (by rw [Ksp.out]; exact Or.inr (Or.inr (Or.inl e)))))
      obtain ⟨-, g2, g3⟩ := Kd.N_reads' hN7
      have KN7 := Aside0.mk g3
      clear hg hB hE hS x0 x1 x2 x3 x4 hN7 g3 p0 p1 p2 p3 p4
      go_wp2
      refine bodyPost_ret (results_list (rs := [.cell 4 27, .tmp 5]) rfl (by simp) (.cell (w.heap.size + 1 + 1) 27 _ _ _ rfl KZ7.out Try.underlying27 rfl szDel (.tmp .nil))) rfl ?_
      exact ⟨A5, C5, by rw [hTa.out, ← Kla.out]; rfl, by rw [hTa.out]; exact KN7.out, by rw [hTa.out, ← Kla.out]; exact g2, KB7.out⟩
end Go.Proofs.Ytogplkochcalpaa.De
