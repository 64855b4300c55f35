/- A flash memory: shapes kept; the page's example. -/
import Derived.Test.YtepmgkmbmejkjaaFl7
import Derived.Lib.SlBytesConst
import Derived.Lib.Bytes
set_option linter.unusedVariables false
set_option linter.unusedSimpArgs false
namespace Go.Proofs.Ytepmgkmbmejkjaa.Fl
open Go.RowKit Go.Proofs.YtepmgkmbmejkjaaW.PrintWords Go.Proofs.YtepmgkmbmejkjaaW.PrintLast Go.Proofs.YtepmgkmbmejkjaaW.PrintMore
section
variable {w w' : World} {base f gb gd gw : Nat} {tv : Value} {x : Fl}
/-- Rows of others' stay. -/
theorem ownB_ch {b0 : Nat} {v : Value} {xs : List Int} (h : Row.OwnB w b0 v xs) (hc : Ch base w w' f gb gd gw) (h1 : f < b0) (h2 : gb < b0) (h3 : gd < b0) (h4 : gw < b0) : Row.OwnB w' b0 v xs :=
  Kd.R_mono (Kd.R_move (Kd.R_bound h) (fun k hk => by have := hk.2.1; exact hc.rest k hk.2.2.1 (by omega) (by omega) (by omega) (by omega))) (fun _ hk => hk.1)
/-- A row behind the flash, read. -/
theorem lit_ch {g : Nat} {ys : List Int} (hM : Mem w g ys) (hm : ys.length ≤ 9223372036854775807) (h1 : f < g) (h2 : gb < g) (h3 : gd < g) (h4 : gw < g) : ∀ w', Ch base w w' f gb gd gw → Kd.C (Kd.int .u8) w' (some ⟨g, 0, none⟩) ys.length ys :=
  fun w' hc => mem_C ((hc.rest g (blk_lt hM) (by omega) (by omega) (by omega) (by omega)).trans hM) hm
theorem C_ch {b0 n : Nat} {A : Option Addr} {ys : List Int} (hM : Row.OwnB w b0 (.slice A ys.length n) ys) (h1 : f < b0) (h2 : gb < b0) (h3 : gd < b0) (h4 : gw < b0) : ∀ w', Ch base w w' f gb gd gw → Kd.C (Kd.int .u8) w' A ys.length ys :=
  fun w' hc => (Row.OwnB.reads (ownB_ch hM hc h1 h2 h3 h4)).2.2
theorem write_lit (h : FM w base f gb gd gw tv x) (hs : Shape x) {k : Nat} (hlow : Low x k) (hk : k ≤ 1000000) (page : Int) (hp : -9223372036854775808 ≤ page ∧ page ≤ 9223372036854775807) (ys : List Int) (inner : Array Value) (hi : inner.toList = nums .u8 ys) (n : Nat) (hn : n = ys.length) (hl : ys.length ≤ 1000) :
    Calls Try.prog 17 #[.pointer (some ⟨f, 0, none⟩), .int .i64 page, .slice (some ⟨w.heap.size, 0, none⟩) n n] (w.alloc (.cells inner 5)) fun e w' => e = .returned (.int .i64 (writeP x page ys).2) ∧ FM w' base f gb gd gw tv (writeP x page ys).1 ∧ Ch base w w' f gb gd gw := by
  subst hn
  have hb : Below w.heap.size w (w.alloc (.cells inner 5)) := below_alloc (Below.refl _ _) _
  have hM : Mem (w.alloc (.cells inner 5)) w.heap.size ys := by
    unfold Mem
    rw [← hi, Array.toArray_toList]
    exact heap_alloc_new w _
  obtain ⟨q1, q2, q3, q4⟩ := h.lt
  refine (write_any (h.below hb) hs hlow hk page _ _ ys (lit_ch hM (by omega) q1 q2 q3 q4) hp).mono ?_
  rintro e w2 ⟨rfl, h2, h3⟩
  exact ⟨rfl, h2, ((Ch.refl base w f gb gd gw).below_ h.size hb).trans h3⟩
/-- The same sizes. -/
def SameG (x y : Fl) : Prop := y.S = x.S ∧ y.P = x.P ∧ y.B = x.B
theorem shape_of {y : Fl} (h : Shape x) (hg : SameG x y) (h1 : y.mem.length = x.mem.length) (h2 : y.dirty.length = x.dirty.length) (h3 : y.worn.length = x.worn.length) : Shape y := by
  obtain ⟨e1, e2, e3⟩ := hg
  exact ⟨by rw [e1]; exact h.s1, by rw [e2]; exact h.p1, by rw [e3]; exact h.b1, by rw [e1, e2, e3]; exact h.all, by rw [h1, e1, e2, e3]; exact h.mem, by rw [h2, e1, e2]; exact h.dirty, by rw [h3, e1]; exact h.worn⟩
theorem splice_len {α : Type} (L : List α) (o : Nat) (cs : List α) (h : o + cs.length ≤ L.length) : (splice L o cs).length = L.length := length_splice _ _ _ h
theorem write_shape (hs : Shape x) (page : Int) (b : List Int) : Shape (writeP x page b).1 ∧ SameG x (writeP x page b).1 := by
  unfold writeP
  split
  · rename_i hin
    obtain ⟨p, rfl⟩ := Int.eq_ofNat_of_zero_le hin.1
    have hpd : p < x.S * x.P := by have := hin.2; rw [hs.dirty] at this; omega
    have hfit := page_fits hs hpd
    split
    · exact ⟨hs, rfl, rfl, rfl⟩
    · rename_i hlong
      split
      · exact ⟨hs, rfl, rfl, rfl⟩
      split
      · exact ⟨hs, rfl, rfl, rfl⟩
      rw [Int.toNat_natCast]
      have l1 : (splice x.mem (p * x.B) (List.replicate x.B (255 : Int))).length = x.mem.length := length_splice _ _ _ (by rw [List.length_replicate]; exact hfit)
      have l2 : (splice (splice x.mem (p * x.B) (List.replicate x.B (255 : Int))) (p * x.B) b).length = x.mem.length := by rw [length_splice _ _ _ (by rw [l1]; omega)]; exact l1
      obtain ⟨x1, hx1⟩ : ∃ x1, x1 = { x with dirty := x.dirty.set p true, mem := splice (splice x.mem (p * x.B) (List.replicate x.B 255)) (p * x.B) b } := ⟨_, rfl⟩
      rw [← hx1]
      have hs1 : Shape x1 := shape_of hs (by rw [hx1]; exact ⟨rfl, rfl, rfl⟩) (by rw [hx1]; exact l2) (by rw [hx1]; simp) (by rw [hx1])
      have hg1 : SameG x x1 := by rw [hx1]; exact ⟨rfl, rfl, rfl⟩
      obtain ⟨e1, e2, e3, e4, e5, e6, e7, e8⟩ := fails_same x1
      have hm1 : x1.mem.length = x.mem.length := by rw [hx1]; exact l2
      dsimp only
      have hg2 : SameG x (failsP x1).2 := ⟨e1.trans hg1.1, e2.trans hg1.2.1, e3.trans hg1.2.2⟩
      split
      · refine ⟨shape_of (x := x1) hs1 ⟨e1, e2, e3⟩ ?_ (by simp only; rw [e5]) (by simp only; rw [e6]), hg2⟩
        simp only
        rw [length_splice _ _ _ (by rw [List.length_take, e4, hm1]; omega), e4]
      · exact ⟨shape_of (x := x1) hs1 ⟨e1, e2, e3⟩ (by rw [e4]) (by rw [e5]) (by rw [e6]), hg2⟩
  · exact ⟨hs, rfl, rfl, rfl⟩
theorem erase_shape (hs : Shape x) (sec : Int) : Shape (eraseP x sec).1 ∧ SameG x (eraseP x sec).1 := by
  unfold eraseP
  split
  · rename_i hin
    obtain ⟨s, rfl⟩ := Int.eq_ofNat_of_zero_le hin.1
    have hsS : s < x.S := by have := hin.2; rw [hs.worn] at this; omega
    obtain ⟨hfit, hfitd⟩ := sector_fits hs hsS
    split
    · exact ⟨hs, rfl, rfl, rfl⟩
    rw [Int.toNat_natCast]
    obtain ⟨x1, hx1⟩ : ∃ x1, x1 = { x with worn := x.worn.set s (x.worn.getD s 0 + 1) } := ⟨_, rfl⟩
    rw [← hx1]
    have hg1 : SameG x x1 := by rw [hx1]; exact ⟨rfl, rfl, rfl⟩
    have hs1 : Shape x1 := shape_of hs hg1 (by rw [hx1]) (by rw [hx1]) (by rw [hx1]; simp)
    obtain ⟨e1, e2, e3, e4, e5, e6, e7, e8⟩ := fails_same x1
    have hm1 : x1.mem.length = x.mem.length := by rw [hx1]
    have hd1 : x1.dirty.length = x.dirty.length := by rw [hx1]
    dsimp only
    have hg2 : SameG x (failsP x1).2 := ⟨e1.trans hg1.1, e2.trans hg1.2.1, e3.trans hg1.2.2⟩
    split
    · refine ⟨shape_of (x := x1) hs1 ⟨e1, e2, e3⟩ ?_ ?_ (by simp only; rw [e6]), hg2⟩
      · simp only
        rw [length_splice _ _ _ (by rw [List.length_take, e4, hm1]; omega), e4]
      · simp only
        rw [length_splice _ _ _ (by rw [List.length_replicate, e5, hd1]; omega), e5]
    · refine ⟨shape_of (x := x1) hs1 ⟨e1, e2, e3⟩ ?_ ?_ (by simp only; rw [e6]), hg2⟩
      · simp only
        rw [length_splice _ _ _ (by rw [List.length_replicate, e4, hm1]; omega), e4]
      · simp only
        rw [length_splice _ _ _ (by rw [List.length_replicate, e5, hd1]; omega), e5]
  · exact ⟨hs, rfl, rfl, rfl⟩
theorem Low.mono {k k' : Nat} (h : Low x k) (hk : k ≤ k') : Low x k' := ⟨Nat.le_trans h.ops hk, fun v hv => by have := h.worn v hv; omega, h.arm⟩
theorem write_low {k : Nat} (h : Low x k) (page : Int) (b : List Int) : Low (writeP x page b).1 (k + 1) := by
  have h0 := h.mono (Nat.le_succ k)
  unfold writeP
  split
  · split
    · exact h0
    split
    · exact h0
    split
    · exact h0
    obtain ⟨x1, hx1⟩ : ∃ x1, x1 = { x with dirty := x.dirty.set page.toNat true, mem := splice (splice x.mem (page.toNat * x.B) (List.replicate x.B 255)) (page.toNat * x.B) b } := ⟨_, rfl⟩
    rw [← hx1]
    have h1 : Low x1 k := by rw [hx1]; exact ⟨h.ops, h.worn, h.arm⟩
    have h2 := fails_low h1
    dsimp only
    split
    · exact ⟨h2.ops, h2.worn, h2.arm⟩
    · exact h2
  · exact h0
theorem erase_low {k : Nat} (h : Low x k) (sec : Int) : Low (eraseP x sec).1 (k + 1) := by
  have h0 := h.mono (Nat.le_succ k)
  unfold eraseP
  split
  · rename_i hin
    split
    · exact h0
    obtain ⟨x1, hx1⟩ : ∃ x1, x1 = { x with worn := x.worn.set sec.toNat (x.worn.getD sec.toNat 0 + 1) } := ⟨_, rfl⟩
    rw [← hx1]
    obtain ⟨e1, e2, e3, e4, e5, e6, e7, e8⟩ := fails_same x1
    have hops : (failsP x1).2.ops ≤ k + 1 := by rw [e8, hx1]; have := h.ops; simp only; omega
    have harm : (failsP x1).2.armed = true → 1 ≤ (failsP x1).2.left ∧ (failsP x1).2.left ≤ 9223372036854775807 := by
      have hl : Low { x1 with worn := [] } k := ⟨(show x1.ops ≤ k by rw [hx1]; exact h.ops), (fun v hv => nomatch hv), (show x1.armed = true → 1 ≤ x1.left ∧ x1.left ≤ 9223372036854775807 by rw [hx1]; exact h.arm)⟩
      have := (fails_low hl).arm
      unfold failsP at this ⊢
      simp only at this
      split
      · rename_i ha
        rw [if_pos ha] at this
        split
        · rename_i hb
          rw [if_pos hb] at this
          exact this
        · rename_i hb
          rw [if_neg hb] at this
          exact this
      · rename_i ha
        rw [if_neg ha] at this
        exact this
    have hworn : ∀ v ∈ (failsP x1).2.worn, 0 ≤ v ∧ v ≤ ((k + 1 : Nat) : Int) := by
      rw [e6, hx1]
      intro v hv
      rcases List.mem_or_eq_of_mem_set hv with hv | rfl
      · exact h0.worn v hv
      · have : sec.toNat < x.worn.length := by omega
        have := h.worn (x.worn.getD sec.toNat 0) (by rw [List.getD_eq_getElem?_getD, List.getElem?_eq_getElem this]; exact List.getElem_mem this)
        omega
    dsimp only
    split
    · exact ⟨hops, hworn, harm⟩
    · exact ⟨hops, hworn, harm⟩
  · exact h0
theorem fresh_low (S P B : Nat) : Low (fresh S P B) 0 := ⟨Nat.le_refl _, fun v hv => by simp only [fresh, List.mem_replicate] at hv; omega, fun h => by cases h⟩
end
/-- The page's example, plain. -/
theorem ex_plain : (writeP (fresh 2 2 16) 1 [1, 2]).2 = 0 ∧ readP (writeP (fresh 2 2 16) 1 [1, 2]).1 16 3 = ([1, 2, 255], 0) ∧ writeP (writeP (fresh 2 2 16) 1 [1, 2]).1 1 [0] = ((writeP (fresh 2 2 16) 1 [1, 2]).1, 41) ∧ (eraseP (writeP (fresh 2 2 16) 1 [1, 2]).1 0).2 = 0 ∧ readP (eraseP (writeP (fresh 2 2 16) 1 [1, 2]).1 0).1 16 1 = ([255], 0) := ⟨rfl, rfl, rfl, rfl, rfl⟩
set_option maxRecDepth 100000 in
set_option maxHeartbeats 4000000 in
theorem live_any (w : World) : Calls Try.prog 14 #[] w fun e w' => e = .returned (.bool true) ∧ Below w.heap.size w w' := by
  have hn := new_ok w 2 2 16 (by decide)
  obtain ⟨p1, p2, p3, p4, p5⟩ := ex_plain
  have s0 := fresh_shape (S := 2) (P := 2) (B := 16) (by decide)
  have l0 := fresh_low 2 2 16
  obtain ⟨x0, hx0⟩ : ∃ x0, x0 = fresh 2 2 16 := ⟨_, rfl⟩
  rw [← hx0] at hn p1 p2 p3 p4 p5 s0 l0
  have s1 := (write_shape s0 1 [1, 2]).1
  have l1 := write_low l0 1 [1, 2]
  obtain ⟨x1, hx1⟩ : ∃ x1, x1 = (writeP x0 1 [1, 2]).1 := ⟨_, rfl⟩
  rw [← hx1] at p2 p3 p4 p5 s1 l1
  have s2 := (erase_shape s1 0).1
  obtain ⟨x2, hx2⟩ : ∃ x2, x2 = (eraseP x1 0).1 := ⟨_, rfl⟩
  rw [← hx2] at p5 s2
  have m1 : x1.mem.length ≤ 16777216 := by rw [s1.mem]; exact s1.all
  have m2 : x2.mem.length ≤ 16777216 := by rw [s2.mem]; exact s2.all
  have Kp := Aside0.mk (And.intro p1 (And.intro p2 (And.intro p3 (And.intro p4 p5))))
  have Kx := Aside0.mk (And.intro hx1 hx2)
  have Ks := Aside0.mk (And.intro s0 s1)
  have Kl := Aside0.mk (And.intro l0 l1)
  have Km := Aside0.mk (And.intro m1 m2)
  have Kn : Aside0 (Calls Try.prog 16 #[.agg #[.int .i64 2, .int .i64 2, .int .i64 16]] w fun e w' => ∃ f gb gd gw, e = .returned (.tuple #[.pointer (some ⟨f, 0, none⟩), .int .i64 0]) ∧ FM w' w.heap.size f gb gd gw (.slice none 0 0) x0 ∧ Below w.heap.size w w') := ⟨hn⟩
  have hstr1 : (strOfNums [1, 2, 255]).toList = [1, 2, 255] := by rw [Go.Lib.strOfNums_toList]; rfl
  have hstr2 : (strOfNums [255]).toList = [255] := by rw [Go.Lib.strOfNums_toList]; rfl
  clear hn p1 p2 p3 p4 p5 s0 s1 l0 l1 s2 m1 m2 hx0 hx1 hx2
  have tokA : True := trivial
  have tokB : True := trivial
  go_enter Try.func14, Try.ntmps14
  go_wp2_with (first | (go_at_call 11; refine (num_any _ _).mono ?_; rintro e w' ⟨rfl, rfl⟩) | (go_at_call 16; refine Kn.out.mono ?_; rintro e w1 ⟨f, gb, gd, gw, rfl, hF1, hb1⟩; have K1 := Aside0.mk hF1; have Kb1 := Aside0.mk hb1; clear hF1 hb1) | (go_at_call 17; have _t := tokA; refine (write_lit K1.out Ks.out.1 Kl.out.1 (by decide) 1 (by decide) [1, 2] _ rfl 2 rfl (by decide)).mono ?_; rw [Kp.out.1, ← Kx.out.1]; rintro e w2 ⟨rfl, hF2, hch2⟩; have K2 := Aside0.mk hF2; have Kch2 := Aside0.mk hch2; clear hF2 hch2 tokA) | (go_at_call 17; refine (write_lit (K2.out.below Kb3.out) Ks.out.2 Kl.out.2 (by decide) 1 (by decide) [0] _ rfl 1 rfl (by decide)).mono ?_; rw [Kp.out.2.2.1]; rintro e w4 ⟨rfl, hF4, hch4⟩; have K4 := Aside0.mk hF4; have Kch4 := Aside0.mk hch4; clear hF4 hch4) | (go_at_call 18; have _t := tokB; refine (read_any K2.out Km.out.1 16 3 (by decide) (by decide)).mono ?_; rw [Kp.out.2.1]; rintro e w3 ⟨v3, rfl, hO3, hb3⟩; have KO3 := Aside0.mk hO3; have Kb3 := Aside0.mk hb3; clear hO3 hb3 tokB) | (go_at_call 22; refine (erase_any K4.out Ks.out.2 Kl.out.2 (by decide) 0 (by decide)).mono ?_; rw [Kp.out.2.2.2.1, ← Kx.out.2]; rintro e w5 ⟨rfl, hF5, hch5⟩; have K5 := Aside0.mk hF5; have Kch5 := Aside0.mk hch5; clear hF5 hch5) | (go_at_call 18; refine (read_any K5.out Km.out.2 16 1 (by decide) (by decide)).mono ?_; rw [Kp.out.2.2.2.2]; rintro e w6 ⟨v6, rfl, hO6, hb6⟩; have KO3e := (ownB_ch (ownB_ch KO3.out Kch4.out K2.out.lt.1 K2.out.lt.2.1 K2.out.lt.2.2.1 K2.out.lt.2.2.2) Kch5.out K2.out.lt.1 K2.out.lt.2.1 K2.out.lt.2.2.1 K2.out.lt.2.2.2).below hb6; obtain ⟨A3, c3, hv3, -, hC3⟩ := Row.OwnB.slice KO3e; obtain rfl : v3 = .slice A3 3 c3 := hv3; replace hC3 : Kd.C (Kd.int .u8) w6 A3 3 [1, 2, 255] := hC3; obtain ⟨A6, c6, hv6, -, hC6⟩ := Row.OwnB.slice hO6; obtain rfl : v6 = .slice A6 1 c6 := hv6; replace hC6 : Kd.C (Kd.int .u8) w6 A6 1 [255] := hC6; have hs3 := Kd.C_string (P := Try.prog) (c := c3) Try.underlying30 Try.underlying5 Try.underlying9 hC3; have hs6 := Kd.C_string (P := Try.prog) (c := c6) Try.underlying30 Try.underlying5 Try.underlying9 hC6; have Kb6 := Aside0.mk hb6; clear hb6 KO3e hC3 hC6 hO6))
  go_ret
  refine ⟨rfl, ?_⟩
  have hB2 := Kb1.out.trans (Kch2.out.below)
  have hs2 := K2.out.size
  have hB3 := below_then hB2 hs2 Kb3.out
  have hB5 := (hB3.trans Kch4.out.below).trans Kch5.out.below
  exact below_then hB5 K5.out.size Kb6.out
end Go.Proofs.Ytepmgkmbmejkjaa.Fl
