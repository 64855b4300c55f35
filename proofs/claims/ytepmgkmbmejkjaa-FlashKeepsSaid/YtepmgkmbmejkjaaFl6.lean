/- A flash memory: a page written. -/
import Derived.Test.YtepmgkmbmejkjaaFl5
set_option linter.unusedVariables false
set_option linter.unusedSimpArgs false
namespace Go.Proofs.Ytepmgkmbmejkjaa.Fl
open Go.RowKit Go.Proofs.YtepmgkmbmejkjaaW.PrintWords Go.Proofs.YtepmgkmbmejkjaaW.PrintLast Go.Proofs.YtepmgkmbmejkjaaW.PrintMore
/-- What was done so far is little. -/
structure Low (x : Fl) (k : Nat) : Prop where
  ops : x.ops ≤ k
  worn : ∀ v ∈ x.worn, 0 ≤ v ∧ v ≤ (k : Int)
  arm : x.armed = true → 1 ≤ x.left ∧ x.left ≤ 9223372036854775807
/-- What Write leaves, and answers. -/
def writeP (x : Fl) (page : Int) (b : List Int) : Fl × Int :=
  if 0 ≤ page ∧ page < x.dirty.length then
    if x.B < b.length then (x, 2)
    else if x.off = true then (x, 40)
    else if x.dirty.getD page.toNat false = true then (x, 41)
    else
      let r := failsP { x with dirty := x.dirty.set page.toNat true, mem := splice (splice x.mem (page.toNat * x.B) (List.replicate x.B 255)) (page.toNat * x.B) b }
      if r.1 = true then ({ r.2 with mem := splice r.2.mem (page.toNat * x.B) (x.torn.take x.B) }, 40) else (r.2, 0)
  else (x, 9)
section
variable {w : World} {base f gb gd gw : Nat} {tv : Value} {x : Fl}
theorem fails_same (x : Fl) : (failsP x).2.S = x.S ∧ (failsP x).2.P = x.P ∧ (failsP x).2.B = x.B ∧ (failsP x).2.mem = x.mem ∧ (failsP x).2.dirty = x.dirty ∧ (failsP x).2.worn = x.worn ∧ (failsP x).2.torn = x.torn ∧ (failsP x).2.ops = x.ops + 1 := by
  unfold failsP
  split
  · split <;> exact ⟨rfl, rfl, rfl, rfl, rfl, rfl, rfl, rfl⟩
  · exact ⟨rfl, rfl, rfl, rfl, rfl, rfl, rfl, rfl⟩
theorem fails_low {k : Nat} (h : Low x k) : Low (failsP x).2 (k + 1) := by
  obtain ⟨e1, e2, e3, e4, e5, e6, e7, e8⟩ := fails_same x
  refine ⟨by rw [e8]; have := h.ops; omega, fun v hv => by rw [e6] at hv; have := h.worn v hv; omega, ?_⟩
  unfold failsP
  split
  · rename_i ha
    have := h.arm ha
    split
    · intro _; simp only; omega
    · intro h2; cases h2
  · intro h2; exact h.arm h2
set_option maxHeartbeats 4000000 in
set_option maxRecDepth 100000 in
theorem write_any (h : FM w base f gb gd gw tv x) (hs : Shape x) {k : Nat} (hlow : Low x k) (hk : k ≤ 1000000) (page : Int) (A : Option Addr) (c : Nat) (ys : List Int) (hC : ∀ w', Ch base w w' f gb gd gw → Kd.C (Kd.int .u8) w' A ys.length ys) (hwp : -9223372036854775808 ≤ page ∧ page ≤ 9223372036854775807) :
    Calls Try.prog 17 #[.pointer (some ⟨f, 0, none⟩), .int .i64 page, .slice A ys.length c] w fun e w' => e = .returned (.int .i64 (writeP x page ys).2) ∧ FM w' base f gb gd gw tv (writeP x page ys).1 ∧ Ch base w w' f gb gd gw := by
  obtain ⟨c0, c1, c2, c3, c4, c5, c6, c7, c8, c9, c10⟩ := h.cells
  have K := Aside0.mk h
  have Ks := Aside0.mk hs
  have Kl := Aside0.mk hlow
  have KC := Aside0.mk hC
  obtain ⟨hp1, hp2⟩ := hwp
  have hyl : ys.length ≤ 9223372036854775807 := Kd.C_max (hC w (Ch.refl _ _ _ _ _ _))
  have hb1 := hs.b1
  clear h hs hlow hC c0 c1 c3 c5 c6 c8 c9
  unfold writeP
  by_cases hin : 0 ≤ page ∧ page < x.dirty.length
  · rw [if_pos hin]
    obtain ⟨p, rfl⟩ := Int.eq_ofNat_of_zero_le hin.1
    have hpd : p < x.dirty.length := by have := hin.2; omega
    clear hin
    rw [Int.toNat_natCast]
    by_cases hlong : x.B < ys.length
    · rw [if_pos hlong]
      go_enter Try.func17, Try.ntmps17
      go_wp2
      go_ret
      exact ⟨rfl, K.out, Ch.refl _ _ _ _ _ _⟩
    rw [if_neg hlong]
    by_cases hoff : x.off = true
    · rw [if_pos hoff]
      rw [hoff] at c7
      clear hoff
      go_enter Try.func17, Try.ntmps17
      go_wp2
      go_ret
      exact ⟨rfl, K.out, Ch.refl _ _ _ _ _ _⟩
    · rw [if_neg hoff]
      have hcd := K.out.dirty_at hpd
      have hoff := Bool.eq_false_iff.2 hoff
      by_cases hdir : x.dirty.getD p false = true
      · rw [if_pos hdir]
        rw [hoff] at c7
        rw [hdir] at hcd
        clear hoff hdir
        go_enter Try.func17, Try.ntmps17
        go_wp2
        go_ret
        exact ⟨rfl, K.out, Ch.refl _ _ _ _ _ _⟩
      · rw [if_neg hdir]
        have hdir := Bool.eq_false_iff.2 hdir
        rw [hoff] at c7
        rw [hdir] at hcd
        have hz := blk_frozen K.out.dirty p
        have hsp : p < x.S * x.P := by have := Ks.out.dirty; omega
        have hfit := page_fits Ks.out hsp
        have hml : x.mem.length ≤ 16777216 := by rw [Ks.out.mem]; exact Ks.out.all
        have h1 := K.out.mark p true
        have hs1 : Shape { x with dirty := x.dirty.set p true } := ⟨Ks.out.s1, Ks.out.p1, Ks.out.b1, Ks.out.all, Ks.out.mem, by simp [Ks.out.dirty], Ks.out.worn⟩
        have hpg := page_any h1 hs1 p hsp
        obtain ⟨AT, cT, hT, hleT, hCT⟩ := Kd.R_reads K.out.torn
        obtain ⟨nT, hnT⟩ : ∃ nT, nT = x.torn.length := ⟨_, rfl⟩
        rw [← hnT] at hT
        subst hT
        have K1 := Aside0.mk h1
        have Kpg := Aside0.mk hpg
        have KnT := Aside0.mk hnT
        obtain ⟨o, ho⟩ : ∃ o, o = p * x.B := ⟨_, rfl⟩
        have Ko := Aside0.mk ho
        obtain ⟨cc, hcc⟩ : ∃ cc, cc = x.mem.length - o := ⟨_, rfl⟩
        simp only at Kpg
        rw [← ho, ← hcc] at Kpg
        rw [← ho] at hfit ⊢
        have hylB : ys.length ≤ x.B := by omega
        obtain ⟨x1, hx1⟩ : ∃ x1, x1 = { x with dirty := x.dirty.set p true, mem := splice (splice x.mem o (List.replicate x.B 255)) o ys } := ⟨_, rfl⟩
        have Kx1 := Aside0.mk hx1
        dsimp only
        rw [← hx1]
        have hsame := fails_same x1
        have hlow1 : x1.ops ≤ 1000000000 ∧ (x1.armed = true → -4000000000000000000 ≤ x1.left ∧ x1.left ≤ 9223372036854775807) := by
          rw [hx1]
          exact ⟨by have := Kl.out.ops; simp only; omega, fun ha => by have := Kl.out.arm ha; simp only; omega⟩
        have Klow1 := Aside0.mk hlow1
        obtain ⟨r, hr⟩ : ∃ r, r = failsP x1 := ⟨_, rfl⟩
        obtain ⟨tt, x2⟩ := r
        have Kr := Aside0.mk hr
        rw [← hr] at hsame ⊢
        simp only at hsame ⊢
        obtain ⟨e1, e2, e3, e4, e5, e6, e7, e8⟩ := hsame
        have Ke := Aside0.mk (And.intro e3 (And.intro e4 e7))
        clear hx1 hlow1 hr e1 e2 e3 e4 e5 e6 e7 e8
        have Kfit := Aside0.mk hfit
        have Kml := Aside0.mk hml
        clear hs1 hpg h1 ho hcc hnT hCT hleT hoff hdir hlong hfit
        go_enter Try.func17, Try.ntmps17
        go_wp2_with (first | (go_at_call 43; refine Kpg.out.mono ?_; rintro e w1 ⟨rfl, hdr⟩; obtain ⟨nd, rfl⟩ := hdr.out; clear Kpg) | (go_at_call 42; refine (blank_any (K1.out.drewN nd).mem (show o + x.B ≤ x.mem.length from Kfit.out) (show x.mem.length ≤ 100000000 by have := Kml.out; omega)).mono ?_; rintro e w2 ⟨rfl, hM2, hO2⟩; have K2 := Aside0.mk ((K1.out.drewN nd).only hO2 hM2 (by rw [length_splice]; rw [List.length_replicate]; exact Kfit.out)); have Kch2 : Aside0 (Ch base w w2 f gb gd gw) := ⟨(((Ch.refl base w f gb gd gw).set K.out.bd (Or.inr (Or.inr (Or.inl rfl))) _ _).below_ (by simp; exact K.out.size) (pw_below_drewN (Below.refl _ _) nd)).only K.out.bb (Or.inr (Or.inl rfl)) hO2⟩; clear hM2 hO2) | ((with_reducible refine gate_builtin (b := .copy) (xs := #[.tmp 56, .tmp 57]) rfl ?_); apply Aside0.out))
        refine ⟨?_⟩
        have hsl2 : (splice x.mem o (List.replicate x.B (255 : Int))).length = x.mem.length := by rw [length_splice]; rw [List.length_replicate]; exact Kfit.out
        refine copy_mem rfl (.tmp 56) (.tmp 57) rfl gb o x.B cc A ys.length c _ ys rfl rfl K2.out.mem (by simp only; rw [hsl2]; exact Kfit.out) (KC.out w2 Kch2.out) ?_
        intro w3 hM3 hO3
        rw [List.take_of_length_le hylB] at hM3 ⊢
        have K3 : Aside0 (FM w3 base f gb gd gw (.slice AT nT cT) x1) := ⟨by
          rw [Kx1.out]
          exact K2.out.only hO3.out hM3.out (by rw [length_splice]; rw [hsl2]; have := Kfit.out; omega)⟩
        have Kch3 := Aside0.mk (Kch2.out.only K.out.bb (Or.inr (Or.inl rfl)) hO3.out)
        have Kx1l : Aside0 (x1.mem.length = x.mem.length) := ⟨by rw [Kx1.out]; simp only; rw [length_splice, hsl2]; rw [hsl2]; have := Kfit.out; omega⟩
        clear hM3 hO3 hsl2
        have Kfl := Aside0.mk (fails_any K3.out Klow1.out.1 Klow1.out.2)
        rw [← Kr.out] at Kfl
        simp only at Kfl
        cases tt with
        | false =>
          go_wp2_with (go_at_call 44; refine Kfl.out.mono ?_; rintro e w4 ⟨rfl, hF4, hO4⟩; have K4 := Aside0.mk hF4; have Kch4 := Aside0.mk (Kch3.out.only K.out.bf (Or.inl rfl) hO4); clear hF4 hO4)
          go_ret
          exact ⟨rfl, K4.out, Kch4.out⟩
        | true =>
          go_wp2_with (first | (go_at_call 44; refine Kfl.out.mono ?_; rintro e w4 ⟨rfl, hF4, hO4⟩; have hc10 := hF4.cells.2.2.2.2.2.2.2.2.2.2; have K4 := Aside0.mk hF4; have Kch4 := Aside0.mk (Kch3.out.only K.out.bf (Or.inl rfl) hO4); clear hF4 hO4) | ((with_reducible refine gate_builtin (b := .copy) (xs := #[.tmp 61, .tmp 65]) rfl ?_); apply Aside0.out))
          refine ⟨?_⟩
          obtain ⟨hnT, -, hCT⟩ := Kd.R_reads' K4.out.torn
          obtain ⟨e3, e4, e7⟩ := Ke.out
          have hfit4 : o + x.B ≤ x2.mem.length := by rw [e4, Kx1l.out]; exact Kfit.out
          refine copy_mem rfl (.tmp 61) (.tmp 65) rfl gb o x.B cc AT nT cT x2.mem x2.torn rfl rfl K4.out.mem hfit4 (by rw [hnT]; exact hCT) ?_
          intro w5 hM5 hO5
          have htor : x2.torn = x.torn := by rw [e7, Kx1.out]
          have hl5 : (splice x2.mem o (x2.torn.take x.B)).length = x2.mem.length := length_splice _ _ _ (by rw [List.length_take]; omega)
          have K5 : Aside0 (FM w5 base f gb gd gw (.slice AT nT cT) { x2 with mem := splice x2.mem o (x.torn.take x.B) }) := ⟨by
            rw [← htor]
            exact K4.out.only hO5.out hM5.out hl5⟩
          have Kch5 := Aside0.mk (Kch4.out.only K.out.bb (Or.inr (Or.inl rfl)) hO5.out)
          clear hM5 hO5 hl5 htor hfit4 hCT hnT e3 e4 e7 hc10
          go_wp2
          go_ret
          exact ⟨rfl, K5.out, Kch5.out⟩
  · rw [if_neg hin]
    have hin' : page < 0 ∨ (0 ≤ page ∧ (x.dirty.length : Int) ≤ page) := by omega
    clear hin
    rcases hin' with hq | ⟨hq, hq2⟩
    all_goals
      go_enter Try.func17, Try.ntmps17
      go_wp2
      go_ret
      exact ⟨rfl, K.out, Ch.refl _ _ _ _ _ _⟩
end
end Go.Proofs.Ytepmgkmbmejkjaa.Fl
