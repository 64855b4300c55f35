/- A flash memory: a sector erased. -/
import Derived.Test.YtepmgkmbmejkjaaFl6
set_option linter.unusedVariables false
set_option linter.unusedSimpArgs false
namespace Go.Proofs.Ytepmgkmbmejkjaa.Fl
open Go.RowKit Go.Proofs.YtepmgkmbmejkjaaW.PrintWords Go.Proofs.YtepmgkmbmejkjaaW.PrintLast Go.Proofs.YtepmgkmbmejkjaaW.PrintMore
section
variable {w : World} {base f gb gd gw : Nat} {tv : Value} {x : Fl}
theorem sector_fits (hs : Shape x) {s : Nat} (h : s < x.S) : s * (x.P * x.B) + x.P * x.B ≤ x.mem.length ∧ s * x.P + x.P ≤ x.dirty.length := by
  rw [hs.mem, hs.dirty]
  constructor
  · calc s * (x.P * x.B) + x.P * x.B = (s + 1) * (x.P * x.B) := by rw [Nat.add_mul, Nat.one_mul]
      _ ≤ x.S * (x.P * x.B) := Nat.mul_le_mul_right _ h
      _ = x.S * x.P * x.B := by rw [Nat.mul_assoc]
  · calc s * x.P + x.P = (s + 1) * x.P := by rw [Nat.add_mul, Nat.one_mul]
      _ ≤ x.S * x.P := Nat.mul_le_mul_right _ h
set_option maxHeartbeats 2000000 in
theorem sector_any (h : FM w base f gb gd gw tv x) (hs : Shape x) (p : Nat) (hp : p < x.S) :
    Calls Try.prog 46 #[.pointer (some ⟨f, 0, none⟩), .int .i64 p] w fun e w' => e = .returned (.slice (some ⟨gb, p * (x.P * x.B), none⟩) (x.P * x.B) (x.mem.length - p * (x.P * x.B))) ∧ Drawn0 w w' := by
  obtain ⟨c0, c1, c2, c3, c4, c5, c6, c7, c8, c9, c10⟩ := h.cells
  have hfit := (sector_fits hs hp).1
  have hb1 := hs.b1
  have hq1 := hs.p1
  have hml : x.mem.length ≤ 16777216 := by rw [hs.mem]; exact hs.all
  clear h c0 c4 c5 c6 c7 c8 c9 c10
  obtain ⟨P, hP⟩ : ∃ P, P = x.P := ⟨_, rfl⟩
  obtain ⟨B, hB⟩ : ∃ B, B = x.B := ⟨_, rfl⟩
  obtain ⟨L, hL⟩ : ∃ L, L = x.mem.length := ⟨_, rfl⟩
  rw [← hB, ← hP, ← hL] at hfit
  rw [← hB] at hb1 c2 ⊢
  rw [← hP] at hq1 c1 ⊢
  rw [← hL] at hml c3 ⊢
  clear hB hL hP hs hp
  have hn1 : 1 ≤ P * B := Nat.mul_le_mul hq1.1 (show 1 ≤ B by omega)
  have hwn0 : IntKind.i64.wrap ((P : Int) * (B : Int)) = ((P * B : Nat) : Int) := by rw [← Int.natCast_mul]; exact IntWalk.i64_in _ (by omega)
  obtain ⟨n, hn⟩ : ∃ n, n = P * B := ⟨_, rfl⟩
  rw [← hn] at hfit hn1 hwn0 ⊢
  clear hn
  obtain ⟨o, ho⟩ : ∃ o, p * n = o := ⟨_, rfl⟩
  rw [ho] at hfit ⊢
  have hpb : p ≤ 16777216 := by
    have : p * 1 ≤ p * n := Nat.mul_le_mul_left _ (by omega)
    omega
  have hw1 : IntKind.i64.wrap ((p : Int) * (n : Int)) = (o : Int) := by rw [show (p : Int) * (n : Int) = (o : Int) by rw [← ho]; simp]; exact IntWalk.i64_in _ (by omega)
  have hw3 : IntKind.i64.wrap (((p : Int) + 1) * (n : Int)) = (o : Int) + (n : Int) := by
    rw [show ((p : Int) + 1) * (n : Int) = (o : Int) + (n : Int) by rw [Int.add_mul, Int.one_mul, ← ho]; simp]
    exact IntWalk.i64_in _ (by omega)
  have hw4 : IntKind.i64.wrap ((p : Int) + 1) = (p : Int) + 1 := IntWalk.i64_in _ (by omega)
  have hto : ((o : Int) + (n : Int)).toNat = o + n := by omega
  have hend : (L = o) = False := by simp; omega
  have hap := add_at gb 0 o
  rw [Nat.zero_add] at hap
  have hsub : o + n - o = n := by omega
  have hi1 : (0 : Int) ≤ (o : Int) := by omega
  have hi2 : (o : Int) ≤ (o : Int) + (n : Int) := by omega
  have hi3 : (o : Int) + (n : Int) ≤ (L : Int) := by omega
  have hi4 : (0 : Int) ≤ (o : Int) + (n : Int) := by omega
  have hle : o ≤ o + n := by omega
  have hle2 : o + n ≤ L := hfit
  clear ho
  go_enter Try.func46, Try.ntmps46
  go_wp2
  go_quiet (fail)
  go_wp2
  go_ret
  exact ⟨rfl, ⟨⟨_, rfl⟩⟩⟩
/-- What Erase leaves, and answers. -/
def eraseP (x : Fl) (s : Int) : Fl × Int :=
  if 0 ≤ s ∧ s < x.worn.length then
    if x.off = true then (x, 40)
    else
      let r := failsP { x with worn := x.worn.set s.toNat (x.worn.getD s.toNat 0 + 1) }
      let d := splice r.2.dirty (s.toNat * x.P) (List.replicate x.P r.1)
      if r.1 = true then ({ r.2 with dirty := d, mem := splice r.2.mem (s.toNat * (x.P * x.B)) (x.torn.take (x.P * x.B)) }, 40)
      else ({ r.2 with dirty := d, mem := splice r.2.mem (s.toNat * (x.P * x.B)) (List.replicate (x.P * x.B) 255) }, 0)
  else (x, 9)
set_option maxHeartbeats 4000000 in
set_option maxRecDepth 100000 in
theorem erase_any (h : FM w base f gb gd gw tv x) (hs : Shape x) {k : Nat} (hlow : Low x k) (hk : k ≤ 1000000) (sec : Int) (hwp : -9223372036854775808 ≤ sec ∧ sec ≤ 9223372036854775807) :
    Calls Try.prog 22 #[.pointer (some ⟨f, 0, none⟩), .int .i64 sec] w fun e w' => e = .returned (.int .i64 (eraseP x sec).2) ∧ FM w' base f gb gd gw tv (eraseP x sec).1 ∧ Ch base w w' f gb gd gw := by
  obtain ⟨c0, c1, c2, c3, c4, c5, c6, c7, c8, c9, c10⟩ := h.cells
  have K := Aside0.mk h
  have Ks := Aside0.mk hs
  have Kl := Aside0.mk hlow
  obtain ⟨hp1, hp2⟩ := hwp
  have hb1 := hs.b1
  clear h hs hlow c0 c1 c2 c3 c4 c6 c8 c9 c10
  unfold eraseP
  by_cases hin : 0 ≤ sec ∧ sec < x.worn.length
  · rw [if_pos hin]
    obtain ⟨s, rfl⟩ := Int.eq_ofNat_of_zero_le hin.1
    have hpd : s < x.worn.length := by have := hin.2; omega
    clear hin
    rw [Int.toNat_natCast]
    by_cases hoff : x.off = true
    · rw [if_pos hoff]
      rw [hoff] at c7
      clear hoff
      go_enter Try.func22, Try.ntmps22
      go_wp2
      go_ret
      exact ⟨rfl, K.out, Ch.refl _ _ _ _ _ _⟩
    · rw [if_neg hoff]
      have hoff := Bool.eq_false_iff.2 hoff
      rw [hoff] at c7
      have hcw := K.out.worn_at hpd
      have hz := blk_frozen K.out.worn s
      have hwl := Kl.out.worn (x.worn.getD s 0) (by rw [List.getD_eq_getElem?_getD, List.getElem?_eq_getElem hpd]; exact List.getElem_mem hpd)
      obtain ⟨u, hu⟩ : ∃ u, u = x.worn.getD s 0 := ⟨_, rfl⟩
      rw [← hu] at hcw hwl
      obtain ⟨x1, hx1⟩ : ∃ x1, x1 = { x with worn := x.worn.set s (u + 1) } := ⟨_, rfl⟩
      have h1 : FM (w.setCell ⟨gw, s, none⟩ (.int .i64 (u + 1))) base f gb gd gw tv x1 := by rw [hx1]; exact K.out.wear s _
      have Kx1 := Aside0.mk hx1
      have hs1 : Shape x1 := by rw [hx1]; exact ⟨Ks.out.s1, Ks.out.p1, Ks.out.b1, Ks.out.all, Ks.out.mem, Ks.out.dirty, by simp [Ks.out.worn]⟩
      dsimp only
      rw [← hu, ← hx1]
      have hlow1 : x1.ops ≤ 1000000000 ∧ (x1.armed = true → -4000000000000000000 ≤ x1.left ∧ x1.left ≤ 9223372036854775807) := by
        rw [hx1]
        exact ⟨by have := Kl.out.ops; simp only; omega, fun ha => by have := Kl.out.arm ha; simp only; omega⟩
      have Kfl := Aside0.mk (fails_any h1 hlow1.1 hlow1.2)
      have hsame := fails_same x1
      obtain ⟨r, hr⟩ : ∃ r, r = failsP x1 := ⟨_, rfl⟩
      obtain ⟨tt, x2⟩ := r
      rw [← hr] at hsame Kfl ⊢
      simp only at hsame Kfl ⊢
      obtain ⟨e1, e2, e3, e4, e5, e6, e7, e8⟩ := hsame
      have hs2 : Shape x2 := ⟨by rw [e1]; exact hs1.s1, by rw [e2]; exact hs1.p1, by rw [e3]; exact hs1.b1, by rw [e1, e2, e3]; exact hs1.all, by rw [e4, e1, e2, e3]; exact hs1.mem, by rw [e5, e1, e2]; exact hs1.dirty, by rw [e6, e1]; exact hs1.worn⟩
      have hsS : s < x2.S := by rw [← hs2.worn, e6, hx1]; simp; exact hpd
      have hP2 : x2.P = x.P := by rw [e2, hx1]
      have hB2 : x2.B = x.B := by rw [e3, hx1]
      have ht2 : x2.torn = x.torn := by rw [e7, hx1]
      obtain ⟨hfit, hfitd⟩ := sector_fits hs2 hsS
      rw [← hP2, ← hB2, ← ht2]
      have hp12 := hs2.p1
      have hb12 := hs2.b1
      have hdl : x2.dirty.length ≤ 4194304 := by
        rw [hs2.dirty]
        have := Nat.mul_le_mul hs2.s1.2 hs2.p1.2
        omega
      have hml : x2.mem.length ≤ 16777216 := by rw [hs2.mem]; exact hs2.all
      obtain ⟨P, hP⟩ : ∃ P, P = x2.P := ⟨_, rfl⟩
      obtain ⟨n, hn⟩ : ∃ n, n = x2.P * x2.B := ⟨_, rfl⟩
      obtain ⟨o, ho⟩ : ∃ o, o = s * n := ⟨_, rfl⟩
      obtain ⟨q, hq⟩ : ∃ q, q = s * P := ⟨_, rfl⟩
      obtain ⟨L, hL⟩ : ∃ L, L = x2.dirty.length := ⟨_, rfl⟩
      have hsec := fun (w1 : World) (x3 : Fl) (h3 : FM w1 base f gb gd gw tv x3) (hs3 : Shape x3) (hS : x3.S = x2.S) (hP3 : x3.P = x2.P) (hB3 : x3.B = x2.B) => sector_any h3 hs3 s (by rw [hS]; exact hsS)
      rw [← hn] at hfit ⊢
      rw [← hP] at hfitd hp12 ⊢
      rw [← ho] at hfit ⊢
      rw [← hq] at hfitd ⊢
      rw [← hL] at hfitd hdl
      have hqw : IntKind.i64.wrap ((s : Int) * (P : Int)) = (q : Int) := by rw [← Int.natCast_mul, ← hq]; exact IntWalk.i64_in _ (by omega)
      have Ksec := Aside0.mk hsec
      have Kh := Aside0.mk (And.intro hP (And.intro hn (And.intro ho (And.intro hq hL))))
      have Ks2 := Aside0.mk hs2
      have Kfit := Aside0.mk (And.intro hfit hml)
      clear hx1 h1 hs1 hlow1 hr e1 e2 e3 e4 e5 e6 e7 e8 hP2 hB2 ht2 hsec hu hoff hP hn ho hq hL hsS hs2 hfit hml hb12 hb1
      go_enter Try.func22, Try.ntmps22
      go_wp2_with (go_at_call 44; refine Kfl.out.mono ?_; rintro e w1 ⟨rfl, hF1, hO1⟩; have K1 := Aside0.mk hF1; have Kch1 : Aside0 (Ch base w w1 f gb gd gw) := ⟨(((Ch.refl base w f gb gd gw).set K.out.bw (Or.inr (Or.inr (Or.inr rfl))) _ _)).only K.out.bf (Or.inl rfl) hO1⟩; have hc1 := hF1.cells.2.1; rw [← Kh.out.1] at hc1; clear hF1 hO1 Kfl)
      go_loopw [43] (fun i wr => ∃ k : Nat, k ≤ P ∧ i = .int .i64 k ∧ Aside0 (FM wr base f gb gd gw tv { x2 with dirty := splice x2.dirty q (List.replicate k tt) }) ∧ Aside0 (Ch base w wr f gb gd gw)) (fun i _ => P - (intOf i).toNat)
      case atStart => exact ⟨0, Nat.zero_le _, rfl, ⟨by rw [List.replicate_zero, splice_nil]; exact K1.out⟩, Kch1⟩
      case round =>
        obtain ⟨k, hk, rfl, KM, KC⟩ := hrel
        have hl : (splice x2.dirty q (List.replicate k tt)).length = L := by rw [length_splice _ _ _ (by rw [List.length_replicate, ← Kh.out.2.2.2.2]; omega)]; exact Kh.out.2.2.2.2.symm
        have Khl := Aside0.mk hl
        by_cases hlt : k < P
        · obtain ⟨d0, d1, d2, d3, d4, d5, d6, d7, d8, d9, d10⟩ := KM.out.cells
          simp only at d1 d4
          rw [hl] at d4
          rw [← Kh.out.1] at d1
          obtain ⟨j, hj⟩ : ∃ j, j = q + k := ⟨_, rfl⟩
          have hjL : j < L := by omega
          have hzj := blk_frozen KM.out.dirty j
          have hcj := KM.out.dirty_at (j := j) (by simp only; rw [hl]; exact hjL)
          obtain ⟨bj, hbj⟩ : ∃ bj, bj = (splice x2.dirty q (List.replicate k tt)).getD j false := ⟨_, rfl⟩
          simp only at hcj
          rw [← hbj] at hcj
          have hjw : IntKind.i64.wrap ((q : Int) + (k : Int)) = (j : Int) := by rw [show (q : Int) + (k : Int) = (j : Int) by omega]; exact IntWalk.i64_in _ (by omega)
          have hj0 : (0 : Int) ≤ (j : Int) := by omega
          have hjL2 : (j : Int) < (L : Int) := by omega
          have haj := add_at gd 0 j
          rw [Nat.zero_add] at haj
          have Khj := Aside0.mk hj
          clear hl d0 d2 d3 d5 d6 d7 d8 d9 d10 hbj hj hfitd hdl
          go_wp2
          refine start_ (n := 16) (S := fun w' => w'.cell? ⟨f, 1, none⟩ = some (.int .i64 P) ∧ w'.cell? ⟨f, 4, none⟩ = some (.slice (some ⟨gd, 0, none⟩) L L) ∧ w'.cell? ⟨gd, j, none⟩ = some (.bool bj) ∧ w'.frozen? ⟨gd, j, none⟩ = false) (ds := [15]) #[false, false, false, false, false, false, false, false, false, false, false, false, false, false, false, false] (by kernel_rfl) rfl rfl ⟨(show wr.cell? _ = _ from d1), (show wr.cell? _ = _ from d4), (show wr.cell? _ = _ from hcj), (show wr.frozen? _ = _ from hzj)⟩ (fun hHeld => ?_)
          refine pure_ (i := 0) (N := some 46) (v := ?_) (a' := ?_) #[true, false, false, false, false, false, false, false, false, false, false, false, false, false, false, false] rfl rfl (by kernel_rfl) (fun _ _ _ h => h) (Or.inl ⟨by rfl, ?_⟩) ?_ ?_
          rotate_left
          · intro w'
            go_simp
            with_reducible rfl
          rotate_left
          · simp only [Act.put, List.setIfInBounds_toArray, List.set_cons_zero, List.set_cons_succ, i64_w, i32_w]
            rfl
          refine pure_ (i := 1) (N := some 47) (v := ?_) (a' := ?_) #[true, true, false, false, false, false, false, false, false, false, false, false, false, false, false, false] rfl rfl (by kernel_rfl) (fun _ _ _ h => h) (Or.inl ⟨by rfl, ?_⟩) ?_ ?_
          rotate_left
          · intro w'
            go_simp
            with_reducible rfl
          rotate_left
          · simp only [Act.put, List.setIfInBounds_toArray, List.set_cons_zero, List.set_cons_succ, i64_w, i32_w]
            rfl
          refine pure_ (i := 2) (N := some 48) (v := ?_) (a' := ?_) #[true, true, true, false, false, false, false, false, false, false, false, false, false, false, false, false] rfl rfl (by kernel_rfl) (fun _ _ _ h => h) (Or.inl ⟨by rfl, ?_⟩) ?_ ?_
          rotate_left
          · intro w'
            go_simp
            with_reducible rfl
          rotate_left
          · simp only [Act.put, List.setIfInBounds_toArray, List.set_cons_zero, List.set_cons_succ, i64_w, i32_w]
            rfl
          refine pure_ (i := 4) (N := some 50) (v := ?_) (a' := ?_) #[true, true, true, false, true, false, false, false, false, false, false, false, false, false, false, false] rfl rfl (by kernel_rfl) (fun _ _ _ h => h) (Or.inl ⟨by rfl, ?_⟩) ?_ ?_
          rotate_left
          · intro w'
            go_simp
            with_reducible rfl
          rotate_left
          · simp only [Act.put, List.setIfInBounds_toArray, List.set_cons_zero, List.set_cons_succ, i64_w, i32_w]
            rfl
          refine pure_ (i := 5) (N := some 51) (v := ?_) (a' := ?_) #[true, true, true, false, true, true, false, false, false, false, false, false, false, false, false, false] rfl rfl (by kernel_rfl) (fun _ _ _ h => h) (Or.inl ⟨by rfl, ?_⟩) ?_ ?_
          rotate_left
          · intro w'
            go_simp
            with_reducible rfl
          rotate_left
          · simp only [Act.put, List.setIfInBounds_toArray, List.set_cons_zero, List.set_cons_succ, i64_w, i32_w]
            rfl
          refine pure_ (i := 6) (N := some 52) (v := ?_) (a' := ?_) #[true, true, true, false, true, true, true, false, false, false, false, false, false, false, false, false] rfl rfl (by kernel_rfl) (fun _ _ _ h => h) (Or.inl ⟨by rfl, ?_⟩) ?_ ?_
          rotate_left
          · intro w'
            go_simp
            with_reducible rfl
          rotate_left
          · simp only [Act.put, List.setIfInBounds_toArray, List.set_cons_zero, List.set_cons_succ, i64_w, i32_w]
            rfl
          refine pure_ (i := 7) (N := some 53) (v := ?_) (a' := ?_) #[true, true, true, false, true, true, true, true, false, false, false, false, false, false, false, false] rfl rfl (by kernel_rfl) (fun _ _ _ h => h) (Or.inl ⟨by rfl, ?_⟩) ?_ ?_
          rotate_left
          · intro w'
            go_simp
            with_reducible rfl
          rotate_left
          · simp only [Act.put, List.setIfInBounds_toArray, List.set_cons_zero, List.set_cons_succ, i64_w, i32_w]
            rfl
          refine pure_ (i := 8) (N := some 54) (v := ?_) (a' := ?_) #[true, true, true, false, true, true, true, true, true, false, false, false, false, false, false, false] rfl rfl (by kernel_rfl) (fun _ _ _ h => h) (Or.inl ⟨by rfl, ?_⟩) ?_ ?_
          rotate_left
          · intro w'
            go_simp
            with_reducible rfl
          rotate_left
          · simp only [Act.put, List.setIfInBounds_toArray, List.set_cons_zero, List.set_cons_succ, i64_w, i32_w]
            rfl
          refine pure_ (i := 11) (N := some 57) (v := ?_) (a' := ?_) #[true, true, true, false, true, true, true, true, true, false, false, true, false, false, false, false] rfl rfl (by kernel_rfl) (fun _ _ _ h => h) (Or.inl ⟨by rfl, ?_⟩) ?_ ?_
          rotate_left
          · intro w'
            go_simp
            with_reducible rfl
          rotate_left
          · simp only [Act.put, List.setIfInBounds_toArray, List.set_cons_zero, List.set_cons_succ, i64_w, i32_w]
            rfl
          refine pure_ (i := 13) (N := some 59) (v := ?_) (a' := ?_) #[true, true, true, false, true, true, true, true, true, false, false, true, false, true, false, false] rfl rfl (by kernel_rfl) (fun _ _ _ h => h) (Or.inl ⟨by rfl, ?_⟩) ?_ ?_
          rotate_left
          · intro w'
            go_simp
            with_reducible rfl
          rotate_left
          · simp only [Act.put, List.setIfInBounds_toArray, List.set_cons_zero, List.set_cons_succ, i64_w, i32_w]
            rfl
          refine take_ (i := 3) (N := some 49) (v := ?_) (a' := ?_) #[true, true, true, true, true, true, true, true, true, false, false, true, false, true, false, false] rfl rfl (by kernel_rfl) (fun _ _ _ h => h) (Or.inl ⟨by rfl, ?_⟩) hHeld ?_ ?_
          rotate_left
          · rintro w' ⟨s0, s1, s2, s3⟩
            go_simp
            with_reducible rfl
          rotate_left
          · simp only [Act.put, List.setIfInBounds_toArray, List.set_cons_zero, List.set_cons_succ, i64_w, i32_w]
            rfl
          refine take_ (i := 9) (N := some 55) (v := ?_) (a' := ?_) #[true, true, true, true, true, true, true, true, true, true, false, true, false, true, false, false] rfl rfl (by kernel_rfl) (fun _ _ _ h => h) (Or.inl ⟨by rfl, ?_⟩) hHeld ?_ ?_
          rotate_left
          · rintro w' ⟨s0, s1, s2, s3⟩
            go_simp
            with_reducible rfl
          rotate_left
          · simp only [Act.put, List.setIfInBounds_toArray, List.set_cons_zero, List.set_cons_succ, i64_w, i32_w]
            rfl
          refine pure_ (i := 10) (N := some 56) (v := ?_) (a' := ?_) #[true, true, true, true, true, true, true, true, true, true, true, true, false, true, false, false] rfl rfl (by kernel_rfl) (fun _ _ _ h => h) (Or.inl ⟨by rfl, ?_⟩) ?_ ?_
          rotate_left
          · intro w'
            go_simp
            with_reducible rfl
          rotate_left
          · simp only [Act.put, List.setIfInBounds_toArray, List.set_cons_zero, List.set_cons_succ, i64_w, i32_w]
            rfl
          refine pure_ (i := 12) (N := some 58) (v := ?_) (a' := ?_) #[true, true, true, true, true, true, true, true, true, true, true, true, true, true, false, false] rfl rfl (by kernel_rfl) (fun _ _ _ h => h) (Or.inl ⟨by rfl, ?_⟩) ?_ ?_
          rotate_left
          · intro w'
            go_simp
            with_reducible rfl
          rotate_left
          · simp only [Act.put, List.setIfInBounds_toArray, List.set_cons_zero, List.set_cons_succ, i64_w, i32_w]
            rfl
          refine pure_ (i := 14) (N := some 60) (v := ?_) (a' := ?_) #[true, true, true, true, true, true, true, true, true, true, true, true, true, true, true, false] rfl rfl (by kernel_rfl) (fun _ _ _ h => h) (Or.inl ⟨by rfl, ?_⟩) ?_ ?_
          rotate_left
          · intro w'
            go_simp
            with_reducible rfl
          rotate_left
          · simp only [Act.put, List.setIfInBounds_toArray, List.set_cons_zero, List.set_cons_succ, i64_w, i32_w]
            rfl
          refine last_ (i := 15) (N := none) #[true, true, true, true, true, true, true, true, true, true, true, true, true, true, true, true] rfl rfl (by kernel_rfl) (by decide) (fun K hK => ?_)
          refine skip_ (w1 := ?_) (by rfl) rfl ?_ ?_
          rotate_left
          · go_simp
            rfl
          refine hK.out _ _ ?_
          clear hK K
          refine done_ (by kernel_rfl) ?_
          go_wp2
          refine ⟨⟨k + 1, hlt, by go_num, ⟨?_⟩, ⟨?_⟩⟩, by simp [intOf]; omega⟩
          · have := (KM.out.mark j tt).below (Below.refl _ _).drew
            simp only at this
            rw [Khj.out, splice_snoc _ _ _ _ (by have := Kh.out.2.2.2.2; have := Khj.out; omega)] at this
            rw [← Khj.out] at this
            exact this
          · exact ((KC.out.set K.out.bd (Or.inr (Or.inr (Or.inl rfl))) _ _).below_ (by simp; exact KM.out.size) (Below.refl _ _).drew)
        · obtain rfl : P = k := by omega
          have KPd := Aside0.mk hfitd
          have hdl2 : (splice x2.dirty q (List.replicate P tt)).length = x2.dirty.length := by rw [hl]; exact Kh.out.2.2.2.2
          obtain ⟨x3, hx3⟩ : ∃ x3, x3 = { x2 with dirty := splice x2.dirty q (List.replicate P tt) } := ⟨_, rfl⟩
          rw [← hx3] at KM
          have hs3 : Shape x3 := by rw [hx3]; exact ⟨Ks2.out.s1, Ks2.out.p1, Ks2.out.b1, Ks2.out.all, Ks2.out.mem, by simp only; rw [hdl2]; exact Ks2.out.dirty, Ks2.out.worn⟩
          have hn3 : x3.P * x3.B = n := by rw [hx3]; exact Kh.out.2.1.symm
          have hm3 : x3.mem = x2.mem := by rw [hx3]
          obtain ⟨cc, hcc⟩ : ∃ cc, cc = x3.mem.length - o := ⟨_, rfl⟩
          have hsc : ∀ w1, FM w1 base f gb gd gw tv x3 → Calls Try.prog 46 #[.pointer (some ⟨f, 0, none⟩), .int .i64 s] w1 fun e w' => e = .returned (.slice (some ⟨gb, o, none⟩) n cc) ∧ Drawn0 w1 w' := by
            intro w1 h3
            have := Ksec.out w1 x3 h3 hs3 (by rw [hx3]) (by rw [hx3]) (by rw [hx3])
            rw [hn3, ← Kh.out.2.2.1, ← hcc] at this
            exact this
          have Ksc := Aside0.mk hsc
          have Kx3 := Aside0.mk hx3
          have Km3 := Aside0.mk hm3
          clear hl hfitd hqw hsc hx3 hm3 hcc hn3 hs3 hdl2 hp12 hc1 hdl
          cases tt with
          | false =>
            go_wp2_with (first | (go_at_call 46; refine (Ksc.out _ KM.out).mono ?_; rintro e w1 ⟨rfl, hdr⟩; obtain ⟨nd, rfl⟩ := hdr.out; clear Ksc) | (go_at_call 42; refine (blank_any (KM.out.drewN nd).mem (show o + n ≤ x3.mem.length by rw [Km3.out]; exact Kfit.out.1) (show x3.mem.length ≤ 100000000 by rw [Km3.out]; have := Kfit.out.2; omega)).mono ?_; rintro e w2 ⟨rfl, hM2, hO2⟩; have K2 := Aside0.mk ((KM.out.drewN nd).only hO2 hM2 (by rw [length_splice]; rw [List.length_replicate, Km3.out]; exact Kfit.out.1)); have Kch2 : Aside0 (Ch base w w2 f gb gd gw) := ⟨(KC.out.below_ KM.out.size (pw_below_drewN (Below.refl _ _) nd)).only K.out.bb (Or.inr (Or.inl rfl)) hO2⟩; clear hM2 hO2))
            go_ret
            refine ⟨rfl, ?_, Kch2.out⟩
            have := K2.out
            rw [Kx3.out] at this
            rw [Kh.out.1] at this ⊢
            exact this
          | true =>
            obtain ⟨d0, d1, d2, d3, d4, d5, d6, d7, d8, d9, d10⟩ := KM.out.cells
            obtain ⟨AT, cT, hT, hleT, hCT⟩ := Kd.R_reads KM.out.torn
            obtain ⟨nT, hnT⟩ : ∃ nT, nT = x3.torn.length := ⟨_, rfl⟩
            rw [← hnT] at hT
            subst hT
            have KnT := Aside0.mk hnT
            clear d0 d1 d2 d3 d4 d5 d6 d7 d8 d9 hleT hCT hnT
            go_wp2
            refine start_ (n := 8) (S := fun w' => w'.cell? ⟨f, 10, none⟩ = some (.slice AT nT cT)) (ds := [7]) #[false, false, false, false, false, false, false, false] (by kernel_rfl) rfl rfl ((show wr.cell? _ = _ from d10)) (fun hHeld => ?_)
            refine pure_ (i := 0) (N := some 63) (v := ?_) (a' := ?_) #[true, false, false, false, false, false, false, false] rfl rfl (by kernel_rfl) (fun _ _ _ h => h) (Or.inl ⟨by rfl, ?_⟩) ?_ ?_
            rotate_left
            · intro w'
              go_simp
              with_reducible rfl
            rotate_left
            · simp only [Act.put, List.setIfInBounds_toArray, List.set_cons_zero, List.set_cons_succ, i64_w, i32_w]
              rfl
            refine pure_ (i := 1) (N := some 64) (v := ?_) (a' := ?_) #[true, true, false, false, false, false, false, false] rfl rfl (by kernel_rfl) (fun _ _ _ h => h) (Or.inl ⟨by rfl, ?_⟩) ?_ ?_
            rotate_left
            · intro w'
              go_simp
              with_reducible rfl
            rotate_left
            · simp only [Act.put, List.setIfInBounds_toArray, List.set_cons_zero, List.set_cons_succ, i64_w, i32_w]
              rfl
            refine pure_ (i := 3) (N := some 66) (v := ?_) (a' := ?_) #[true, true, false, true, false, false, false, false] rfl rfl (by kernel_rfl) (fun _ _ _ h => h) (Or.inl ⟨by rfl, ?_⟩) ?_ ?_
            rotate_left
            · intro w'
              go_simp
              with_reducible rfl
            rotate_left
            · simp only [Act.put, List.setIfInBounds_toArray, List.set_cons_zero, List.set_cons_succ, i64_w, i32_w]
              rfl
            refine pure_ (i := 4) (N := some 67) (v := ?_) (a' := ?_) #[true, true, false, true, true, false, false, false] rfl rfl (by kernel_rfl) (fun _ _ _ h => h) (Or.inl ⟨by rfl, ?_⟩) ?_ ?_
            rotate_left
            · intro w'
              go_simp
              with_reducible rfl
            rotate_left
            · simp only [Act.put, List.setIfInBounds_toArray, List.set_cons_zero, List.set_cons_succ, i64_w, i32_w]
              rfl
            refine pure_ (i := 5) (N := some 68) (v := ?_) (a' := ?_) #[true, true, false, true, true, true, false, false] rfl rfl (by kernel_rfl) (fun _ _ _ h => h) (Or.inl ⟨by rfl, ?_⟩) ?_ ?_
            rotate_left
            · intro w'
              go_simp
              with_reducible rfl
            rotate_left
            · simp only [Act.put, List.setIfInBounds_toArray, List.set_cons_zero, List.set_cons_succ, i64_w, i32_w]
              rfl
            refine take_ (i := 6) (N := some 69) (v := ?_) (a' := ?_) #[true, true, false, true, true, true, true, false] rfl rfl (by kernel_rfl) (fun _ _ _ h => h) (Or.inl ⟨by rfl, ?_⟩) hHeld ?_ ?_
            rotate_left
            · intro w' s0
              go_simp
              with_reducible rfl
            rotate_left
            · simp only [Act.put, List.setIfInBounds_toArray, List.set_cons_zero, List.set_cons_succ, i64_w, i32_w]
              rfl
            refine one_ (i := 2) (N := some 65) #[true, true, true, true, true, true, true, false] rfl rfl (by kernel_rfl) (by decide) (fun K hK => ?_)
            refine goes_ Try.func46 (by kernel_rfl) rfl #[.pointer (some ⟨f, 0, none⟩), .int .i64 s] (by rfl) rfl rfl (by simp only [List.map_toArray, List.map_cons, List.map_nil]; rfl) ?_
            with_reducible refine (Ksc.out _ (KM.out.below (Below.refl _ _).drew)).mono ?_
            rintro e w4 ⟨rfl, hdr⟩
            refine ⟨_, rfl, ?_⟩
            obtain ⟨nd, rfl⟩ := hdr.out
            have K4 := Aside0.mk ((KM.out.below (Below.refl _ _).drew).drewN nd)
            have Kch4 : Aside0 (Ch base w _ f gb gd gw) := ⟨(KC.out.below_ KM.out.size (Below.refl _ _).drew).below_ KM.out.size (pw_below_drewN (Below.refl _ _) nd)⟩
            refine hK.out _ _ (K4.out.cells.2.2.2.2.2.2.2.2.2.2) (fun hHeld => ?_)
            clear hK K
            refine norm_ (a' := ?_) ?_ ?_
            rotate_left
            · show Act.put _ (some 65) _ = _
              simp only [Act.put, List.setIfInBounds_toArray, List.set_cons_zero, List.set_cons_succ, i64_w, i32_w]
              rfl
            refine last_ (i := 7) (N := some 70) #[true, true, true, true, true, true, true, true] rfl rfl (by kernel_rfl) (by decide) (fun K hK => ?_)
            refine copy_mem_step rfl (.tmp 65) (.tmp 69) rfl gb o n cc AT nT cT x3.mem x3.torn rfl rfl K4.out.mem (by rw [Km3.out]; exact Kfit.out.1) (by obtain ⟨hnT, -, hCT⟩ := Kd.R_reads' K4.out.torn; rw [hnT]; exact hCT) ?_; intro w5 hM5 hO5
            refine hK.out _ _ ?_
            clear hK K
            refine norm_ (a' := ?_) ?_ ?_
            rotate_left
            · show Act.put _ (some 70) _ = _
              simp only [Act.put, List.setIfInBounds_toArray, List.set_cons_zero, List.set_cons_succ, i64_w, i32_w]
              rfl
            refine done_ (by kernel_rfl) ?_
            have K5 := Aside0.mk (K4.out.only hO5.out hM5.out (length_splice _ _ _ (by rw [List.length_take, Km3.out]; have := Kfit.out.1; omega)))
            have Kch5 := Aside0.mk (Kch4.out.only K.out.bb (Or.inr (Or.inl rfl)) hO5.out)
            clear hM5 hO5
            go_wp2
            go_ret
            refine ⟨rfl, ?_, Kch5.out⟩
            have := K5.out
            rw [Kx3.out] at this
            rw [Kh.out.1] at this ⊢
            exact this
  · rw [if_neg hin]
    have hin' : sec < 0 ∨ (0 ≤ sec ∧ (x.worn.length : Int) ≤ sec) := by omega
    clear hin
    rcases hin' with hq | ⟨hq, hq2⟩
    all_goals
      go_enter Try.func22, Try.ntmps22
      go_wp2
      go_ret
      exact ⟨rfl, K.out, Ch.refl _ _ _ _ _ _⟩
end
end Go.Proofs.Ytepmgkmbmejkjaa.Fl
