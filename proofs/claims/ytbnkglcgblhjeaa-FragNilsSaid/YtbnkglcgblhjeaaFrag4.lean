/- Tails in fragments: a tail that begins a fragment. -/
import Derived.Test.YtbnkglcgblhjeaaFrag3
set_option linter.unusedVariables false
set_option linter.unusedSimpArgs false
namespace Go.Proofs.Ytbnkglcgblhjeaa.Frag
open Go.RowKit Go.Proofs.YtbnkglcgblhjeaaW.PrintWords Go.Proofs.YtbnkglcgblhjeaaW.PrintLast Go.Proofs.YtbnkglcgblhjeaaW.PrintMore
theorem add_pk (w0 : World) (base g : Nat) (B sum : Int) (L : Value) (xs : List (List Int)) (ok : Nat → Prop) (w : World) (hok : ∀ k, ok k → k ≠ g) (hfr : ∀ k, w.heap.size ≤ k → ok k) (HP : PK w0 base g B L ok w xs sum) (hl : xs.length ≤ 65535) :
    Calls Try.prog 46 #[.pointer (some ⟨g, 3, none⟩), .slice none 0 0] w fun e w' => e = .returned (.int .i64 xs.length) ∧ PK w0 base g B L ok w' (xs ++ [[]]) sum ∧ w.heap.size ≤ w'.heap.size ∧ ∀ k, ¬ ok k → k ≠ g → k < w.heap.size → w'.heap[k]? = w.heap[k]? := by
  obtain ⟨A, c, HG, HS, HB, hbg⟩ := HP
  have hlt : g < w.heap.size := (Array.getElem?_eq_some_iff.1 HG).1
  have hc3 : w.cell? ⟨g, 3, none⟩ = some (.slice A xs.length c) := (cell_of_row _ _ _ _ _ _ HG).trans rfl
  refine (add_nil base g _ _ _ A c xs ok w0 w HG hc3 HS hok hfr HB (by omega) hbg hl).mono ?_
  rintro e w' ⟨rfl, w1, A1, c1, rfl, hG1, hS1, hB1, hg1⟩
  have hlen : (xs ++ [([] : List Int)]).length = xs.length + 1 := by simp
  refine ⟨rfl, ⟨A1, c1, ?_, ?_, hB1.setCell hbg _, hbg⟩, ?_, fun k hk hkg hlt => ?_⟩
  · rw [hlen]
    exact blk_set (hG1.trans HG) 3 _
  · rw [hlen]
    exact Kd.S_far hS1 (p := ⟨g, 3, none⟩) hok _
  · simpa using hg1.size
  · rw [Below.heap_setCell _ _ _ _ hkg]
    exact hg1.block k hlt (fun h => hk ((Kd.S_R HS).1 k h.symm))
theorem PK_drewN {w0 : World} {base g : Nat} {B sum : Int} {L : Value} {xs : List (List Int)} {ok : Nat → Prop} {w : World} (HP : PK w0 base g B L ok w xs sum) (q : Nat) : PK w0 base g B L ok (w.drewN q) xs sum := by
  obtain ⟨A, c, HG, HS, HB, hbg⟩ := HP
  exact ⟨A, c, HG, Kd.S_drewN HS q, pw_below_drewN HB q, hbg⟩
theorem zlen (xs : List (List Int)) : (xs ++ [[]]).getD ((xs ++ [([] : List Int)]).length - 1) [] = [] := by
  rw [show (xs ++ [([] : List Int)]).length - 1 = xs.length by simp, List.getD_eq_getElem?_getD, List.getElem?_append_right (Nat.le_refl _)]
  simp
theorem set_last (xs : List (List Int)) (ys : List Int) : (xs ++ [[]]).set ((xs ++ [([] : List Int)]).length - 1) ([] ++ ys) = xs ++ [ys] := by
  rw [show (xs ++ [([] : List Int)]).length - 1 = xs.length by simp, List.set_append_right _ _ (Nat.le_refl _)]
  simp
/-- The last fragment, lent. -/
theorem PK_last {w0 : World} {base g : Nat} {B sum : Int} {L : Value} {xs : List (List Int)} {ok : Nat → Prop} {w : World} (HP : PK w0 base g B L ok w xs sum) (hn : 1 ≤ xs.length) (z : List Int) (hz : xs.getD (xs.length - 1) [] = z) :
    ∃ r c A2 c2 oki, g ≠ r ∧ base ≤ g ∧ g < w.heap.size ∧ base ≤ w.heap.size ∧ z.length ≤ c2 ∧ w.cell? ⟨g, 0, none⟩ = some (.int .i64 B) ∧ w.cell? ⟨g, 2, none⟩ = some (.int .i64 sum) ∧ w.cell? ⟨g, 3, none⟩ = some (.slice (some ⟨r, 0, none⟩) xs.length c) ∧
      w.cell? ⟨r, xs.length - 1, none⟩ = some (.slice A2 z.length c2) ∧ Aside0 (w.heap[g]? = some (.cells #[.int .i64 B, L, .int .i64 sum, .slice (some ⟨r, 0, none⟩) xs.length c] 90 (0, 0))) ∧ Aside0 (Below base w0 w) ∧
      Aside0 (Kd.H dB 22 w base ok (.slice (some ⟨r, 0, none⟩) xs.length c) xs ((xs.length - 1 : Nat) : Int) oki [.slice A2 z.length c2]) ∧ Aside0 (Kd.R (Kd.int .u8) 5 w base oki (.slice A2 z.length c2) z) := by
  obtain ⟨A, c, HG, HS, HB, hbg⟩ := HP
  obtain ⟨r, cap, hv, hr1, hr2, -⟩ := Kd.S_form HS hn
  injection hv with hA _ hc
  subst hA
  subst hc
  obtain ⟨oki, cs, hcl, hM, hcc, hfr, hoki, hH⟩ := Kd.S_elem HS [] ((xs.length - 1 : Nat) : Int) (by omega) (by omega)
  simp only [Int.toNat_natCast] at hM hcc hfr
  rw [hz] at hM
  obtain ⟨v, rfl, hR⟩ := hM
  obtain ⟨A2, c2, rfl, hle, hC⟩ := Kd.R_reads hR
  have hlast : w.cell? ⟨r, xs.length - 1, none⟩ = some (.slice A2 z.length c2) := by
    have h := hcc 0 _ rfl
    simpa [dB, Kd.slice] using h
  have hgr : g ≠ r := fun h => by
    obtain ⟨cells, hh⟩ := (Kd.S_typed HS) r rfl
    rw [← h, HG] at hh
    simp at hh
  have hlt := (Array.getElem?_eq_some_iff.1 HG).1
  exact ⟨r, c, A2, c2, oki, hgr, hbg, hlt, by omega, hle, (cell_of_row _ _ _ _ _ _ HG).trans rfl, (cell_of_row _ _ _ _ _ _ HG).trans rfl, (cell_of_row _ _ _ _ _ _ HG).trans rfl, hlast, ⟨HG⟩, ⟨HB⟩, ⟨hH⟩, ⟨hR⟩⟩
set_option maxRecDepth 100000 in
theorem add_first (w0 : World) (base g : Nat) (B sum : Int) (L : Value) (T : Option Addr) (ys : List Int) (m cT : Nat) (ok : Nat → Prop) (w : World) (hok : ∀ k, ok k → k ≠ g) (hfr : ∀ k, w.heap.size ≤ k → ok k)
    (HP : PK w0 base g B L ok w [] sum) (HT : ∀ w' : World, Below base w0 w' → (∀ k, ¬ ok k → k ≠ g → k < w.heap.size → w'.heap[k]? = w.heap[k]?) → Kd.C (Kd.int .u8) w' T m ys) (hm : 1 ≤ m) (hm2 : (m : Int) < B) (hB : B ≤ 1048576) (hs0 : 0 ≤ sum) (hs : sum + m ≤ 8388608) :
    Calls Try.prog 27 #[.pointer (some ⟨g, 0, none⟩), .slice T m cT] w fun e w' => e = .returned (.tuple #[.int .i64 0, .int .i64 0, .int .i64 0]) ∧ PK w0 base g B L ok w' [ys] (sum + m) := by
  have hP := HP
  obtain ⟨A, c0, HG, HS, HB, hbg0⟩ := hP
  have hc0 : w.cell? ⟨g, 0, none⟩ = some (.int .i64 B) := (cell_of_row _ _ _ _ _ _ HG).trans rfl
  have hc2 : w.cell? ⟨g, 2, none⟩ = some (.int .i64 sum) := (cell_of_row _ _ _ _ _ _ HG).trans rfl
  have hc3 : w.cell? ⟨g, 3, none⟩ = some (.slice A 0 c0) := (cell_of_row _ _ _ _ _ _ HG).trans rfl
  have hm0 : ((m : Int) == 0) = false := by simp; omega
  have KT8 := fun (w' : World) (h : PK w0 base g B L ok w' ([] ++ [[]]) sum) (h2 : ∀ k, ¬ ok k → k ≠ g → k < w.heap.size → w'.heap[k]? = w.heap[k]?) => Aside0.mk (HT w' (by obtain ⟨_, _, _, _, h, _⟩ := h; exact h) h2)
  clear HG HB HS HT
  have tokA : True := trivial
  have Kok := Aside0.mk hok
  have KFR := Aside0.mk hfr
  clear hok hfr
  have KPD := fun (q : Nat) => (Aside0.mk (PK_drewN HP q))
  clear HP
  go_enter Try.func27, Try.ntmps27
  go_wp2_with (go_at_call 45; refine (last_none g A c0 _ hc3).mono ?_; rintro e w1 ⟨rfl, rfl⟩)
  go_quiet (fail)
  go_wp2_with (first | (go_at_call 46; have _t := tokA; refine (add_pk w0 base g B sum L ([] : List (List Int)) ok (w.drewN _) Kok.out KFR.out (KPD _).out (by simp)).mono ?_; rintro e w9 ⟨rfl, HP9, hsz9, hkp9⟩; have KT9 := KT8 w9 HP9 hkp9; have Kfr := Aside0.mk (fun (k : Nat) (hk : w9.heap.size ≤ k) => KFR.out k (Nat.le_trans hsz9 hk)); clear hsz9 hkp9; have hlen9 := zlen ([] : List (List Int)); obtain ⟨x9, hx9⟩ : ∃ x9, x9 = ([] : List (List Int)) ++ [[]] := ⟨_, rfl⟩; rw [← hx9] at HP9 hlen9; have hx9l : x9.length = 0 + 1 := (by rw [hx9]; simp); have hn9 : 1 ≤ x9.length := (by omega); obtain ⟨z, hz⟩ : ∃ z, z = ([] : List Int) := ⟨_, rfl⟩; have hlen9 := hlen9.trans hz.symm; obtain ⟨r, c, A2, c2, oki, hgr, hbg, hlt, hbs, hle, hd0, hd2, hd3, hlast, KG, KB, KH, KR⟩ := PK_last HP9 hn9 z hlen9; have KZ0 : Aside0 (z.length = 0) := ⟨by rw [hz]; rfl⟩; have KX := Aside0.mk hx9; have hzm : z.length ≤ 1 := (by rw [hz]; exact Nat.zero_le _); have hx9m : x9.length ≤ 65536 := (by omega); have KXL := Aside0.mk hx9l; have KZ := Aside0.mk hz; clear tokA HP9 hlen9 hx9 hz hx9l) | (go_at_call 45; have _t := hd3; refine (last_some g r 0 x9.length c hn9 (by omega) _ hd3).mono ?_; rintro e w1 ⟨rfl, k, rfl⟩) | ((with_reducible refine gate_builtin (b := .append) (xs := #[.tmp 78, .tmp 79]) rfl ?_); apply Aside0.out))
  refine ⟨?_⟩
  have hog : ∀ k, oki k → k ≠ g := fun k hk => Kok.out k ((KH.out).1 k hk)
  have hrow : ∀ q, (Value.slice A2 z.length c2).ownBlock = some q → oki q := KR.out.1
  refine Kd.R_append_rows (Kd.int .u8) (w0 := w0) base rfl (.tmp 78) (.tmp 79) 22 5 (.int .u8 0) 1 rfl Try.underlying22 info8 rfl (by decide) (by decide) (.slice A2 z.length c2) z ys T m cT (fun q => oki q ∨ ok q ∧ w9.heap.size ≤ q) (fun _ => False) rfl rfl (Kd.R_mono (Kd.R_drewN KR.out _) (fun _ h => Or.inl h)) (Kd.C_drewN KT9.out _) (fun _ _ h => h) (fun _ h => h.elim) (fun q hq => Or.inr ⟨Kfr.out q hq, hq⟩) (pw_below_drewN KB.out _) hbs (by omega) ?_
  intro v1 w1 h1 h2 h3 h4
  obtain ⟨zs, hzs⟩ : ∃ zs, zs = z ++ ys := ⟨_, rfl⟩
  rw [← hzs] at h1
  have KZS := Aside0.mk hzs
  clear hzs
  have hH1 := Kd.H_grown (Kd.H_drewN (Kd.H_widen KH.out) _) h3 (fun q hq => Or.inl (hrow q hq))
  have hG1 : w1.heap[g]? = w9.heap[g]? := (h3.block g hlt (fun h => hog g (hrow g h.symm) rfl)).trans rfl
  have hsz1 : w9.heap.size ≤ w1.heap.size := h3.size
  obtain ⟨A3, c3, rfl, hle3, hC3⟩ := Kd.R_reads h1
  have K1 := Aside0.mk h1
  have K2 := Aside0.mk h2
  have KH1 := Aside0.mk hH1
  have KG1 := Aside0.mk hG1
  clear h1 h2 h3 h4 hH1 hG1 hC3
  go_wp2_with ((with_reducible refine gate_store (t := 22) (p := 81) rfl ?_); apply Aside0.out)
  refine ⟨?_⟩
  refine Kd.H_store dB (w0 := w0) base rfl rfl 22 (.tmp 81) (.tmp 80) rfl 22 (g := r) (n := x9.length) (cap := c) (o' := x9.length - 1) ((x9.length - 1 : Nat) : Int) 0 x9 zs (.slice A3 zs.length c3) [.slice A3 zs.length c3] [.slice A2 z.length c2] ok (fun q => oki q ∨ ok q ∧ w9.heap.size ≤ q) (fun q => oki q ∨ ok q ∧ w9.heap.size ≤ q) rfl (by simp [dB, Kd.slice]) rfl rfl (by kernel_rfl) (by intro q hq; rw [List.mem_singleton.1 hq]; rfl) KH1.out (by omega) (by omega) (by simp [dB, Kd.slice]) ⟨_, rfl, K1.out⟩ (fun _ h => h) K2.out ?_
  intro w2 hS2 hB2 hg2
  have hG2 : w2.heap[g]? = w9.heap[g]? := (hg2.block g (Nat.lt_of_lt_of_le hlt hsz1) (fun h => hgr (by injection h))).trans KG1.out
  have hsz2 : w1.heap.size ≤ w2.heap.size := hg2.size
  have he0 : w2.cell? ⟨g, 0, none⟩ = some (.int .i64 B) := (cell_of_row _ _ _ _ _ _ (hG2.trans KG.out)).trans rfl
  have he2 : w2.cell? ⟨g, 2, none⟩ = some (.int .i64 sum) := (cell_of_row _ _ _ _ _ _ (hG2.trans KG.out)).trans rfl
  have he3 : w2.cell? ⟨g, 3, none⟩ = some (.slice (some ⟨r, 0, none⟩) x9.length c) := (cell_of_row _ _ _ _ _ _ (hG2.trans KG.out)).trans rfl
  have hfz2 : w2.frozen? ⟨g, 2, none⟩ = false := blk_frozen (hG2.trans KG.out) 2
  have K3 := Aside0.mk hS2
  have K4 := Aside0.mk hB2
  have KG2 := Aside0.mk hG2
  clear hS2 hB2 hg2 hG2
  go_wp2
  go_ret3
  have hxe : ([] : List (List Int)) ++ [ys] = x9.set (x9.length - 1) zs := by
    have h := KX.out
    rw [KZS.out, KZ.out, h, set_last]
  refine ⟨by rw [KXL.out, KZ0.out]; rfl, ?_⟩
  rw [show ([ys] : List (List Int)) = [] ++ [ys] from rfl]
  rw [hxe]
  refine ⟨some ⟨r, 0, none⟩, c, ?_, ?_, K4.out.setCell hbg _, hbg⟩
  · rw [List.length_set]
    exact blk_set (KG2.out.trans KG.out) 2 _
  · rw [List.length_set]
    have h := Kd.S_far K3.out (p := ⟨g, 2, none⟩) Kok.out (.int .i64 (sum + m))
    simp only [Int.toNat_natCast] at h
    exact h
set_option maxRecDepth 100000 in
theorem add_more (w0 : World) (base g : Nat) (B sum : Int) (L : Value) (xs : List (List Int)) (T : Option Addr) (ys : List Int) (m cT : Nat) (ok : Nat → Prop) (w : World) (hok : ∀ k, ok k → k ≠ g) (hfr : ∀ k, w.heap.size ≤ k → ok k)
    (HP : PK w0 base g B L ok w xs sum) (HT : ∀ w' : World, Below base w0 w' → (∀ k, ¬ ok k → k ≠ g → k < w.heap.size → w'.heap[k]? = w.heap[k]?) → Kd.C (Kd.int .u8) w' T m ys) (hn : 1 ≤ xs.length) (hn2 : xs.length ≤ 65535) (hm : 1 ≤ m) (hm2 : (m : Int) < B) (hB : B ≤ 1048576) (hs0 : 0 ≤ sum) (hs : sum + m ≤ 8388608)
    (hl : (((xs.getD (xs.length - 1) []).length : Nat) : Int) ≤ B) (hp : B < (((xs.getD (xs.length - 1) []).length : Nat) : Int) + m) :
    Calls Try.prog 27 #[.pointer (some ⟨g, 0, none⟩), .slice T m cT] w fun e w' => e = .returned (.tuple #[.int .i64 xs.length, .int .i64 0, .int .i64 0]) ∧ PK w0 base g B L ok w' (xs ++ [ys]) (sum + m) := by
  obtain ⟨z1, hz1⟩ : ∃ z1, xs.getD (xs.length - 1) [] = z1 := ⟨_, rfl⟩
  rw [hz1] at hp hl
  obtain ⟨r1, c1, A1, k1, okj, -, hbg1, hlt1, hbs1, hle1, hc0, hc2, hc3, hlast1, -, -, -, -⟩ := PK_last HP hn z1 hz1
  have hm0 : ((m : Int) == 0) = false := by simp; omega
  have hmost : (((xs.length : Nat) : Int) == 65536) = false := by simp; omega
  have KT8 := fun (w' : World) (h : PK w0 base g B L ok w' (xs ++ [[]]) sum) (h2 : ∀ k, ¬ ok k → k ≠ g → k < w.heap.size → w'.heap[k]? = w.heap[k]?) => Aside0.mk (HT w' (by obtain ⟨_, _, _, _, h, _⟩ := h; exact h) h2)
  clear HT hz1
  have tokA : True := trivial
  have Kok := Aside0.mk hok
  have KFR := Aside0.mk hfr
  clear hok hfr
  have KPD := fun (q : Nat) => (Aside0.mk (PK_drewN HP q))
  clear HP
  go_enter Try.func27, Try.ntmps27
  go_wp2_with (go_at_call 45; refine (last_some g r1 0 xs.length c1 hn (by omega) _ hc3).mono ?_; rintro e w1 ⟨rfl, k1, rfl⟩)
  go_quiet (fail)
  go_wp2_with (first | (go_at_call 46; have _t := tokA; refine (add_pk w0 base g B sum L xs ok (w.drewN _) Kok.out KFR.out (KPD _).out (by omega)).mono ?_; rintro e w9 ⟨rfl, HP9, hsz9, hkp9⟩; have KT9 := KT8 w9 HP9 hkp9; have Kfr := Aside0.mk (fun (k : Nat) (hk : w9.heap.size ≤ k) => KFR.out k (Nat.le_trans hsz9 hk)); clear hsz9 hkp9; have hlen9 := zlen xs; obtain ⟨x9, hx9⟩ : ∃ x9, x9 = xs ++ [[]] := ⟨_, rfl⟩; rw [← hx9] at HP9 hlen9; have hx9l : x9.length = xs.length + 1 := (by rw [hx9]; simp); have hn9 : 1 ≤ x9.length := (by omega); obtain ⟨z, hz⟩ : ∃ z, z = ([] : List Int) := ⟨_, rfl⟩; have hlen9 := hlen9.trans hz.symm; obtain ⟨r, c, A2, c2, oki, hgr, hbg, hlt, hbs, hle, hd0, hd2, hd3, hlast, KG, KB, KH, KR⟩ := PK_last HP9 hn9 z hlen9; have KZ0 : Aside0 (z.length = 0) := ⟨by rw [hz]; rfl⟩; have KX := Aside0.mk hx9; have hzm : z.length ≤ 1 := (by rw [hz]; exact Nat.zero_le _); have hx9m : x9.length ≤ 65536 := (by omega); have KXL := Aside0.mk hx9l; have KZ := Aside0.mk hz; clear tokA HP9 hlen9 hx9 hz hx9l) | (go_at_call 45; have _t := hd3; refine (last_some g r 0 x9.length c hn9 (by omega) _ hd3).mono ?_; rintro e w1 ⟨rfl, k, rfl⟩) | ((with_reducible refine gate_builtin (b := .append) (xs := #[.tmp 78, .tmp 79]) rfl ?_); apply Aside0.out))
  refine ⟨?_⟩
  have hog : ∀ k, oki k → k ≠ g := fun k hk => Kok.out k ((KH.out).1 k hk)
  have hrow : ∀ q, (Value.slice A2 z.length c2).ownBlock = some q → oki q := KR.out.1
  refine Kd.R_append_rows (Kd.int .u8) (w0 := w0) base rfl (.tmp 78) (.tmp 79) 22 5 (.int .u8 0) 1 rfl Try.underlying22 info8 rfl (by decide) (by decide) (.slice A2 z.length c2) z ys T m cT (fun q => oki q ∨ ok q ∧ w9.heap.size ≤ q) (fun _ => False) rfl rfl (Kd.R_mono (Kd.R_drewN KR.out _) (fun _ h => Or.inl h)) (Kd.C_drewN KT9.out _) (fun _ _ h => h) (fun _ h => h.elim) (fun q hq => Or.inr ⟨Kfr.out q hq, hq⟩) (pw_below_drewN KB.out _) hbs (by omega) ?_
  intro v1 w1 h1 h2 h3 h4
  obtain ⟨zs, hzs⟩ : ∃ zs, zs = z ++ ys := ⟨_, rfl⟩
  rw [← hzs] at h1
  have KZS := Aside0.mk hzs
  clear hzs
  have hH1 := Kd.H_grown (Kd.H_drewN (Kd.H_widen KH.out) _) h3 (fun q hq => Or.inl (hrow q hq))
  have hG1 : w1.heap[g]? = w9.heap[g]? := (h3.block g hlt (fun h => hog g (hrow g h.symm) rfl)).trans rfl
  have hsz1 : w9.heap.size ≤ w1.heap.size := h3.size
  obtain ⟨A3, c3, rfl, hle3, hC3⟩ := Kd.R_reads h1
  have K1 := Aside0.mk h1
  have K2 := Aside0.mk h2
  have KH1 := Aside0.mk hH1
  have KG1 := Aside0.mk hG1
  clear h1 h2 h3 h4 hH1 hG1 hC3
  go_wp2_with ((with_reducible refine gate_store (t := 22) (p := 81) rfl ?_); apply Aside0.out)
  refine ⟨?_⟩
  refine Kd.H_store dB (w0 := w0) base rfl rfl 22 (.tmp 81) (.tmp 80) rfl 22 (g := r) (n := x9.length) (cap := c) (o' := x9.length - 1) ((x9.length - 1 : Nat) : Int) 0 x9 zs (.slice A3 zs.length c3) [.slice A3 zs.length c3] [.slice A2 z.length c2] ok (fun q => oki q ∨ ok q ∧ w9.heap.size ≤ q) (fun q => oki q ∨ ok q ∧ w9.heap.size ≤ q) rfl (by simp [dB, Kd.slice]) rfl rfl (by kernel_rfl) (by intro q hq; rw [List.mem_singleton.1 hq]; rfl) KH1.out (by omega) (by omega) (by simp [dB, Kd.slice]) ⟨_, rfl, K1.out⟩ (fun _ h => h) K2.out ?_
  intro w2 hS2 hB2 hg2
  have hG2 : w2.heap[g]? = w9.heap[g]? := (hg2.block g (Nat.lt_of_lt_of_le hlt hsz1) (fun h => hgr (by injection h))).trans KG1.out
  have hsz2 : w1.heap.size ≤ w2.heap.size := hg2.size
  have he0 : w2.cell? ⟨g, 0, none⟩ = some (.int .i64 B) := (cell_of_row _ _ _ _ _ _ (hG2.trans KG.out)).trans rfl
  have he2 : w2.cell? ⟨g, 2, none⟩ = some (.int .i64 sum) := (cell_of_row _ _ _ _ _ _ (hG2.trans KG.out)).trans rfl
  have he3 : w2.cell? ⟨g, 3, none⟩ = some (.slice (some ⟨r, 0, none⟩) x9.length c) := (cell_of_row _ _ _ _ _ _ (hG2.trans KG.out)).trans rfl
  have hfz2 : w2.frozen? ⟨g, 2, none⟩ = false := blk_frozen (hG2.trans KG.out) 2
  have K3 := Aside0.mk hS2
  have K4 := Aside0.mk hB2
  have KG2 := Aside0.mk hG2
  clear hS2 hB2 hg2 hG2
  go_wp2
  go_ret3
  have hxe : xs ++ [ys] = x9.set (x9.length - 1) zs := by
    have h := KX.out
    rw [KZS.out, KZ.out, h, set_last]
  refine ⟨by rw [KXL.out, KZ0.out]; simp, ?_⟩
  skip
  rw [hxe]
  refine ⟨some ⟨r, 0, none⟩, c, ?_, ?_, K4.out.setCell hbg _, hbg⟩
  · rw [List.length_set]
    exact blk_set (KG2.out.trans KG.out) 2 _
  · rw [List.length_set]
    have h := Kd.S_far K3.out (p := ⟨g, 2, none⟩) Kok.out (.int .i64 (sum + m))
    simp only [Int.toNat_natCast] at h
    exact h
end Go.Proofs.Ytbnkglcgblhjeaa.Frag
