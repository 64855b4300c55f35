/- Blocks: Load, the program's and the document's, whole: what they answer. -/
import Derived.Test.YtpdggoapjbjmhaaBk7
set_option linter.unusedVariables false
set_option linter.unusedSimpArgs false
namespace Go.Proofs.Ytpdggoapjbjmhaa.Bk
open Go.RowKit Go.Proofs.Ytpdggoapjbjmhaa.Fd Go.Proofs.Ytpdggoapjbjmhaa.Bg Go.Proofs.Ytpdggoapjbjmhaa.Lz Go.Proofs.Ytpdggoapjbjmhaa.Ma Go.Proofs.YtpdggoapjbjmhaaW.PrintWords Go.Proofs.YtpdggoapjbjmhaaW.PrintLast Go.Proofs.YtpdggoapjbjmhaaW.PrintMore
theorem prt_e (word : Int) : (prt word).2.2 = 0 ∨ (prt word).2.2 = 1 := by
  unfold prt
  split
  · exact Or.inl rfl
  · split
    · exact Or.inl rfl
    · exact Or.inr rfl
theorem load_any (w : World) (im : List Int) (A : Option Addr) (c : Nat) (a word plain : Int) (hC : Kd.C (Kd.int .u8) w A im.length im) (hc : im.length ≤ c) (him : isB im) (hl : im.length ≤ 1000000) (ha1 : -9223372036854775808 ≤ a) (ha2 : a ≤ 9223372036854775807) (hw1 : -9223372036854775808 ≤ word) (hw2 : word ≤ 9223372036854775807) :
    Calls Try.prog 26 #[.slice A im.length c, .int .i64 a, .int .i64 word, .int .i64 plain] w fun e w' => ∃ v, e = .returned (.tuple #[v, .int .i64 (ldP im a word plain).2]) ∧ Row.OwnB w' w.heap.size v (ldP im a word plain).1 ∧ Below w.heap.size w w' := by
  unfold ldP
  by_cases p1 : plain < 1 ∨ 1048576 < plain
  · rw [if_pos p1]
    refine (load_plain_p w im A c a word plain _ _ rfl rfl ?_).mono ?_
    · rcases p1 with h | h
      · exact Or.inl (decide_eq_true h)
      · refine Or.inr ⟨decide_eq_false (by omega), decide_eq_true (by omega)⟩
    · rintro e w' ⟨rfl, rfl⟩
      exact ⟨_, rfl, Row.OwnB.nil _ _, Below.refl _ _⟩
  rw [if_neg p1]
  have b1 : 1 ≤ plain := by omega
  have b2 : plain ≤ 1048576 := by omega
  by_cases p2 : word = 0
  · rw [if_pos p2]
    subst p2
    obtain ⟨n, rfl⟩ := Int.eq_ofNat_of_zero_le (show 0 ≤ plain by omega)
    refine (load_zero_p w im A c a n (by omega) (by omega)).mono ?_
    rintro e w' ⟨v, rfl, hO, hB⟩
    exact ⟨v, rfl, hO, hB⟩
  rw [if_neg p2]
  obtain ⟨n, p, e0, hp⟩ : ∃ n p e0, prt word = (n, p, e0) := ⟨_, _, _, rfl⟩
  have he := prt_e word
  have hok := @prt_ok word
  rw [hp] at he hok ⊢
  simp only at he hok ⊢
  by_cases p3 : e0 ≠ 0 ∨ (p = false ∧ n ≠ plain)
  · rw [if_pos p3]
    by_cases p31 : e0 = 0
    · subst p31
      rcases p3 with h | ⟨rfl, h⟩
      · exact absurd rfl h
      · refine (load_size_p w im A c a word plain b1 b2 p2 hw1 hw2 n hp h).mono ?_
        rintro e w' ⟨rfl, hB⟩
        exact ⟨_, rfl, Row.OwnB.nil _ _, hB⟩
    · obtain rfl : e0 = 1 := he.resolve_left p31
      refine (load_err_p w im A c a word plain b1 b2 p2 hw1 hw2 n p hp).mono ?_
      rintro e w' ⟨rfl, hB⟩
      exact ⟨_, rfl, Row.OwnB.nil _ _, hB⟩
  rw [if_neg p3]
  obtain rfl : e0 = 0 := by
    rcases he with h | h
    · exact h
    · exact absurd (Or.inl (by omega)) p3
  have hn : p = true ∨ (p = false ∧ n = plain) := by
    cases p with
    | true => exact Or.inl rfl
    | false => exact Or.inr ⟨rfl, Classical.byContradiction fun h => p3 (Or.inr ⟨rfl, h⟩)⟩
  obtain ⟨hn1, hn2⟩ := hok rfl
  by_cases p4 : a < 0 ∨ (im.length : Int) < a + n + 4
  · rw [if_pos p4]
    refine (load_range_p w im A c a word plain b1 b2 p2 hw1 hw2 n p hp hn hl ha1 ha2 p4).mono ?_
    rintro e w' ⟨rfl, hB⟩
    exact ⟨_, rfl, Row.OwnB.nil _ _, hB⟩
  rw [if_neg p4]
  obtain ⟨s, rfl⟩ := Int.eq_ofNat_of_zero_le (show 0 ≤ a by omega)
  obtain ⟨m, rfl⟩ := Int.eq_ofNat_of_zero_le (show 0 ≤ n by omega)
  rw [show cutx im (s : Int) (m : Int) = (im.drop s).take m by unfold cutx; rw [Int.toNat_natCast, Int.toNat_natCast], Int.toNat_natCast, Int.toNat_natCast]
  have hr : s + m + 4 ≤ im.length := by omega
  have hxb : isB ((im.drop s).take m) := fun x hx => him x (List.mem_of_mem_drop (List.mem_of_mem_take hx))
  have hxl : ((im.drop s).take m).length = m := by rw [List.length_take, List.length_drop]; omega
  have hm1 : m ≤ 1000000 := by omega
  clear p4 p3 hn1 hn2 hok he ha1 ha2 p1
  have ku : ∀ (w1 : World) (A1 : Option Addr) (c1 : Nat), Below w.heap.size w w1 → Kd.C (Kd.int .u8) w1 A1 m ((im.drop s).take m) → m ≤ c1 → Calls Try.prog 46 #[.slice A1 m c1, .bool p, .int .i64 plain] w1 fun e w' => (∃ v, e = .returned (.tuple #[v, .int .i64 (unp ((im.drop s).take m) p plain).2]) ∧ Row.OwnB w' w1.heap.size v (unp ((im.drop s).take m) p plain).1) ∧ Below w1.heap.size w1 w' := fun w1 A1 c1 hb hC1 hc1 => by
    have h := unpack_any w1 ((im.drop s).take m) A1 c1 p plain (by rw [hxl]; exact hC1) (by rw [hxl]; exact hc1) hxb (by rw [hxl]; exact hm1)
    rw [hxl] at h
    exact h.mono fun e w' ⟨v, h1, h2, h3⟩ => ⟨⟨v, h1, h2⟩, h3⟩
  generalize unp ((im.drop s).take m) p plain = UU at ku ⊢
  obtain ⟨U, ue⟩ := UU
  obtain ⟨y, hy⟩ : ∃ y, y = rdN im (s + m) 4 := ⟨_, rfl⟩
  obtain ⟨z, hz⟩ : ∃ z, z = Sum.crc 0 ((im.drop s).take m) := ⟨_, rfl⟩
  rw [← hy, ← hz]
  by_cases p5 : y ≠ z
  · rw [if_pos p5]
    have h : Calls Try.prog 26 #[.slice A im.length c, .int .i64 s, .int .i64 word, .int .i64 plain] w fun e w' => e = .returned (.tuple #[.slice none 0 0, .int .i64 140]) ∧ Below w.heap.size w w' := by
      rcases hn with rfl | ⟨rfl, hn⟩
      · exact load_sumtrue_p w im A c s m word plain hC hc him b1 b2 p2 hw1 hw2 hp hl hr y z hy hz U ue ku p5
      · exact load_sumfalse_p w im A c s m word plain hC hc him b1 b2 p2 hw1 hw2 hp hn hl hr y z hy hz U ue ku p5
    refine h.mono ?_
    rintro e w' ⟨rfl, hB⟩
    exact ⟨_, rfl, Row.OwnB.nil _ _, hB⟩
  rw [if_neg p5]
  have p5 : y = z := Classical.byContradiction p5
  by_cases p6 : ue ≠ 0 ∨ (U.length : Int) ≠ plain
  · rw [if_pos p6]
    have h : Calls Try.prog 26 #[.slice A im.length c, .int .i64 s, .int .i64 word, .int .i64 plain] w fun e w' => e = .returned (.tuple #[.slice none 0 0, .int .i64 6]) ∧ Below w.heap.size w w' := by
      rcases hn with rfl | ⟨rfl, hn⟩
      · exact load_formtrue_p w im A c s m word plain hC hc him b1 b2 p2 hw1 hw2 hp hl hr y z hy hz U ue ku p5 p6
      · exact load_formfalse_p w im A c s m word plain hC hc him b1 b2 p2 hw1 hw2 hp hn hl hr y z hy hz U ue ku p5 p6
    refine h.mono ?_
    rintro e w' ⟨rfl, hB⟩
    exact ⟨_, rfl, Row.OwnB.nil _ _, hB⟩
  rw [if_neg p6]
  have q1 : ue = 0 := Classical.byContradiction fun h => p6 (Or.inl h)
  have q2 : (U.length : Int) = plain := Classical.byContradiction fun h => p6 (Or.inr h)
  rcases hn with rfl | ⟨rfl, hn⟩
  · exact load_oktrue_p w im A c s m word plain hC hc him b1 b2 p2 hw1 hw2 hp hl hr y z hy hz U ue ku p5 q1 q2
  · exact load_okfalse_p w im A c s m word plain hC hc him b1 b2 p2 hw1 hw2 hp hn hl hr y z hy hz U ue ku p5 q1 q2
theorem rld_any (w : World) (im : List Int) (A : Option Addr) (c : Nat) (a word plain : Int) (hC : Kd.C (Kd.int .u8) w A im.length im) (hc : im.length ≤ c) (him : isB im) (hl : im.length ≤ 1000000) (ha1 : -9223372036854775808 ≤ a) (ha2 : a ≤ 9223372036854775807) (hw1 : -9223372036854775808 ≤ word) (hw2 : word ≤ 9223372036854775807) :
    Calls Try.prog 24 #[.slice A im.length c, .int .i64 a, .int .i64 word, .int .i64 plain] w fun e w' => ∃ A1 c1, e = .returned (.tuple #[.slice A1 (ldP im a word plain).1.length c1, .int .i64 (ldP im a word plain).2]) ∧ Kd.C (Kd.int .u8) w' A1 (ldP im a word plain).1.length (ldP im a word plain).1 ∧ Below w.heap.size w w' := by
  unfold ldP
  by_cases p1 : plain < 1 ∨ 1048576 < plain
  · rw [if_pos p1]
    refine (load_plain_r w im A c a word plain _ _ rfl rfl ?_).mono ?_
    · rcases p1 with h | h
      · exact Or.inl (decide_eq_true h)
      · refine Or.inr ⟨decide_eq_false (by omega), decide_eq_true (by omega)⟩
    · rintro e w' ⟨rfl, rfl⟩
      exact ⟨none, 0, rfl, Kd.C_nil _ _, Below.refl _ _⟩
  rw [if_neg p1]
  have b1 : 1 ≤ plain := by omega
  have b2 : plain ≤ 1048576 := by omega
  by_cases p2 : word = 0
  · rw [if_pos p2]
    subst p2
    obtain ⟨n, rfl⟩ := Int.eq_ofNat_of_zero_le (show 0 ≤ plain by omega)
    refine (load_zero_r w im A c a n (by omega) (by omega)).mono ?_
    rintro e w' ⟨v, rfl, hO, hB⟩
    obtain ⟨A1, c1, rfl, -, hC1⟩ := hO.slice
    exact ⟨A1, c1, rfl, hC1, hB⟩
  rw [if_neg p2]
  obtain ⟨n, p, e0, hp⟩ : ∃ n p e0, prt word = (n, p, e0) := ⟨_, _, _, rfl⟩
  have he := prt_e word
  have hok := @prt_ok word
  rw [hp] at he hok ⊢
  simp only at he hok ⊢
  by_cases p3 : e0 ≠ 0 ∨ (p = false ∧ n ≠ plain)
  · rw [if_pos p3]
    by_cases p31 : e0 = 0
    · subst p31
      rcases p3 with h | ⟨rfl, h⟩
      · exact absurd rfl h
      · refine (load_size_r w im A c a word plain b1 b2 p2 hw1 hw2 n hp h).mono ?_
        rintro e w' ⟨rfl, hB⟩
        exact ⟨none, 0, rfl, Kd.C_nil _ _, hB⟩
    · obtain rfl : e0 = 1 := he.resolve_left p31
      refine (load_err_r w im A c a word plain b1 b2 p2 hw1 hw2 n p hp).mono ?_
      rintro e w' ⟨rfl, hB⟩
      exact ⟨none, 0, rfl, Kd.C_nil _ _, hB⟩
  rw [if_neg p3]
  obtain rfl : e0 = 0 := by
    rcases he with h | h
    · exact h
    · exact absurd (Or.inl (by omega)) p3
  have hn : p = true ∨ (p = false ∧ n = plain) := by
    cases p with
    | true => exact Or.inl rfl
    | false => exact Or.inr ⟨rfl, Classical.byContradiction fun h => p3 (Or.inr ⟨rfl, h⟩)⟩
  obtain ⟨hn1, hn2⟩ := hok rfl
  by_cases p4 : a < 0 ∨ (im.length : Int) < a + n + 4
  · rw [if_pos p4]
    refine (load_range_r w im A c a word plain b1 b2 p2 hw1 hw2 n p hp hn hl ha1 ha2 p4).mono ?_
    rintro e w' ⟨rfl, hB⟩
    exact ⟨none, 0, rfl, Kd.C_nil _ _, hB⟩
  rw [if_neg p4]
  obtain ⟨s, rfl⟩ := Int.eq_ofNat_of_zero_le (show 0 ≤ a by omega)
  obtain ⟨m, rfl⟩ := Int.eq_ofNat_of_zero_le (show 0 ≤ n by omega)
  rw [show cutx im (s : Int) (m : Int) = (im.drop s).take m by unfold cutx; rw [Int.toNat_natCast, Int.toNat_natCast], Int.toNat_natCast, Int.toNat_natCast]
  have hr : s + m + 4 ≤ im.length := by omega
  have hxb : isB ((im.drop s).take m) := fun x hx => him x (List.mem_of_mem_drop (List.mem_of_mem_take hx))
  have hxl : ((im.drop s).take m).length = m := by rw [List.length_take, List.length_drop]; omega
  have hm1 : m ≤ 1000000 := by omega
  clear p4 p3 hn1 hn2 hok he ha1 ha2 p1
  have ku : ∀ (w1 : World) (A1 : Option Addr) (c1 : Nat), Below w.heap.size w w1 → Kd.C (Kd.int .u8) w1 A1 m ((im.drop s).take m) → m ≤ c1 → Calls Try.prog 43 #[.slice A1 m c1, .bool p, .int .i64 plain] w1 fun e w' => (∃ A1 c1, e = .returned (.tuple #[.slice A1 (unp ((im.drop s).take m) p plain).1.length c1, .int .i64 (unp ((im.drop s).take m) p plain).2]) ∧ Kd.C (Kd.int .u8) w' A1 (unp ((im.drop s).take m) p plain).1.length (unp ((im.drop s).take m) p plain).1) ∧ Below w1.heap.size w1 w' := fun w1 A1 c1 hb hC1 hc1 => by
    have h := runpack_any w1 ((im.drop s).take m) A1 c1 p plain (by rw [hxl]; exact hC1) (by rw [hxl]; exact hc1) hxb (by rw [hxl]; exact hm1)
    rw [hxl] at h
    exact h.mono fun e w' ⟨A2, c2, h1, h2, h3⟩ => ⟨⟨A2, c2, h1, h2⟩, h3⟩
  generalize unp ((im.drop s).take m) p plain = UU at ku ⊢
  obtain ⟨U, ue⟩ := UU
  obtain ⟨y, hy⟩ : ∃ y, y = rdN im (s + m) 4 := ⟨_, rfl⟩
  obtain ⟨z, hz⟩ : ∃ z, z = Sum.crc 0 ((im.drop s).take m) := ⟨_, rfl⟩
  rw [← hy, ← hz]
  by_cases p5 : y ≠ z
  · rw [if_pos p5]
    have h : Calls Try.prog 24 #[.slice A im.length c, .int .i64 s, .int .i64 word, .int .i64 plain] w fun e w' => e = .returned (.tuple #[.slice none 0 0, .int .i64 140]) ∧ Below w.heap.size w w' := by
      rcases hn with rfl | ⟨rfl, hn⟩
      · exact load_sumtrue_r w im A c s m word plain hC hc him b1 b2 p2 hw1 hw2 hp hl hr y z hy hz U ue ku p5
      · exact load_sumfalse_r w im A c s m word plain hC hc him b1 b2 p2 hw1 hw2 hp hn hl hr y z hy hz U ue ku p5
    refine h.mono ?_
    rintro e w' ⟨rfl, hB⟩
    exact ⟨none, 0, rfl, Kd.C_nil _ _, hB⟩
  rw [if_neg p5]
  have p5 : y = z := Classical.byContradiction p5
  by_cases p6 : ue ≠ 0 ∨ (U.length : Int) ≠ plain
  · rw [if_pos p6]
    have h : Calls Try.prog 24 #[.slice A im.length c, .int .i64 s, .int .i64 word, .int .i64 plain] w fun e w' => e = .returned (.tuple #[.slice none 0 0, .int .i64 6]) ∧ Below w.heap.size w w' := by
      rcases hn with rfl | ⟨rfl, hn⟩
      · exact load_formtrue_r w im A c s m word plain hC hc him b1 b2 p2 hw1 hw2 hp hl hr y z hy hz U ue ku p5 p6
      · exact load_formfalse_r w im A c s m word plain hC hc him b1 b2 p2 hw1 hw2 hp hn hl hr y z hy hz U ue ku p5 p6
    refine h.mono ?_
    rintro e w' ⟨rfl, hB⟩
    exact ⟨none, 0, rfl, Kd.C_nil _ _, hB⟩
  rw [if_neg p6]
  have q1 : ue = 0 := Classical.byContradiction fun h => p6 (Or.inl h)
  have q2 : (U.length : Int) = plain := Classical.byContradiction fun h => p6 (Or.inr h)
  rcases hn with rfl | ⟨rfl, hn⟩
  · exact load_oktrue_r w im A c s m word plain hC hc him b1 b2 p2 hw1 hw2 hp hl hr y z hy hz U ue ku p5 q1 q2
  · exact load_okfalse_r w im A c s m word plain hC hc him b1 b2 p2 hw1 hw2 hp hn hl hr y z hy hz U ue ku p5 q1 q2
end Go.Proofs.Ytpdggoapjbjmhaa.Bk
