/- Texts put together: Me1, Me2, Me3. -/
import Derived.Test.YtpdggoapjbjmhaaMeP
import Derived.Test.YtpdggoapjbjmhaaKB
import Derived.OpenShut
/- Streams in chunks: where chunks lie, plain; what the printed functions come to. -/
set_option linter.unusedVariables false
set_option linter.unusedSimpArgs false
namespace Go.Proofs.Ytpdggoapjbjmhaa.Me
open Go.RowKit Go.Proofs.Ytpdggoapjbjmhaa.Fd Go.Proofs.Ytpdggoapjbjmhaa.Bg Go.Proofs.Ytpdggoapjbjmhaa.Lz Go.Proofs.Ytpdggoapjbjmhaa.Ma Go.Proofs.YtpdggoapjbjmhaaW.PrintWords Go.Proofs.YtpdggoapjbjmhaaW.PrintLast Go.Proofs.YtpdggoapjbjmhaaW.PrintMore
abbrev Ck := PMetaParts.S62
/-- May it be a chunk? -/
def rgt (c : Ck) : Bool := decide (0 ≤ c.f0) && (decide (1 ≤ c.f1) && (decide (c.f1 ≤ 8192) && (decide (1 ≤ c.f2) && (decide (c.f2 ≤ 8192) && (c.f3 || c.f1 == c.f2)))))
theorem rgt_iff (c : Ck) : rgt c = true ↔ 0 ≤ c.f0 ∧ 1 ≤ c.f1 ∧ c.f1 ≤ 8192 ∧ 1 ≤ c.f2 ∧ c.f2 ≤ 8192 ∧ (c.f3 = true ∨ c.f1 = c.f2) := by
  unfold rgt
  simp
theorem right_f (c : Ck) : PMetaParts.meta_right.f c.f0 c.f1 c.f2 c.f3 c.f4 = some (rgt c) := by
  unfold PMetaParts.meta_right.f PMetaParts.meta_between.f rgt
  by_cases h1 : 0 ≤ c.f0 <;> by_cases h2 : 1 ≤ c.f1 <;> by_cases h3 : c.f1 ≤ 8192 <;> by_cases h4 : 1 ≤ c.f2 <;> by_cases h5 : c.f2 ≤ 8192 <;> simp [h1, h2, h3, h4, h5]
  cases c.f3 <;> simp
theorem wm {x : Int} (h : -9223372036854775808 ≤ x) (h2 : x < 9223372036854775808) : wrap64 x = x := by unfold wrap64; omega
theorem fload_l0 (l : List Int) (hl : ∀ x ∈ l, 0 ≤ x ∧ x < 256) (h8 : l.length ≤ 8) : ∀ (j i k : Nat), i + j = l.length → j < k → PMetaParts.field_load.l0 k l ((val (l.take i) : Nat) : Int) (l.length : Int) (i : Int) = some ((val l : Nat) : Int)
  | 0, i, k + 1, hj, hk => by rw [PMetaParts.field_load.l0, if_neg (by omega), List.take_of_length_le (by omega)]
  | j + 1, i, k + 1, hj, hk => by
    have hi : i < l.length := by omega
    have hx := hl l[i] (List.getElem_mem hi)
    have hr : rd l (i : Int) = l[i] := by
      unfold rd
      rw [Int.toNat_natCast, List.getD_eq_getElem?_getD, List.getElem?_eq_getElem hi]
      rfl
    obtain ⟨y, hy⟩ := Int.eq_ofNat_of_zero_le hx.1
    have e8 : wrap64 (8 * (i : Int)) = ((8 * i : Nat) : Int) := by unfold wrap64; omega
    have hsh : shl .u64 (IntKind.u64.wrap (rd l (i : Int))) (wrap64 (8 * (i : Int))) = IntKind.u64.wrap ((y : Int) * 2 ^ (8 * i)) := by
      rw [hr, hy, u64_small (y : Int) (by omega) (by omega), e8]
      unfold shl
      rw [Int.toNat_natCast, Nat.min_eq_left (by show 8 * i ≤ 64; omega)]
    have hv := val_lt (l.take i) (fun x hx => hl x (List.mem_of_mem_take hx))
    rw [List.length_take, Nat.min_eq_left (by omega)] at hv
    have ht : val (l.take (i + 1)) = val (l.take i) + y * 2 ^ (8 * i) := by
      rw [List.take_succ_eq_append_getElem hi, val_snoc, List.length_take, Nat.min_eq_left (by omega), hy, Int.toNat_natCast]
    rw [PMetaParts.field_load.l0, if_pos (by omega), if_pos (by omega), if_pos (by omega), if_pos (by rw [e8]; omega), hsh, or64 _ y i hv (by omega) (by omega), ← ht, show wrap64 ((i : Int) + 1) = ((i + 1 : Nat) : Int) by unfold wrap64; omega]
    exact fload_l0 l hl h8 j (i + 1) k (by omega) (by omega)
theorem get_f (l : List Int) (hl : ∀ x ∈ l, 0 ≤ x ∧ x < 256) (at_ w : Nat) (hw : w = 2 ∨ w = 4) (hm : at_ + w ≤ l.length) (hb : l.length ≤ 1000000) (k : Nat) (hk : 9 ≤ k) : PMetaParts.field_Get.f k l (at_ : Int) (w : Int) = some (((rdN l at_ w : Nat) : Int), 0) := by
  obtain ⟨k, rfl⟩ : ∃ m, k = m + 1 := ⟨k - 1, by omega⟩
  have h1 : PMetaParts.field_wide.f (k + 1) (w : Int) = some true := by
    unfold PMetaParts.field_wide.f
    rcases hw with rfl | rfl
    · rw [if_neg (by decide), PMetaParts.field_wide.j0, if_pos (by decide)]
    · rw [if_neg (by decide), PMetaParts.field_wide.j0, if_neg (by decide), if_pos (by decide)]
  have h2 : PMetaParts.field_within.f l (at_ : Int) (w : Int) = some true := by
    unfold PMetaParts.field_within.f
    rw [if_pos (by omega), if_pos (by omega), if_pos (by omega), wm (by omega) (by omega), decide_eq_true (by omega)]
  have e1 : (l.take (at_ + w)).drop at_ = (l.drop at_).take w := by rw [List.drop_take, Nat.add_sub_cancel_left]
  have e2 : ((l.drop at_).take w).length = w := by rw [List.length_take, List.length_drop]; omega
  have h3 := fload_l0 ((l.drop at_).take w) (fun x hx => hl x (List.mem_of_mem_drop (List.mem_of_mem_take hx))) (by omega) w 0 (k + 1) (by omega) (by omega)
  unfold PMetaParts.field_Get.f
  rw [h1, Option.bind_some, if_pos rfl, h2, Option.bind_some, if_pos rfl, wm (by omega) (by omega), if_pos (by omega), if_pos (by omega), if_pos (by omega), show ((at_ : Int) + (w : Int)).toNat = at_ + w by omega, Int.toNat_natCast, e1]
  unfold PMetaParts.field_load.f
  have h4 : PMetaParts.field_load.l0 (k + 1) ((l.drop at_).take w) 0 (((l.drop at_).take w).length : Int) 0 = some ((val ((l.drop at_).take w) : Nat) : Int) := h3
  rw [h4]
  rfl
/-- The head at a place. -/
def chk (im : List Int) (a : Int) : Ck := ⟨a, ((rdN im a.toNat 2 : Nat) : Int), ((rdN im (a.toNat + 2) 2 : Nat) : Int) % 32768, decide (((rdN im (a.toNat + 2) 2 : Nat) : Int) < 32768), ((rdN im (a.toNat + 4) 4 : Nat) : Int)⟩
def cns (c : Ck) (r : List Ck × Int) : List Ck × Int := if r.2 = 0 then (c :: r.1, 0) else ([], r.2)
def acc (l : List Ck) (r : List Ck × Int) : List Ck × Int := if r.2 = 0 then (l ++ r.1, 0) else ([], r.2)
theorem acc_cns (l : List Ck) (c : Ck) (r : List Ck × Int) : acc (l ++ [c]) r = acc l (cns c r) := by
  unfold acc cns
  by_cases h : r.2 = 0
  · rw [if_pos h, if_pos h, if_pos rfl, List.append_assoc]; rfl
  · rw [if_neg h, if_neg h, if_neg h]
/-- Chunks from a place on. -/
def chs (im : List Int) (tt : Int) : Nat → Int → Int → List Ck × Int
  | 0, _, _ => ([], 6)
  | f + 1, at_, size =>
    if size ≤ 0 then (if at_ = tt then ([], 0) else ([], 6)) else
    if tt < at_ + 8 then ([], 6) else
    if rgt (chk im at_) = true ∧ (chk im at_).f1 = min size 8192 ∧ at_ + 8 + (chk im at_).f2 ≤ tt then cns (chk im at_) (chs im tt f (at_ + 8 + (chk im at_).f2) (size - min size 8192)) else ([], 6)
def chunks (im : List Int) (from_ tt size : Int) : List Ck × Int :=
  if from_ < 0 ∨ from_ > tt ∨ tt > im.length ∨ size < 0 ∨ size > 16777216 then ([], 1) else chs im tt (im.length + 1) from_ size
theorem tmod_nat (n : Nat) : Int.tmod (n : Int) 32768 = (n : Int) % 32768 := Int.tmod_eq_emod_of_nonneg (by omega)
set_option maxHeartbeats 1000000 in
theorem chunks_l0 (im : List Int) (him : ∀ x ∈ im, 0 ≤ x ∧ x < 256) (hl : im.length ≤ 1000000) (tt : Nat) (hto : tt ≤ im.length) : ∀ (f k at_ : Nat) (size : Int) (l : List Ck), at_ ≤ tt → tt - at_ < f → f + 12 ≤ k → size ≤ 16777216 → l.length ≤ at_ → PMetaParts.meta_Chunks.l0 k im at_ tt size l = some (acc l (chs im tt f at_ size))
  | 0, _, _, _, _, _, h2, _, _, _ => absurd h2 (by omega)
  | f + 1, k, at_, size, l, h1, h2, h3, h4, h5 => by
    obtain ⟨k, rfl⟩ : ∃ m, k = m + 1 := ⟨k - 1, by omega⟩
    rw [PMetaParts.meta_Chunks.l0, chs]
    by_cases c1 : size > 0
    · rw [if_pos c1, if_neg (show ¬ size ≤ 0 by omega), wm (x := (tt : Int) - (at_ : Int)) (by omega) (by omega)]
      by_cases c2 : (tt : Int) - (at_ : Int) < 8
      · rw [if_pos c2, if_pos (by omega)]; rfl
      · rw [if_neg c2, if_neg (by omega), wm (x := (at_ : Int) + 2) (by omega) (by omega), wm (x := (at_ : Int) + 4) (by omega) (by omega)]
        have g1 := get_f im him (at_ + 2) 2 (Or.inl rfl) (by omega) hl k (by omega)
        have g2 := get_f im him at_ 2 (Or.inl rfl) (by omega) hl k (by omega)
        have g3 := get_f im him (at_ + 4) 4 (Or.inr rfl) (by omega) hl k (by omega)
        have b1 := rd16 him (at_ + 2) (by omega)
        have b2 := rd16 him at_ (by omega)
        have b3 := rd32 him (at_ + 4) (by omega)
        rw [show (at_ : Int) + 2 = ((at_ + 2 : Nat) : Int) by omega, show (at_ : Int) + 4 = ((at_ + 4 : Nat) : Int) by omega, show (2 : Int) = ((2 : Nat) : Int) from rfl, g2, Option.bind_some, g1, Option.bind_some, show (4 : Int) = ((4 : Nat) : Int) from rfl, g3, Option.bind_some]
        obtain ⟨C, hC⟩ : ∃ C, C = chk im (at_ : Int) := ⟨_, rfl⟩
        have e0 : C.f0 = at_ := by rw [hC]; rfl
        have e1 : C.f1 = ((rdN im at_ 2 : Nat) : Int) := by rw [hC]; rfl
        have e2 : C.f2 = ((rdN im (at_ + 2) 2 : Nat) : Int) % 32768 := by rw [hC]; rfl
        have e3 : C.f3 = decide (((rdN im (at_ + 2) 2 : Nat) : Int) < 32768) := by rw [hC]; unfold chk; simp only [Int.toNat_natCast]
        have e4 : C.f4 = ((rdN im (at_ + 4) 4 : Nat) : Int) := by rw [hC]; rfl
        have eC : (⟨(at_ : Int), C.f1, C.f2, C.f3, C.f4⟩ : Ck) = C := by rw [← e0]
        have hR := right_f C
        simp only
        clear g1 g2 g3
        generalize rdN im at_ 2 = X1 at b2 e1 ⊢
        generalize rdN im (at_ + 2) 2 = X2 at b1 e2 e3 ⊢
        generalize rdN im (at_ + 4) 4 = X3 at b3 e4 ⊢
        rw [wm (x := (X1 : Int)) (by omega) (by omega), tmod_nat, wm (x := (X2 : Int) % 32768) (by omega) (by omega), show (X3 : Int) % 4294967296 = (X3 : Int) by omega, ← hC, ← e1, ← e2, ← e3, ← e4]
        rw [e0] at hR
        have q1 : 0 ≤ C.f1 ∧ C.f1 < 65536 := by rw [e1]; omega
        have q2 : 0 ≤ C.f2 ∧ C.f2 < 32768 := by rw [e2]; omega
        have em : mn size 8192 = min size 8192 := by unfold mn; split <;> omega
        rw [hR, Option.bind_some, eC, em, wm (x := (tt : Int) - (at_ : Int) - 8) (by omega) (by omega)]
        clear hC e1 e2 e3 e4 b1 b2 b3
        obtain ⟨m, hm⟩ : ∃ m : Nat, C.f2 = m := ⟨C.f2.toNat, by omega⟩
        by_cases c3 : rgt C = true
        · have hr := (rgt_iff C).1 c3
          rw [if_pos c3]
          by_cases c5 : C.f1 = min size 8192
          · rw [if_pos c5]
            by_cases c6 : C.f2 > (tt : Int) - (at_ : Int) - 8
            · rw [if_pos c6, if_neg (by omega)]; rfl
            · rw [if_neg c6, if_pos (by omega), if_pos ⟨c3, c5, by omega⟩, ← acc_cns, hm, wm (x := 8 + (m : Int)) (by omega) (by omega), show (at_ : Int) + (8 + (m : Int)) = ((at_ + 8 + m : Nat) : Int) by omega, wm (x := ((at_ + 8 + m : Nat) : Int)) (by omega) (by omega), show (at_ : Int) + 8 + (m : Int) = ((at_ + 8 + m : Nat) : Int) by omega, wm (x := size - C.f1) (by omega) (by omega), c5]
              exact chunks_l0 im him hl tt hto f k (at_ + 8 + m) (size - min size 8192) (l ++ [C]) (by omega) (by omega) (by omega) (by omega) (by rw [List.length_append]; simp; omega)
          · rw [if_neg c5, if_neg (fun h => c5 h.2.1)]; rfl
        · rw [if_neg c3, if_neg (fun h => c3 h.1)]; rfl
    · rw [if_neg c1, if_pos (show size ≤ 0 by omega)]
      by_cases c2 : (at_ : Int) = tt
      · rw [if_pos c2, if_pos c2]
        unfold acc
        rw [if_pos rfl, List.append_nil]
      · rw [if_neg c2, if_neg c2]; rfl
theorem acc_nil (r : List Ck × Int) (h : r.2 = 0 ∨ r.1 = []) : acc [] r = r := by
  obtain ⟨a, b⟩ := r
  unfold acc
  by_cases hb : b = 0
  · subst hb; rfl
  · rw [if_neg hb]
    rcases h with h | h
    · exact absurd h hb
    · rw [show a = [] from h]
theorem chs_nil (im : List Int) (tt : Int) : ∀ f at_ size, (chs im tt f at_ size).2 = 0 ∨ (chs im tt f at_ size).1 = []
  | 0, _, _ => Or.inr rfl
  | f + 1, at_, size => by
    rw [chs]
    split
    · split
      · exact Or.inl rfl
      · exact Or.inr rfl
    · split
      · exact Or.inr rfl
      · split
        · unfold cns
          split
          · exact Or.inl rfl
          · exact Or.inr rfl
        · exact Or.inr rfl
theorem chunks_f (im : List Int) (him : ∀ x ∈ im, 0 ≤ x ∧ x < 256) (hl : im.length ≤ 1000000) (from_ tt size : Int) : PMetaParts.meta_Chunks.f (im.length + 20) im from_ tt size = some (chunks im from_ tt size) := by
  unfold PMetaParts.meta_Chunks.f PMetaParts.meta_between.f chunks
  by_cases h1 : from_ < 0
  · rw [if_pos h1, if_pos (Or.inl h1)]; rfl
  rw [if_neg h1]
  by_cases h2 : from_ > tt
  · rw [if_pos h2, if_pos (by omega)]; rfl
  rw [if_neg h2]
  by_cases h3 : tt > im.length
  · rw [if_pos h3, if_pos (by omega)]; rfl
  rw [if_neg h3]
  by_cases h4 : size < 0
  · rw [if_neg (by omega), if_pos (by omega)]; rfl
  rw [if_pos (by omega)]
  by_cases h5 : size > 16777216
  · rw [decide_eq_false (by omega), if_pos (by omega)]; rfl
  rw [decide_eq_true (by omega), if_neg (by omega), Option.bind_some, Bool.not_true, PMetaParts.meta_Chunks.j0, if_neg (by decide)]
  obtain ⟨a, rfl⟩ := Int.eq_ofNat_of_zero_le (show 0 ≤ from_ by omega)
  obtain ⟨t, rfl⟩ := Int.eq_ofNat_of_zero_le (show 0 ≤ tt by omega)
  have h := chunks_l0 im him hl t (by omega) (im.length + 1) (im.length + 19) a size [] (by omega) (by omega) (by omega) (by omega) (Nat.zero_le _)
  rw [acc_nil _ (chs_nil _ _ _ _ _)] at h
  exact h
end Go.Proofs.Ytpdggoapjbjmhaa.Me
/- Streams in chunks: Right, Chunks, Same of the document: walks. -/
set_option linter.unusedVariables false
set_option linter.unusedSimpArgs false
namespace Go.Proofs.Ytpdggoapjbjmhaa.Me
open Go.RowKit Go.Proofs.Ytpdggoapjbjmhaa.Fd Go.Proofs.Ytpdggoapjbjmhaa.Bg Go.Proofs.Ytpdggoapjbjmhaa.Lz Go.Proofs.Ytpdggoapjbjmhaa.Ma Go.Proofs.Ytpdggoapjbjmhaa.Bk Go.Proofs.YtpdggoapjbjmhaaW.PrintWords Go.Proofs.YtpdggoapjbjmhaaW.PrintLast Go.Proofs.YtpdggoapjbjmhaaW.PrintMore
abbrev kC := PMetaParts.k62
def RC (w : World) (base : Nat) (v : Value) (l : List Ck) : Prop := Kd.R kC 62 w base (fun _ => True) v l
def bx (c : Ck) : Array Value := #[.int .i64 c.f0, .int .i64 c.f1, .int .i64 c.f2, .bool c.f3, .int .u32 c.f4]
theorem infoC : (Try.prog.info? 62).map (fun i => (i.zero, i.size, i.bytes)) = some (some (.agg #[.int .i64 0, .int .i64 0, .int .i64 0, .bool false, .int .u32 0]), 5, 32) := by kernel_rfl
theorem sizC : (Try.prog.info? 62).map (·.size) = some 5 := by kernel_rfl
set_option maxHeartbeats 2000000 in
theorem rright_go (a b s z : Int) (p : Bool) (w : World) : Calls Try.prog 53 #[.agg #[.int .i64 a, .int .i64 b, .int .i64 s, .bool p, .int .u32 z]] w fun e w' => e = .returned (.bool (rgt ⟨a, b, s, p, z⟩)) ∧ Below w.heap.size w w' := by
  have KG : Aside0 (rgt ⟨a, b, s, p, z⟩ = (decide (0 ≤ a) && (decide (1 ≤ b) && (decide (b ≤ 8192) && (decide (1 ≤ s) && (decide (s ≤ 8192) && (p || b == s))))))) := ⟨rfl⟩
  generalize rgt ⟨a, b, s, p, z⟩ = g at KG ⊢
  have KB : Aside0 (Below w.heap.size w (w.alloc (.cells #[.int .i64 a, .int .i64 b, .int .i64 s, .bool p, .int .u32 z] 62))) := ⟨below_alloc (Below.refl _ _) _⟩
  by_cases h1 : 0 ≤ a
  · by_cases h2 : 1 ≤ b
    · by_cases h3 : b ≤ 8192
      · by_cases h4 : 1 ≤ s
        · by_cases h5 : s ≤ 8192
          · cases p with
            | true =>
              obtain rfl : g = true := by rw [KG.out]; simp [h1, h2, h3, h4, h5]
              clear KG
              go_enter Try.func53, Try.ntmps53
              go_wp2
              go_ret
              exact ⟨rfl, KB.out⟩
            | false =>
              obtain ⟨q, hq⟩ : ∃ q, (b == s) = q := ⟨_, rfl⟩
              obtain rfl : g = q := by rw [KG.out, hq]; simp [h1, h2, h3, h4, h5]
              clear KG
              go_enter Try.func53, Try.ntmps53
              go_wp2
              go_ret
              exact ⟨rfl, KB.out⟩
          · obtain rfl : g = false := by rw [KG.out]; simp [h5]
            have h5 : 8192 < s := by omega
            clear KG
            go_enter Try.func53, Try.ntmps53
            go_wp2
            go_ret
            exact ⟨rfl, KB.out⟩
        · obtain rfl : g = false := by rw [KG.out]; simp [h4]
          have h4 : s < 1 := by omega
          clear KG
          go_enter Try.func53, Try.ntmps53
          go_wp2
          go_ret
          exact ⟨rfl, KB.out⟩
      · obtain rfl : g = false := by rw [KG.out]; simp [h3]
        have h3 : 8192 < b := by omega
        clear KG
        go_enter Try.func53, Try.ntmps53
        go_wp2
        go_ret
        exact ⟨rfl, KB.out⟩
    · obtain rfl : g = false := by rw [KG.out]; simp [h2]
      have h2 : b < 1 := by omega
      clear KG
      go_enter Try.func53, Try.ntmps53
      go_wp2
      go_ret
      exact ⟨rfl, KB.out⟩
  · obtain rfl : g = false := by rw [KG.out]; simp [h1]
    have h1 : a < 0 := by omega
    clear KG
    go_enter Try.func53, Try.ntmps53
    go_wp2
    go_ret
    exact ⟨rfl, KB.out⟩
theorem rright_any (c : Ck) (w : World) : Calls Try.prog 53 #[.agg (bx c)] w fun e w' => e = .returned (.bool (rgt c)) ∧ Below w.heap.size w w' := rright_go c.f0 c.f1 c.f2 c.f4 c.f3 w
theorem rplain_any (a b s z : Int) (p : Bool) (w : World) : Calls Try.prog 54 #[.agg #[.int .i64 a, .int .i64 b, .int .i64 s, .bool p, .int .u32 z]] w fun e w' => e = .returned (.int .i64 (max b 0)) ∧ Below w.heap.size w w' := by
  have KB : Aside0 (Below w.heap.size w (w.alloc (.cells #[.int .i64 a, .int .i64 b, .int .i64 s, .bool p, .int .u32 z] 62))) := ⟨below_alloc (Below.refl _ _) _⟩
  obtain ⟨m, hm⟩ : ∃ m, m = max b 0 := ⟨_, rfl⟩
  rw [← hm]
  by_cases h : b < 0
  · obtain rfl : m = 0 := by omega
    clear hm
    go_enter Try.func54, Try.ntmps54
    go_wp2
    go_ret
    exact ⟨rfl, KB.out⟩
  · obtain rfl : m = b := by omega
    have h : 0 ≤ m := by omega
    clear hm
    go_enter Try.func54, Try.ntmps54
    go_wp2
    go_ret
    exact ⟨rfl, KB.out⟩
end Go.Proofs.Ytpdggoapjbjmhaa.Me
/- Streams in chunks: where chunks lie by the document: a walk. -/
set_option linter.unusedVariables false
set_option linter.unusedSimpArgs false
namespace Go.Proofs.Ytpdggoapjbjmhaa.Me
open Go.RowKit Go.Proofs.Ytpdggoapjbjmhaa.Fd Go.Proofs.Ytpdggoapjbjmhaa.Bg Go.Proofs.Ytpdggoapjbjmhaa.Lz Go.Proofs.Ytpdggoapjbjmhaa.Ma Go.Proofs.Ytpdggoapjbjmhaa.Bk Go.Proofs.YtpdggoapjbjmhaaW.PrintWords Go.Proofs.YtpdggoapjbjmhaaW.PrintLast Go.Proofs.YtpdggoapjbjmhaaW.PrintMore
theorem bx_cells {w : World} {g : Nat} {x0 x1 x2 x3 x4 : Value} (h : w.heap[g]? = some (.cells #[x0, x1, x2, x3, x4] 62 (0, 0))) : w.cell? ⟨g, 0, none⟩ = some x0 ∧ w.cell? ⟨g, 1, none⟩ = some x1 ∧ w.cell? ⟨g, 2, none⟩ = some x2 ∧ w.cell? ⟨g, 3, none⟩ = some x3 ∧ w.cell? ⟨g, 4, none⟩ = some x4 :=
  ⟨(cell_of_row _ _ _ _ _ _ h).trans rfl, (cell_of_row _ _ _ _ _ _ h).trans rfl, (cell_of_row _ _ _ _ _ _ h).trans rfl, (cell_of_row _ _ _ _ _ _ h).trans rfl, (cell_of_row _ _ _ _ _ _ h).trans rfl⟩
theorem RC.slice {w : World} {base : Nat} {v : Value} {l : List Ck} (h : RC w base v l) : ∃ A c, v = .slice A l.length c ∧ l.length ≤ c ∧ Kd.C kC w A l.length l := Kd.R_reads h
theorem RC.below {w w1 : World} {base : Nat} {v : Value} {l : List Ck} (h : RC w base v l) (hb : Below w.heap.size w w1) : RC w1 base v l := Kd.R_below h hb
theorem RC.nil (w : World) (base : Nat) : RC w base (.slice none 0 0) [] := Kd.R_nil _ _ _ _ _
/-! ### Plain: one more chunk -/
theorem chs_done {im : List Int} {t p : Int} {f : Nat} {sz : Int} (l : List Ck) (h : sz ≤ 0) (hp : p = t) : acc l (chs im t (f + 1) p sz) = (l, 0) := by
  rw [chs, if_pos h, if_pos hp]
  unfold acc
  rw [if_pos rfl, List.append_nil]
theorem chs_open {im : List Int} {t p : Int} {f : Nat} {sz : Int} (l : List Ck) (h : sz ≤ 0) (hp : ¬ p = t) : acc l (chs im t (f + 1) p sz) = ([], 6) := by
  rw [chs, if_pos h, if_neg hp]; rfl
theorem chs_short {im : List Int} {t p : Int} {f : Nat} {sz : Int} (l : List Ck) (h : 0 < sz) (hp : t < p + 8) : acc l (chs im t (f + 1) p sz) = ([], 6) := by
  rw [chs, if_neg (by omega), if_pos hp]; rfl
theorem chs_wrong {im : List Int} {t p : Int} {f : Nat} {sz : Int} (l : List Ck) (h : 0 < sz) (hp : ¬ t < p + 8) (hw : ¬ (rgt (chk im p) = true ∧ (chk im p).f1 = min sz 8192 ∧ p + 8 + (chk im p).f2 ≤ t)) : acc l (chs im t (f + 1) p sz) = ([], 6) := by
  rw [chs, if_neg (by omega), if_neg hp, if_neg hw]; rfl
theorem chs_more {im : List Int} {t p : Int} {f : Nat} {sz : Int} (l : List Ck) (h : 0 < sz) (hp : ¬ t < p + 8) (hw : rgt (chk im p) = true ∧ (chk im p).f1 = min sz 8192 ∧ p + 8 + (chk im p).f2 ≤ t) : acc l (chs im t (f + 1) p sz) = acc (l ++ [chk im p]) (chs im t f (p + 8 + (chk im p).f2) (sz - min sz 8192)) := by
  rw [chs, if_neg (by omega), if_neg hp, if_pos hw, acc_cns]
theorem rch_bad0 (w : World) (A : Option Addr) (L c : Nat) (a t sz : Int)  (hb : decide (a < 0) = true) : Calls Try.prog 31 #[.slice A L c, .int .i64 a, .int .i64 t, .int .i64 sz] w fun e w' => e = .returned (.tuple #[.slice none 0 0, .int .i64 1]) ∧ w = w' := by
  go_enter Try.func31, Try.ntmps31
  go_wp2
  go_ret2
  exact ⟨rfl, rfl⟩
theorem rch_bad1 (w : World) (A : Option Addr) (L c : Nat) (a t sz : Int) (h0 : decide (a < 0) = false) (hb : decide (a > t) = true) : Calls Try.prog 31 #[.slice A L c, .int .i64 a, .int .i64 t, .int .i64 sz] w fun e w' => e = .returned (.tuple #[.slice none 0 0, .int .i64 1]) ∧ w = w' := by
  go_enter Try.func31, Try.ntmps31
  go_wp2
  go_ret2
  exact ⟨rfl, rfl⟩
theorem rch_bad2 (w : World) (A : Option Addr) (L c : Nat) (a t sz : Int) (h0 : decide (a < 0) = false) (h1 : decide (a > t) = false) (hb : decide (t > (L : Int)) = true) : Calls Try.prog 31 #[.slice A L c, .int .i64 a, .int .i64 t, .int .i64 sz] w fun e w' => e = .returned (.tuple #[.slice none 0 0, .int .i64 1]) ∧ w = w' := by
  go_enter Try.func31, Try.ntmps31
  go_wp2
  go_ret2
  exact ⟨rfl, rfl⟩
theorem rch_bad3 (w : World) (A : Option Addr) (L c : Nat) (a t sz : Int) (h0 : decide (a < 0) = false) (h1 : decide (a > t) = false) (h2 : decide (t > (L : Int)) = false) (hb : decide (sz < 0) = true) : Calls Try.prog 31 #[.slice A L c, .int .i64 a, .int .i64 t, .int .i64 sz] w fun e w' => e = .returned (.tuple #[.slice none 0 0, .int .i64 1]) ∧ w = w' := by
  go_enter Try.func31, Try.ntmps31
  go_wp2
  go_ret2
  exact ⟨rfl, rfl⟩
theorem rch_bad4 (w : World) (A : Option Addr) (L c : Nat) (a t sz : Int) (h0 : decide (a < 0) = false) (h1 : decide (a > t) = false) (h2 : decide (t > (L : Int)) = false) (h3 : decide (sz < 0) = false) (hb : decide (sz > 16777216) = true) : Calls Try.prog 31 #[.slice A L c, .int .i64 a, .int .i64 t, .int .i64 sz] w fun e w' => e = .returned (.tuple #[.slice none 0 0, .int .i64 1]) ∧ w = w' := by
  go_enter Try.func31, Try.ntmps31
  go_wp2
  go_ret2
  exact ⟨rfl, rfl⟩
set_option maxHeartbeats 1000000 in
set_option maxRecDepth 100000 in
theorem rch_good (w : World) (im : List Int) (A : Option Addr) (c a t : Nat) (size : Int) (hC : Kd.C (Kd.int .u8) w A im.length im) (hc : im.length ≤ c) (him : isB im) (hl : im.length ≤ 1000000) (hat : a ≤ t) (htL : t ≤ im.length) (hs0 : 0 ≤ size) (hs1 : size ≤ 16777216) (R : List Ck × Int) (hR : R = chs im t (im.length + 1) a size) :
    Calls Try.prog 31 #[.slice A im.length c, .int .i64 a, .int .i64 t, .int .i64 size] w fun e w' => ∃ v, e = .returned (.tuple #[v, .int .i64 R.2]) ∧ RC w' w.heap.size v R.1 ∧ Below w.heap.size w w' := by
  have KL : Aside0 (∀ (q n : Nat) (x : Int) (w1 : World), x = (q : Int) → n ≤ 8 → q + n ≤ im.length → Below w.heap.size w w1 → Calls Try.prog 41 #[.slice A im.length c, .int .i64 x, .int .i64 n] w1 fun e w' => e = .returned (.int .u64 (rdN im q n)) ∧ Below w1.heap.size w1 w') := ⟨fun q n x w1 hx hn hq hB => by subst hx; exact rload_same w1 im A c q n (Kd.C_below hC hB) hc him hl hn hq⟩
  have K0 : Aside0 (acc [] (chs im t (im.length + 1) a size) = R) := ⟨by rw [acc_nil _ (chs_nil _ _ _ _ _), hR]⟩
  have Kim := Aside0.mk him
  obtain ⟨L, hL⟩ : ∃ L, L = im.length := ⟨_, rfl⟩
  rw [← hL] at KL K0 hl htL ⊢
  have hd1 : decide ((a : Int) < 0) = false := decide_eq_false (by omega)
  have hd2 : decide ((a : Int) > (t : Int)) = false := decide_eq_false (by omega)
  have hd3 : decide ((t : Int) > (L : Int)) = false := decide_eq_false (by omega)
  have hd6 : decide (t < a) = false := decide_eq_false (by omega)
  have hd7 : decide (L < t) = false := decide_eq_false (by omega)
  have hd4 : decide (size < 0) = false := decide_eq_false (by omega)
  have hd5 : decide (size > 16777216) = false := decide_eq_false (by omega)
  have KLl := Aside0.mk hL
  clear hC hc him hR hL
  go_enter Try.func31, Try.ntmps31
  go_wp2
  clear hd1 hd2 hd3 hd4 hd5 hd6 hd7
  go_loopw [3, 10, 11] (fun v3 v10 v11 wr => ∃ (p n f : Nat) (sz : Int) (l : List Ck) (A1 : Option Addr) (c1 : Nat), v3 = .int .i64 sz ∧ v10 = .slice A1 n c1 ∧ v11 = .int .i64 p ∧ p ≤ t ∧ 0 ≤ sz ∧ sz ≤ 16777216 ∧ n ≤ p ∧ Aside0 (n = l.length) ∧ Aside0 (RC wr w.heap.size (.slice A1 n c1) l) ∧ Aside0 (Below w.heap.size w wr) ∧ Aside0 (t - p < f) ∧ Aside0 (acc l (chs im t f p sz) = R)) (fun _ _ i _ => t - (intOf i).toNat)
  case atStart => exact ⟨a, 0, L + 1, size, [], none, 0, rfl, rfl, rfl, hat, hs0, hs1, Nat.zero_le _, ⟨rfl⟩, ⟨RC.nil _ _⟩, ⟨Below.refl _ _⟩, ⟨by omega⟩, K0⟩
  case round =>
    obtain ⟨p, n, f, sz, l, A1, c1, rfl, rfl, rfl, hp, z0, z1, hn, Kn, KR, KB, Kf, Ka⟩ := hrel
    obtain ⟨f, rfl⟩ : ∃ m, f = m + 1 := ⟨f - 1, by have := Kf.out; omega⟩
    by_cases g1 : sz > 0
    · have hsz := decide_eq_true g1
      obtain ⟨p8, hp8⟩ : ∃ q, q = p + 8 := ⟨_, rfl⟩
      have m8 : (p : Int) + 8 = (p8 : Int) := by omega
      by_cases g2 : t < p8
      · have ht : decide ((p8 : Int) > (t : Int)) = true := decide_eq_true (by omega)
        have hR6 : Aside0 (R = ([], 6)) := ⟨by rw [← Ka.out]; exact chs_short l g1 (by omega)⟩
        clear hp8
        go_wp2
        go_ret2
        exact ⟨.slice none 0 0, by rw [hR6.out] <;> rfl, by rw [hR6.out]; exact RC.nil _ _, KB.out⟩
      · have ht : decide ((p8 : Int) > (t : Int)) = false := decide_eq_false (by omega)
        have Kp8 : Aside0 (p + 8 ≤ t) := ⟨by omega⟩
        obtain ⟨C0, hC0⟩ : ∃ C, C = chk im (p : Int) := ⟨_, rfl⟩
        have b1 := rd16 Kim.out (p + 2) (by rw [← KLl.out]; omega)
        have b2 := rd16 Kim.out p (by rw [← KLl.out]; omega)
        have b3 := rd32 Kim.out (p + 4) (by rw [← KLl.out]; omega)
        obtain ⟨B, hB⟩ : ∃ B, B = rdN im (p + 2) 2 := ⟨_, rfl⟩
        obtain ⟨P, hP⟩ : ∃ B, B = rdN im p 2 := ⟨_, rfl⟩
        obtain ⟨Z, hZ⟩ : ∃ B, B = rdN im (p + 4) 4 := ⟨_, rfl⟩
        rw [← hB] at b1
        rw [← hP] at b2
        rw [← hZ] at b3
        by_cases hb15 : B < 32768
        · have hpk : decide ((B : Int) < 32768) = true := decide_eq_true (by omega)
          obtain ⟨S, hS⟩ : ∃ S, S = B % 32768 := ⟨_, rfl⟩
          have bS : S < 32768 := by omega
          have eC : Aside0 (C0 = ⟨(p : Int), (P : Int), (S : Int), true, (Z : Int)⟩) := ⟨by rw [hC0, hP, hZ, hS, hB]; unfold chk; simp only [Int.toNat_natCast]; rw [hB] at hpk; rw [hpk]; rw [show (((rdN im (p + 2) 2 % 32768 : Nat)) : Int) = ((rdN im (p + 2) 2 : Nat) : Int) % 32768 by omega]⟩
          have n1 : Int.tmod (B : Int) 32768 = (S : Int) := by rw [tmod_nat, hS]; omega
          have n2 : (B : Int) % 32768 = (S : Int) := by rw [hS]; omega
          have n5 : (Z : Int) % 4294967296 = (Z : Int) := by omega
          have KC0 := Aside0.mk hC0
          have KL1 := KL.out (p + 2) 2 ((p : Int) + 2)
          have KL2 := fun w1 => KL.out p 2 (p : Int) w1 rfl (by decide)
          have KL3 := KL.out (p + 4) 4 ((p : Int) + 4)
          rw [← hB] at KL1
          rw [← hP] at KL2
          rw [← hZ] at KL3
          have KL1 := Aside0.mk KL1
          have KL2 := Aside0.mk KL2
          have KL3 := Aside0.mk KL3
          obtain ⟨q, hq⟩ : ∃ q, q = p8 + S := ⟨_, rfl⟩
          have mq : (p8 : Int) + (S : Int) = (q : Int) := by omega
          have Kq : Aside0 (q = p + 8 + S) := ⟨by omega⟩
          have KbL : Aside0 (p + 8 ≤ L) := ⟨by omega⟩
          clear hC0 hB hP hZ hS hq hp8
          have Kari := Aside0.mk (And.intro n1 (And.intro n2 (And.intro n5 hpk)))
          clear n1 n2 n5 hpk
          go_wp2_with (go_at_call 41; apply Aside0.out)
          refine ⟨?_⟩
          refine (KL1.out _ (by omega) (by decide) (by have := KbL.out; omega) KB.out).mono ?_
          rintro e w1 ⟨rfl, hB1⟩
          have KB1 := Aside0.mk (below_then KB.out KB.out.size hB1)
          have KR1 := Aside0.mk (KR.out.below hB1)
          clear hB1
          go_wp2_with (go_at_call 41; apply Aside0.out)
          refine ⟨?_⟩
          refine (KL2.out _ (by have := KbL.out; omega) KB1.out).mono ?_
          rintro e w2 ⟨rfl, hB2⟩
          have KB2 := Aside0.mk (below_then KB1.out KB1.out.size hB2)
          have KR2 := Aside0.mk (KR1.out.below hB2)
          clear hB2
          obtain ⟨n1, n2, n5, hpk⟩ := Kari.out
          go_wp2_with (go_at_call 41; apply Aside0.out)
          refine ⟨?_⟩
          refine (KL3.out _ (by omega) (by decide) (by have := KbL.out; omega) KB2.out).mono ?_
          rintro e w3 ⟨rfl, hB3⟩
          have KB3 := Aside0.mk (below_then KB2.out KB2.out.size hB3)
          have KR3 := Aside0.mk (KR2.out.below hB3)
          clear hB3 b1
          obtain ⟨G, hG⟩ : ∃ G, G = rgt C0 := ⟨_, rfl⟩
          have KRt := Aside0.mk (rright_any C0)
          rw [← hG, eC.out] at KRt
          have KG := Aside0.mk hG
          have Kal : Aside0 (Below w.heap.size w (w3.alloc (.cells #[.int .i64 p, .int .i64 P, .int .i64 S, .bool true, .int .u32 Z] 62))) := ⟨below_then KB3.out KB3.out.size (below_alloc (Below.refl _ _) _)⟩
          clear hG
          by_cases c4 : sz > 8192
          · have c4b : decide (sz > 8192) = true := decide_eq_true c4
            have Kmin : Aside0 (min sz 8192 = 8192) := ⟨by omega⟩
            have Ksz : Aside0 ((0 : Int) ≤ sz - 8192) := ⟨by omega⟩
            go_wp2_with (go_at_call 53; apply Aside0.out)
            refine ⟨?_⟩
            refine (KRt.out _).mono ?_
            rintro e w5 ⟨rfl, hB5⟩
            have KB5 := Aside0.mk (below_then Kal.out Kal.out.size hB5)
            obtain ⟨x0, x1, x2, x3, x4⟩ := bx_cells ((hB5.block w3.heap.size (by simp)).trans (heap_alloc_new w3 _))
            have KR5 := Aside0.mk ((KR3.out.below (below_alloc (Below.refl _ _) _)).below hB5)
            obtain ⟨inn, hinn⟩ := Kd.R_own KR3.out
            have hown := fun k => own_ne_new hinn k
            have hown0 := hown 0
            rw [Nat.add_zero] at hown0
            have hg3 : w3.heap.size < w5.heap.size := by have := hB5.size; simp at this; omega
            obtain ⟨g, hg⟩ : ∃ g, g = w3.heap.size := ⟨_, rfl⟩
            rw [← hg] at x0 x1 x2 x3 x4 hown0 hg3 ⊢
            have Ko := Aside0.mk hown0
            clear hg hB5 hinn hown hown0 n1 n2 n5 hpk
            cases G with
            | false =>
              have hR6 : Aside0 (R = ([], 6)) := ⟨by rw [← Ka.out]; exact chs_wrong l g1 (by have := Kp8.out; omega) (fun h => by have h1 := h.1; rw [← KC0.out, ← KG.out] at h1; cases h1)⟩
              go_wp2
              go_ret2
              exact ⟨.slice none 0 0, by rw [hR6.out] <;> rfl, by rw [hR6.out]; exact RC.nil _ _, KB5.out⟩
            | true =>
              by_cases c5 : (P : Int) = 8192
              · have c5b : ((P : Int) != 8192) = false := by simp [c5]
                by_cases c6 : t < q
                · have c6b : decide ((q : Int) > (t : Int)) = true := decide_eq_true (by omega)
                  have hR6 : Aside0 (R = ([], 6)) := ⟨by rw [← Ka.out]; exact chs_wrong l g1 (by have := Kp8.out; omega) (fun h => by have h1 := h.2.2; rw [← KC0.out, eC.out] at h1; simp only at h1; have := Kq.out; omega)⟩
                  clear c5
                  go_wp2
                  go_ret2
                  exact ⟨.slice none 0 0, by rw [hR6.out] <;> rfl, by rw [hR6.out]; exact RC.nil _ _, KB5.out⟩
                · have c6b : decide ((q : Int) > (t : Int)) = false := decide_eq_false (by omega)
                  have c6d : decide (t < q) = false := decide_eq_false c6
                  have c6e : q ≤ t := by omega
                  have Knx : Aside0 (acc (l ++ [C0]) (chs im t f (q : Int) (sz - 8192)) = R) := ⟨by
                    rw [← Ka.out, chs_more l g1 (by have := Kp8.out; omega) ⟨by rw [← KC0.out]; exact KG.out.symm, by rw [← KC0.out, eC.out, Kmin.out]; exact c5, by rw [← KC0.out, eC.out]; simp only; have := Kq.out; omega⟩, ← KC0.out, Kmin.out, eC.out]
                    simp only
                    rw [show (p : Int) + 8 + (S : Int) = (q : Int) by have := Kq.out; omega]⟩
                  have Kqt : Aside0 (q ≤ t ∧ p < q) := ⟨by have := Kq.out; omega⟩
                  clear c5 c6
                  go_wp2_with ((with_reducible refine gate_builtin (b := .append) (xs := #[.tmp 84, .tmp 86]) rfl ?_); apply Aside0.out)
                  refine ⟨?_⟩
                  refine Kd.R_append kC (w0 := w) (W := w5) w.heap.size rfl (.tmp 84) (.tmp 86) 57 62 (.agg #[.int .i64 0, .int .i64 0, .int .i64 0, .bool false, .int .u32 0]) 32 rfl Try.underlying57 infoC (by kernel_rfl) (by decide) (by decide) (.slice A1 n c1) l ⟨(p : Int), (P : Int), (S : Int), true, (Z : Int)⟩ [.int .i64 p, .int .i64 P, .int .i64 S, .bool true, .int .u32 Z] (fun _ => True) (fun _ => False) rfl rfl (PMetaParts.k62_mkM _ _ _ _) (fun _ h => h.elim) (fun _ _ => trivial) KR5.out KB5.out KB5.out.size (by rw [← Kn.out]; omega) ?_
                  intro v6 w6 h6 hB6 hg6 hat6
                  have hb6 := hg6.block g hg3 Ko.out
                  have y2 : w6.cell? ⟨g, 2, none⟩ = some (.int .i64 S) := (World.cell?_of_block hb6).trans x2
                  obtain ⟨A6, c6, rfl, hc6, -⟩ := RC.slice h6
                  have KR6 := Aside0.mk h6
                  have KB6 := Aside0.mk hB6
                  rw [← eC.out] at KR6
                  have hl6 : (l ++ [C0]).length = n + 1 := by rw [List.length_append, ← Kn.out]; rfl
                  have hl7 : (l ++ [(⟨(p : Int), (P : Int), (S : Int), true, (Z : Int)⟩ : Ck)]).length = n + 1 := by rw [← eC.out]; exact hl6
                  rw [hl6] at KR6
                  rw [hl7]
                  have Kl6 := Aside0.mk hl6
                  clear h6 hB6 hg6 hat6 hb6 x0 x1 x2 x3 x4 hl6 hl7 hc6
                  go_wp2
                  go_roundw
                  case rel => exact ⟨q, n + 1, f, sz - 8192, l ++ [C0], A6, c6, rfl, rfl, rfl, Kqt.out.1, Ksz.out, by omega, by have := Kq.out; omega, ⟨Kl6.out.symm⟩, KR6, KB6, ⟨by have := Kf.out; have := Kqt.out; omega⟩, Knx⟩
                  case measure => simp [intOf]; have := Kqt.out; omega
              · have c5b : ((P : Int) != 8192) = true := by simp [c5]
                have hR6 : Aside0 (R = ([], 6)) := ⟨by rw [← Ka.out]; exact chs_wrong l g1 (by have := Kp8.out; omega) (fun h => by have h1 := h.2.1; rw [← KC0.out, eC.out, Kmin.out] at h1; exact c5 h1)⟩
                clear c5
                go_wp2
                go_ret2
                exact ⟨.slice none 0 0, by rw [hR6.out] <;> rfl, by rw [hR6.out]; exact RC.nil _ _, KB5.out⟩
          · have c4b : decide (sz > 8192) = false := decide_eq_false c4
            have Kmin : Aside0 (min sz 8192 = sz) := ⟨by omega⟩
            have Ksz : Aside0 ((0 : Int) ≤ 0) := ⟨by omega⟩
            go_wp2_with (go_at_call 53; apply Aside0.out)
            refine ⟨?_⟩
            refine (KRt.out _).mono ?_
            rintro e w5 ⟨rfl, hB5⟩
            have KB5 := Aside0.mk (below_then Kal.out Kal.out.size hB5)
            obtain ⟨x0, x1, x2, x3, x4⟩ := bx_cells ((hB5.block w3.heap.size (by simp)).trans (heap_alloc_new w3 _))
            have KR5 := Aside0.mk ((KR3.out.below (below_alloc (Below.refl _ _) _)).below hB5)
            obtain ⟨inn, hinn⟩ := Kd.R_own KR3.out
            have hown := fun k => own_ne_new hinn k
            have hown0 := hown 0
            rw [Nat.add_zero] at hown0
            have hg3 : w3.heap.size < w5.heap.size := by have := hB5.size; simp at this; omega
            obtain ⟨g, hg⟩ : ∃ g, g = w3.heap.size := ⟨_, rfl⟩
            rw [← hg] at x0 x1 x2 x3 x4 hown0 hg3 ⊢
            have Ko := Aside0.mk hown0
            clear hg hB5 hinn hown hown0 n1 n2 n5 hpk
            cases G with
            | false =>
              have hR6 : Aside0 (R = ([], 6)) := ⟨by rw [← Ka.out]; exact chs_wrong l g1 (by have := Kp8.out; omega) (fun h => by have h1 := h.1; rw [← KC0.out, ← KG.out] at h1; cases h1)⟩
              go_wp2
              go_ret2
              exact ⟨.slice none 0 0, by rw [hR6.out] <;> rfl, by rw [hR6.out]; exact RC.nil _ _, KB5.out⟩
            | true =>
              by_cases c5 : (P : Int) = sz
              · have c5b : ((P : Int) != sz) = false := by simp [c5]
                by_cases c6 : t < q
                · have c6b : decide ((q : Int) > (t : Int)) = true := decide_eq_true (by omega)
                  have hR6 : Aside0 (R = ([], 6)) := ⟨by rw [← Ka.out]; exact chs_wrong l g1 (by have := Kp8.out; omega) (fun h => by have h1 := h.2.2; rw [← KC0.out, eC.out] at h1; simp only at h1; have := Kq.out; omega)⟩
                  clear c5
                  go_wp2
                  go_ret2
                  exact ⟨.slice none 0 0, by rw [hR6.out] <;> rfl, by rw [hR6.out]; exact RC.nil _ _, KB5.out⟩
                · have c6b : decide ((q : Int) > (t : Int)) = false := decide_eq_false (by omega)
                  have c6d : decide (t < q) = false := decide_eq_false c6
                  have c6e : q ≤ t := by omega
                  have Knx : Aside0 (acc (l ++ [C0]) (chs im t f (q : Int) (0)) = R) := ⟨by
                    rw [← Ka.out, chs_more l g1 (by have := Kp8.out; omega) ⟨by rw [← KC0.out]; exact KG.out.symm, by rw [← KC0.out, eC.out, Kmin.out]; exact c5, by rw [← KC0.out, eC.out]; simp only; have := Kq.out; omega⟩, ← KC0.out, Kmin.out, eC.out]
                    simp only
                    rw [show (p : Int) + 8 + (S : Int) = (q : Int) by have := Kq.out; omega, Int.sub_self]⟩
                  have Kqt : Aside0 (q ≤ t ∧ p < q) := ⟨by have := Kq.out; omega⟩
                  clear c5 c6
                  go_wp2_with ((with_reducible refine gate_builtin (b := .append) (xs := #[.tmp 84, .tmp 86]) rfl ?_); apply Aside0.out)
                  refine ⟨?_⟩
                  refine Kd.R_append kC (w0 := w) (W := w5) w.heap.size rfl (.tmp 84) (.tmp 86) 57 62 (.agg #[.int .i64 0, .int .i64 0, .int .i64 0, .bool false, .int .u32 0]) 32 rfl Try.underlying57 infoC (by kernel_rfl) (by decide) (by decide) (.slice A1 n c1) l ⟨(p : Int), (P : Int), (S : Int), true, (Z : Int)⟩ [.int .i64 p, .int .i64 P, .int .i64 S, .bool true, .int .u32 Z] (fun _ => True) (fun _ => False) rfl rfl (PMetaParts.k62_mkM _ _ _ _) (fun _ h => h.elim) (fun _ _ => trivial) KR5.out KB5.out KB5.out.size (by rw [← Kn.out]; omega) ?_
                  intro v6 w6 h6 hB6 hg6 hat6
                  have hb6 := hg6.block g hg3 Ko.out
                  have y2 : w6.cell? ⟨g, 2, none⟩ = some (.int .i64 S) := (World.cell?_of_block hb6).trans x2
                  obtain ⟨A6, c6, rfl, hc6, -⟩ := RC.slice h6
                  have KR6 := Aside0.mk h6
                  have KB6 := Aside0.mk hB6
                  rw [← eC.out] at KR6
                  have hl6 : (l ++ [C0]).length = n + 1 := by rw [List.length_append, ← Kn.out]; rfl
                  have hl7 : (l ++ [(⟨(p : Int), (P : Int), (S : Int), true, (Z : Int)⟩ : Ck)]).length = n + 1 := by rw [← eC.out]; exact hl6
                  rw [hl6] at KR6
                  rw [hl7]
                  have Kl6 := Aside0.mk hl6
                  clear h6 hB6 hg6 hat6 hb6 x0 x1 x2 x3 x4 hl6 hl7 hc6
                  go_wp2
                  go_roundw
                  case rel => exact ⟨q, n + 1, f, 0, l ++ [C0], A6, c6, rfl, rfl, rfl, Kqt.out.1, Ksz.out, by omega, by have := Kq.out; omega, ⟨Kl6.out.symm⟩, KR6, KB6, ⟨by have := Kf.out; have := Kqt.out; omega⟩, Knx⟩
                  case measure => simp [intOf]; have := Kqt.out; omega
              · have c5b : ((P : Int) != sz) = true := by simp [c5]
                have hR6 : Aside0 (R = ([], 6)) := ⟨by rw [← Ka.out]; exact chs_wrong l g1 (by have := Kp8.out; omega) (fun h => by have h1 := h.2.1; rw [← KC0.out, eC.out, Kmin.out] at h1; exact c5 h1)⟩
                clear c5
                go_wp2
                go_ret2
                exact ⟨.slice none 0 0, by rw [hR6.out] <;> rfl, by rw [hR6.out]; exact RC.nil _ _, KB5.out⟩
        · have hpk : decide ((B : Int) < 32768) = false := decide_eq_false (by omega)
          obtain ⟨S, hS⟩ : ∃ S, S = B % 32768 := ⟨_, rfl⟩
          have bS : S < 32768 := by omega
          have eC : Aside0 (C0 = ⟨(p : Int), (P : Int), (S : Int), false, (Z : Int)⟩) := ⟨by rw [hC0, hP, hZ, hS, hB]; unfold chk; simp only [Int.toNat_natCast]; rw [hB] at hpk; rw [hpk]; rw [show (((rdN im (p + 2) 2 % 32768 : Nat)) : Int) = ((rdN im (p + 2) 2 : Nat) : Int) % 32768 by omega]⟩
          have n1 : Int.tmod (B : Int) 32768 = (S : Int) := by rw [tmod_nat, hS]; omega
          have n2 : (B : Int) % 32768 = (S : Int) := by rw [hS]; omega
          have n5 : (Z : Int) % 4294967296 = (Z : Int) := by omega
          have KC0 := Aside0.mk hC0
          have KL1 := KL.out (p + 2) 2 ((p : Int) + 2)
          have KL2 := fun w1 => KL.out p 2 (p : Int) w1 rfl (by decide)
          have KL3 := KL.out (p + 4) 4 ((p : Int) + 4)
          rw [← hB] at KL1
          rw [← hP] at KL2
          rw [← hZ] at KL3
          have KL1 := Aside0.mk KL1
          have KL2 := Aside0.mk KL2
          have KL3 := Aside0.mk KL3
          obtain ⟨q, hq⟩ : ∃ q, q = p8 + S := ⟨_, rfl⟩
          have mq : (p8 : Int) + (S : Int) = (q : Int) := by omega
          have Kq : Aside0 (q = p + 8 + S) := ⟨by omega⟩
          have KbL : Aside0 (p + 8 ≤ L) := ⟨by omega⟩
          clear hC0 hB hP hZ hS hq hp8
          have Kari := Aside0.mk (And.intro n1 (And.intro n2 (And.intro n5 hpk)))
          clear n1 n2 n5 hpk
          go_wp2_with (go_at_call 41; apply Aside0.out)
          refine ⟨?_⟩
          refine (KL1.out _ (by omega) (by decide) (by have := KbL.out; omega) KB.out).mono ?_
          rintro e w1 ⟨rfl, hB1⟩
          have KB1 := Aside0.mk (below_then KB.out KB.out.size hB1)
          have KR1 := Aside0.mk (KR.out.below hB1)
          clear hB1
          go_wp2_with (go_at_call 41; apply Aside0.out)
          refine ⟨?_⟩
          refine (KL2.out _ (by have := KbL.out; omega) KB1.out).mono ?_
          rintro e w2 ⟨rfl, hB2⟩
          have KB2 := Aside0.mk (below_then KB1.out KB1.out.size hB2)
          have KR2 := Aside0.mk (KR1.out.below hB2)
          clear hB2
          obtain ⟨n1, n2, n5, hpk⟩ := Kari.out
          go_wp2_with (go_at_call 41; apply Aside0.out)
          refine ⟨?_⟩
          refine (KL3.out _ (by omega) (by decide) (by have := KbL.out; omega) KB2.out).mono ?_
          rintro e w3 ⟨rfl, hB3⟩
          have KB3 := Aside0.mk (below_then KB2.out KB2.out.size hB3)
          have KR3 := Aside0.mk (KR2.out.below hB3)
          clear hB3 b1
          obtain ⟨G, hG⟩ : ∃ G, G = rgt C0 := ⟨_, rfl⟩
          have KRt := Aside0.mk (rright_any C0)
          rw [← hG, eC.out] at KRt
          have KG := Aside0.mk hG
          have Kal : Aside0 (Below w.heap.size w (w3.alloc (.cells #[.int .i64 p, .int .i64 P, .int .i64 S, .bool false, .int .u32 Z] 62))) := ⟨below_then KB3.out KB3.out.size (below_alloc (Below.refl _ _) _)⟩
          clear hG
          by_cases c4 : sz > 8192
          · have c4b : decide (sz > 8192) = true := decide_eq_true c4
            have Kmin : Aside0 (min sz 8192 = 8192) := ⟨by omega⟩
            have Ksz : Aside0 ((0 : Int) ≤ sz - 8192) := ⟨by omega⟩
            go_wp2_with (go_at_call 53; apply Aside0.out)
            refine ⟨?_⟩
            refine (KRt.out _).mono ?_
            rintro e w5 ⟨rfl, hB5⟩
            have KB5 := Aside0.mk (below_then Kal.out Kal.out.size hB5)
            obtain ⟨x0, x1, x2, x3, x4⟩ := bx_cells ((hB5.block w3.heap.size (by simp)).trans (heap_alloc_new w3 _))
            have KR5 := Aside0.mk ((KR3.out.below (below_alloc (Below.refl _ _) _)).below hB5)
            obtain ⟨inn, hinn⟩ := Kd.R_own KR3.out
            have hown := fun k => own_ne_new hinn k
            have hown0 := hown 0
            rw [Nat.add_zero] at hown0
            have hg3 : w3.heap.size < w5.heap.size := by have := hB5.size; simp at this; omega
            obtain ⟨g, hg⟩ : ∃ g, g = w3.heap.size := ⟨_, rfl⟩
            rw [← hg] at x0 x1 x2 x3 x4 hown0 hg3 ⊢
            have Ko := Aside0.mk hown0
            clear hg hB5 hinn hown hown0 n1 n2 n5 hpk
            cases G with
            | false =>
              have hR6 : Aside0 (R = ([], 6)) := ⟨by rw [← Ka.out]; exact chs_wrong l g1 (by have := Kp8.out; omega) (fun h => by have h1 := h.1; rw [← KC0.out, ← KG.out] at h1; cases h1)⟩
              go_wp2
              go_ret2
              exact ⟨.slice none 0 0, by rw [hR6.out] <;> rfl, by rw [hR6.out]; exact RC.nil _ _, KB5.out⟩
            | true =>
              by_cases c5 : (P : Int) = 8192
              · have c5b : ((P : Int) != 8192) = false := by simp [c5]
                by_cases c6 : t < q
                · have c6b : decide ((q : Int) > (t : Int)) = true := decide_eq_true (by omega)
                  have hR6 : Aside0 (R = ([], 6)) := ⟨by rw [← Ka.out]; exact chs_wrong l g1 (by have := Kp8.out; omega) (fun h => by have h1 := h.2.2; rw [← KC0.out, eC.out] at h1; simp only at h1; have := Kq.out; omega)⟩
                  clear c5
                  go_wp2
                  go_ret2
                  exact ⟨.slice none 0 0, by rw [hR6.out] <;> rfl, by rw [hR6.out]; exact RC.nil _ _, KB5.out⟩
                · have c6b : decide ((q : Int) > (t : Int)) = false := decide_eq_false (by omega)
                  have c6d : decide (t < q) = false := decide_eq_false c6
                  have c6e : q ≤ t := by omega
                  have Knx : Aside0 (acc (l ++ [C0]) (chs im t f (q : Int) (sz - 8192)) = R) := ⟨by
                    rw [← Ka.out, chs_more l g1 (by have := Kp8.out; omega) ⟨by rw [← KC0.out]; exact KG.out.symm, by rw [← KC0.out, eC.out, Kmin.out]; exact c5, by rw [← KC0.out, eC.out]; simp only; have := Kq.out; omega⟩, ← KC0.out, Kmin.out, eC.out]
                    simp only
                    rw [show (p : Int) + 8 + (S : Int) = (q : Int) by have := Kq.out; omega]⟩
                  have Kqt : Aside0 (q ≤ t ∧ p < q) := ⟨by have := Kq.out; omega⟩
                  clear c5 c6
                  go_wp2_with ((with_reducible refine gate_builtin (b := .append) (xs := #[.tmp 84, .tmp 86]) rfl ?_); apply Aside0.out)
                  refine ⟨?_⟩
                  refine Kd.R_append kC (w0 := w) (W := w5) w.heap.size rfl (.tmp 84) (.tmp 86) 57 62 (.agg #[.int .i64 0, .int .i64 0, .int .i64 0, .bool false, .int .u32 0]) 32 rfl Try.underlying57 infoC (by kernel_rfl) (by decide) (by decide) (.slice A1 n c1) l ⟨(p : Int), (P : Int), (S : Int), false, (Z : Int)⟩ [.int .i64 p, .int .i64 P, .int .i64 S, .bool false, .int .u32 Z] (fun _ => True) (fun _ => False) rfl rfl (PMetaParts.k62_mkM _ _ _ _) (fun _ h => h.elim) (fun _ _ => trivial) KR5.out KB5.out KB5.out.size (by rw [← Kn.out]; omega) ?_
                  intro v6 w6 h6 hB6 hg6 hat6
                  have hb6 := hg6.block g hg3 Ko.out
                  have y2 : w6.cell? ⟨g, 2, none⟩ = some (.int .i64 S) := (World.cell?_of_block hb6).trans x2
                  obtain ⟨A6, c6, rfl, hc6, -⟩ := RC.slice h6
                  have KR6 := Aside0.mk h6
                  have KB6 := Aside0.mk hB6
                  rw [← eC.out] at KR6
                  have hl6 : (l ++ [C0]).length = n + 1 := by rw [List.length_append, ← Kn.out]; rfl
                  have hl7 : (l ++ [(⟨(p : Int), (P : Int), (S : Int), false, (Z : Int)⟩ : Ck)]).length = n + 1 := by rw [← eC.out]; exact hl6
                  rw [hl6] at KR6
                  rw [hl7]
                  have Kl6 := Aside0.mk hl6
                  clear h6 hB6 hg6 hat6 hb6 x0 x1 x2 x3 x4 hl6 hl7 hc6
                  go_wp2
                  go_roundw
                  case rel => exact ⟨q, n + 1, f, sz - 8192, l ++ [C0], A6, c6, rfl, rfl, rfl, Kqt.out.1, Ksz.out, by omega, by have := Kq.out; omega, ⟨Kl6.out.symm⟩, KR6, KB6, ⟨by have := Kf.out; have := Kqt.out; omega⟩, Knx⟩
                  case measure => simp [intOf]; have := Kqt.out; omega
              · have c5b : ((P : Int) != 8192) = true := by simp [c5]
                have hR6 : Aside0 (R = ([], 6)) := ⟨by rw [← Ka.out]; exact chs_wrong l g1 (by have := Kp8.out; omega) (fun h => by have h1 := h.2.1; rw [← KC0.out, eC.out, Kmin.out] at h1; exact c5 h1)⟩
                clear c5
                go_wp2
                go_ret2
                exact ⟨.slice none 0 0, by rw [hR6.out] <;> rfl, by rw [hR6.out]; exact RC.nil _ _, KB5.out⟩
          · have c4b : decide (sz > 8192) = false := decide_eq_false c4
            have Kmin : Aside0 (min sz 8192 = sz) := ⟨by omega⟩
            have Ksz : Aside0 ((0 : Int) ≤ 0) := ⟨by omega⟩
            go_wp2_with (go_at_call 53; apply Aside0.out)
            refine ⟨?_⟩
            refine (KRt.out _).mono ?_
            rintro e w5 ⟨rfl, hB5⟩
            have KB5 := Aside0.mk (below_then Kal.out Kal.out.size hB5)
            obtain ⟨x0, x1, x2, x3, x4⟩ := bx_cells ((hB5.block w3.heap.size (by simp)).trans (heap_alloc_new w3 _))
            have KR5 := Aside0.mk ((KR3.out.below (below_alloc (Below.refl _ _) _)).below hB5)
            obtain ⟨inn, hinn⟩ := Kd.R_own KR3.out
            have hown := fun k => own_ne_new hinn k
            have hown0 := hown 0
            rw [Nat.add_zero] at hown0
            have hg3 : w3.heap.size < w5.heap.size := by have := hB5.size; simp at this; omega
            obtain ⟨g, hg⟩ : ∃ g, g = w3.heap.size := ⟨_, rfl⟩
            rw [← hg] at x0 x1 x2 x3 x4 hown0 hg3 ⊢
            have Ko := Aside0.mk hown0
            clear hg hB5 hinn hown hown0 n1 n2 n5 hpk
            cases G with
            | false =>
              have hR6 : Aside0 (R = ([], 6)) := ⟨by rw [← Ka.out]; exact chs_wrong l g1 (by have := Kp8.out; omega) (fun h => by have h1 := h.1; rw [← KC0.out, ← KG.out] at h1; cases h1)⟩
              go_wp2
              go_ret2
              exact ⟨.slice none 0 0, by rw [hR6.out] <;> rfl, by rw [hR6.out]; exact RC.nil _ _, KB5.out⟩
            | true =>
              by_cases c5 : (P : Int) = sz
              · have c5b : ((P : Int) != sz) = false := by simp [c5]
                by_cases c6 : t < q
                · have c6b : decide ((q : Int) > (t : Int)) = true := decide_eq_true (by omega)
                  have hR6 : Aside0 (R = ([], 6)) := ⟨by rw [← Ka.out]; exact chs_wrong l g1 (by have := Kp8.out; omega) (fun h => by have h1 := h.2.2; rw [← KC0.out, eC.out] at h1; simp only at h1; have := Kq.out; omega)⟩
                  clear c5
                  go_wp2
                  go_ret2
                  exact ⟨.slice none 0 0, by rw [hR6.out] <;> rfl, by rw [hR6.out]; exact RC.nil _ _, KB5.out⟩
                · have c6b : decide ((q : Int) > (t : Int)) = false := decide_eq_false (by omega)
                  have c6d : decide (t < q) = false := decide_eq_false c6
                  have c6e : q ≤ t := by omega
                  have Knx : Aside0 (acc (l ++ [C0]) (chs im t f (q : Int) (0)) = R) := ⟨by
                    rw [← Ka.out, chs_more l g1 (by have := Kp8.out; omega) ⟨by rw [← KC0.out]; exact KG.out.symm, by rw [← KC0.out, eC.out, Kmin.out]; exact c5, by rw [← KC0.out, eC.out]; simp only; have := Kq.out; omega⟩, ← KC0.out, Kmin.out, eC.out]
                    simp only
                    rw [show (p : Int) + 8 + (S : Int) = (q : Int) by have := Kq.out; omega, Int.sub_self]⟩
                  have Kqt : Aside0 (q ≤ t ∧ p < q) := ⟨by have := Kq.out; omega⟩
                  clear c5 c6
                  go_wp2_with ((with_reducible refine gate_builtin (b := .append) (xs := #[.tmp 84, .tmp 86]) rfl ?_); apply Aside0.out)
                  refine ⟨?_⟩
                  refine Kd.R_append kC (w0 := w) (W := w5) w.heap.size rfl (.tmp 84) (.tmp 86) 57 62 (.agg #[.int .i64 0, .int .i64 0, .int .i64 0, .bool false, .int .u32 0]) 32 rfl Try.underlying57 infoC (by kernel_rfl) (by decide) (by decide) (.slice A1 n c1) l ⟨(p : Int), (P : Int), (S : Int), false, (Z : Int)⟩ [.int .i64 p, .int .i64 P, .int .i64 S, .bool false, .int .u32 Z] (fun _ => True) (fun _ => False) rfl rfl (PMetaParts.k62_mkM _ _ _ _) (fun _ h => h.elim) (fun _ _ => trivial) KR5.out KB5.out KB5.out.size (by rw [← Kn.out]; omega) ?_
                  intro v6 w6 h6 hB6 hg6 hat6
                  have hb6 := hg6.block g hg3 Ko.out
                  have y2 : w6.cell? ⟨g, 2, none⟩ = some (.int .i64 S) := (World.cell?_of_block hb6).trans x2
                  obtain ⟨A6, c6, rfl, hc6, -⟩ := RC.slice h6
                  have KR6 := Aside0.mk h6
                  have KB6 := Aside0.mk hB6
                  rw [← eC.out] at KR6
                  have hl6 : (l ++ [C0]).length = n + 1 := by rw [List.length_append, ← Kn.out]; rfl
                  have hl7 : (l ++ [(⟨(p : Int), (P : Int), (S : Int), false, (Z : Int)⟩ : Ck)]).length = n + 1 := by rw [← eC.out]; exact hl6
                  rw [hl6] at KR6
                  rw [hl7]
                  have Kl6 := Aside0.mk hl6
                  clear h6 hB6 hg6 hat6 hb6 x0 x1 x2 x3 x4 hl6 hl7 hc6
                  go_wp2
                  go_roundw
                  case rel => exact ⟨q, n + 1, f, 0, l ++ [C0], A6, c6, rfl, rfl, rfl, Kqt.out.1, Ksz.out, by omega, by have := Kq.out; omega, ⟨Kl6.out.symm⟩, KR6, KB6, ⟨by have := Kf.out; have := Kqt.out; omega⟩, Knx⟩
                  case measure => simp [intOf]; have := Kqt.out; omega
              · have c5b : ((P : Int) != sz) = true := by simp [c5]
                have hR6 : Aside0 (R = ([], 6)) := ⟨by rw [← Ka.out]; exact chs_wrong l g1 (by have := Kp8.out; omega) (fun h => by have h1 := h.2.1; rw [← KC0.out, eC.out, Kmin.out] at h1; exact c5 h1)⟩
                clear c5
                go_wp2
                go_ret2
                exact ⟨.slice none 0 0, by rw [hR6.out] <;> rfl, by rw [hR6.out]; exact RC.nil _ _, KB5.out⟩
    · have hsz : decide (sz > 0) = false := decide_eq_false g1
      by_cases g2 : p = t
      · subst g2
        have hR6 : Aside0 (R = (l, 0)) := ⟨by rw [← Ka.out]; exact chs_done l (by omega) rfl⟩
        have hne : ((p : Int) != (p : Int)) = false := by simp
        go_wp2
        go_ret2
        exact ⟨.slice A1 n c1, by rw [hR6.out] <;> rfl, by rw [hR6.out]; exact KR.out, KB.out⟩
      · have hR6 : Aside0 (R = ([], 6)) := ⟨by rw [← Ka.out]; exact chs_open l (by omega) (by omega)⟩
        have hne : ((p : Int) != (t : Int)) = true := by simp; omega
        go_wp2
        go_ret2
        exact ⟨.slice none 0 0, by rw [hR6.out] <;> rfl, by rw [hR6.out]; exact RC.nil _ _, KB.out⟩
theorem rchunks_any (w : World) (im : List Int) (A : Option Addr) (c : Nat) (a t size : Int) (hC : Kd.C (Kd.int .u8) w A im.length im) (hc : im.length ≤ c) (him : isB im) (hl : im.length ≤ 1000000) :
    Calls Try.prog 31 #[.slice A im.length c, .int .i64 a, .int .i64 t, .int .i64 size] w fun e w' => ∃ v, e = .returned (.tuple #[v, .int .i64 (chunks im a t size).2]) ∧ RC w' w.heap.size v (chunks im a t size).1 ∧ Below w.heap.size w w' := by
  unfold chunks
  by_cases hb : a < 0 ∨ a > t ∨ t > im.length ∨ size < 0 ∨ size > 16777216
  · rw [if_pos hb]
    have h : Calls Try.prog 31 #[.slice A im.length c, .int .i64 a, .int .i64 t, .int .i64 size] w fun e w' => e = .returned (.tuple #[.slice none 0 0, .int .i64 1]) ∧ w = w' := by
      by_cases h1 : a < 0
      · exact rch_bad0 w A _ c a t size (decide_eq_true h1)
      by_cases h2 : a > t
      · exact rch_bad1 w A _ c a t size (decide_eq_false h1) (decide_eq_true h2)
      by_cases h3 : t > im.length
      · exact rch_bad2 w A _ c a t size (decide_eq_false h1) (decide_eq_false h2) (decide_eq_true h3)
      by_cases h4 : size < 0
      · exact rch_bad3 w A _ c a t size (decide_eq_false h1) (decide_eq_false h2) (decide_eq_false h3) (decide_eq_true h4)
      exact rch_bad4 w A _ c a t size (decide_eq_false h1) (decide_eq_false h2) (decide_eq_false h3) (decide_eq_false h4) (decide_eq_true (by omega))
    refine h.mono ?_
    rintro e w' ⟨rfl, rfl⟩
    exact ⟨_, rfl, RC.nil _ _, Below.refl _ _⟩
  · rw [if_neg hb]
    obtain ⟨a, rfl⟩ := Int.eq_ofNat_of_zero_le (show 0 ≤ a by omega)
    obtain ⟨t, rfl⟩ := Int.eq_ofNat_of_zero_le (show 0 ≤ t by omega)
    exact rch_good w im A c a t size hC hc him hl (by omega) (by omega) (by omega) (by omega) _ rfl
end Go.Proofs.Ytpdggoapjbjmhaa.Me
