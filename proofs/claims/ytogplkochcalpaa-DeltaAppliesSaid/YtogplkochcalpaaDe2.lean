/- Deltas: plain: digests, what ops tell, Apply: the printed functions answer so. -/
import Derived.Test.YtogplkochcalpaaPDc
import Derived.Test.YtogplkochcalpaaDe1
set_option linter.unusedVariables false
set_option linter.unusedSimpArgs false
namespace Go.Proofs.Ytogplkochcalpaa.De
open Go.RowKit Go.Proofs.Ytogplkochcalpaa.PD Go.Proofs.YtogplkochcalpaaW.PrintWords Go.Proofs.YtogplkochcalpaaW.PrintLast Go.Proofs.YtogplkochcalpaaW.PrintMore
def onF (d : Int) (l : List Int) : Int := l.foldl (fun d b => IntKind.u64.wrap ((Go.bits .xor .u64 d (IntKind.u64.wrap b)) * 1099511628211)) d
def digF (l : List Int) : Int := onF 14695981039346656037 l
theorem rd_dropI {l : List Int} {i : Nat} (h : i < l.length) : ∃ x, rd l (i : Int) = x ∧ l.drop i = x :: l.drop (i + 1) := by
  refine ⟨l[i], ?_, List.drop_eq_getElem_cons h⟩
  unfold rd
  rw [Int.toNat_natCast, List.getD_eq_getElem?_getD, List.getElem?_eq_getElem h]; rfl
theorem on_l0 (l : List Int) (hl : l.length ≤ 140737488351232) : ∀ (m i k : Nat) (x : Int), m + i = l.length → m < k → sum_On.l0 k x l (l.length : Int) (i : Int) = some (onF x (l.drop i)) := by
  intro m
  induction m with
  | zero =>
    intro i k x hm hk
    obtain ⟨k, rfl⟩ : ∃ q, k = q + 1 := ⟨k - 1, by omega⟩
    rw [sum_On.l0]
    rw [if_neg (by omega), List.drop_eq_nil_of_le (by omega)]; rfl
  | succ m ih =>
    intro i k x hm hk
    obtain ⟨k, rfl⟩ : ∃ q, k = q + 1 := ⟨k - 1, by omega⟩
    obtain ⟨y, e1, e2⟩ := rd_dropI (l := l) (i := i) (by omega)
    rw [sum_On.l0]
    rw [if_pos (by omega), if_pos (by omega), if_pos (by omega), e1, e2, wrap_in (by omega), show ((i : Int) + 1) = ((i + 1 : Nat) : Int) by omega, ih (i + 1) k _ (by omega) (by omega)]
    rfl
theorem ron_l0 (l : List Int) (hl : l.length ≤ 140737488351232) : ∀ (m i k : Nat) (x : Int), m + i = l.length → m < k → portmanteauref02_On.l0 k x l (i : Int) = some (onF x (l.drop i)) := by
  intro m
  induction m with
  | zero =>
    intro i k x hm hk
    obtain ⟨k, rfl⟩ : ∃ q, k = q + 1 := ⟨k - 1, by omega⟩
    rw [portmanteauref02_On.l0]
    rw [if_neg (by omega), List.drop_eq_nil_of_le (by omega)]; rfl
  | succ m ih =>
    intro i k x hm hk
    obtain ⟨k, rfl⟩ : ∃ q, k = q + 1 := ⟨k - 1, by omega⟩
    obtain ⟨y, e1, e2⟩ := rd_dropI (l := l) (i := i) (by omega)
    rw [portmanteauref02_On.l0]
    rw [if_pos (by omega), if_pos (by omega), e1, e2, wrap_in (n := (i : Int) + 1) (by omega), show ((i : Int) + 1) = ((i + 1 : Nat) : Int) by omega, ih (i + 1) k _ (by omega) (by omega)]
    rfl
theorem digest_f (l : List Int) (k : Nat) (hk : l.length < k) (hl : l.length ≤ 140737488351232) : sum_Digest.f k l = some (digF l) := by
  unfold sum_Digest.f sum_On.f
  have := on_l0 l hl l.length 0 k 14695981039346656037 (by omega) hk
  rw [show ((0 : Nat) : Int) = 0 from rfl, List.drop_zero] at this
  rw [this]; rfl
theorem rdigest_f (l : List Int) (k : Nat) (hk : l.length < k) (hl : l.length ≤ 140737488351232) : portmanteauref02_Digest.f k l = some (digF l) := by
  unfold portmanteauref02_Digest.f portmanteauref02_On.f
  have := ron_l0 l hl l.length 0 k 14695981039346656037 (by omega) hk
  rw [show ((0 : Nat) : Int) = 0 from rfl, List.drop_zero] at this
  rw [this]; rfl
/-- The part of the old bytes that an op copies. -/
def sl (old : List Int) (o : S37) : List Int := (old.take (o.f0 + o.f1).toNat).drop o.f0.toNat
def tell (old : List Int) : List Int → List S37 → List Int
  | out, [] => out
  | out, o :: r => tell old (out ++ (o.f2 ++ sl old o)) r
theorem sl_length {old : List Int} {o : S37} (h : rightO o (old.length : Int)) : (sl old o).length = o.f1.toNat := by
  unfold sl
  rw [List.length_drop, List.length_take]
  unfold rightO at h
  split at h <;> omega
theorem piece_length {old : List Int} {o : S37} (h : rightO o (old.length : Int)) : ((o.f2 ++ sl old o).length : Int) = ol o := by
  rw [List.length_append, sl_length h]
  unfold ol
  unfold rightO at h
  split at h <;> omega
theorem sl_nil {old : List Int} {o : S37} (h : rightO o (old.length : Int)) (h1 : ¬ o.f1 > 0) : sl old o = [] := by
  apply List.eq_nil_of_length_eq_zero
  rw [sl_length h]; omega
theorem f2_nil {old : Int} {o : S37} (h : rightO o old) (h1 : o.f1 > 0) : o.f2 = [] := by
  apply List.eq_nil_of_length_eq_zero
  unfold rightO at h
  split at h <;> omega
theorem rightL_cons {a x : Int} {o : S37} {r : List S37} (h : rightL a x (o :: r) = true) : rightO o a ∧ ol o ≤ x ∧ rightL a (x - ol o) r = true := by
  simp only [rightL, Bool.and_eq_true, decide_eq_true_eq] at h
  exact ⟨h.1.1, h.1.2, h.2⟩
theorem tell_length {old : List Int} : ∀ {l : List S37} {x : Int} {out : List Int}, rightL (old.length : Int) x l = true → ((tell old out l).length : Int) = out.length + x
  | [], x, out, h => by
    have h2 : x = 0 := by simpa [rightL] using h
    rw [tell, h2]; omega
  | o :: r, x, out, h => by
    obtain ⟨h1, h2, h3⟩ := rightL_cons h
    rw [tell, tell_length h3, List.length_append, Int.natCast_add, piece_length h1]; omega
theorem bounds0 {o : S37} {a : Int} (h : rightO o a) (h1 : a ≤ 8388608) : 0 ≤ o.f0 ∧ 0 ≤ o.f1 ∧ (0 < o.f1 → o.f0 + o.f1 ≤ a) ∧ o.f0 ≤ o.f0 + o.f1 ∧ (¬ 0 < o.f1 → o.f0 + o.f1 = 0) := by
  unfold rightO at h
  split at h <;> omega
theorem tell_l0 (old : List Int) (l : List S37) (a0 a1 a2 a3 : Int) (hl : l.length ≤ 8388608) (ho : (old.length : Int) ≤ 8388608) : ∀ (m i k : Nat) (x : Int) (out : List Int), m + i = l.length → m < k → rightL (old.length : Int) x (l.drop i) = true → out.length + x ≤ 8388608 →
    portmanteauref30_Tell.l0 k old out (i : Int) a0 a1 a2 a3 l = some (tell old out (l.drop i)) := by
  intro m
  induction m with
  | zero =>
    intro i k x out hm hk hr hx
    obtain ⟨k, rfl⟩ : ∃ q, k = q + 1 := ⟨k - 1, by omega⟩
    rw [portmanteauref30_Tell.l0]
    rw [if_neg (by omega), List.drop_eq_nil_of_le (by omega)]; rfl
  | succ m ih =>
    intro i k x out hm hk hr hx
    obtain ⟨k, rfl⟩ : ∃ q, k = q + 1 := ⟨k - 1, by omega⟩
    obtain ⟨o, e1, e2, e3⟩ := rd_drop (l := l) (i := i) (by omega)
    rw [e2] at hr
    obtain ⟨h1, h2, h3⟩ := rightL_cons hr
    obtain ⟨b1, b2, b3, b4, b5⟩ := bounds0 h1 ho
    have hp := ol_pos h1
    have hpl := piece_length h1
    have hsl : sl old o = (old.take (o.f0 + o.f1).toNat).drop o.f0.toNat := rfl
    rw [List.length_append] at hpl
    rw [portmanteauref30_Tell.l0]
    rw [if_pos (by omega), if_pos (by omega), e1, e2, wrap_in (n := o.f0 + o.f1) (by omega), ← hsl, if_pos (by omega)]
    simp only [Option.bind_some]
    rw [if_pos (by omega), if_pos (by omega), if_pos (by omega), if_pos (by rw [List.length_append]; omega), wrap_in (by omega), show ((i : Int) + 1) = ((i + 1 : Nat) : Int) by omega, List.append_assoc, ih (i + 1) k (x - ol o) _ (by omega) (by omega) h3 (by rw [List.length_append, List.length_append]; omega)]
    rfl
theorem apply_l0 (old : List Int) (l : List S37) (a0 a1 a2 a3 : Int) (hl : l.length ≤ 8388608) (ho : (old.length : Int) ≤ 8388608) : ∀ (m i k : Nat) (x : Int) (out : List Int), m + i = l.length → m + 8388609 < k → rightL (old.length : Int) x (l.drop i) = true → out.length + x ≤ 8388608 → 0 ≤ x →
    delta_Apply.l0 k old out l (l.length : Int) (i : Int) a0 a1 a2 a3 l = some (if digF (tell old out (l.drop i)) = a3 then (tell old out (l.drop i), 0) else ([], 140)) := by
  intro m
  induction m with
  | zero =>
    intro i k x out hm hk hr hx hx0
    obtain ⟨k, rfl⟩ : ∃ q, k = q + 1 := ⟨k - 1, by omega⟩
    rw [delta_Apply.l0]
    rw [if_neg (by omega), List.drop_eq_nil_of_le (by omega), digest_f out k (by omega) (by omega)]
    have ht : tell old out [] = out := rfl
    rw [ht, Option.bind_some]
    split
    · rfl
    · rfl
  | succ m ih =>
    intro i k x out hm hk hr hx hx0
    obtain ⟨k, rfl⟩ : ∃ q, k = q + 1 := ⟨k - 1, by omega⟩
    obtain ⟨o, e1, e2, e3⟩ := rd_drop (l := l) (i := i) (by omega)
    rw [e2] at hr
    obtain ⟨h1, h2, h3⟩ := rightL_cons hr
    obtain ⟨b1, b2, b3, b4, b5⟩ := bounds0 h1 ho
    have hp := ol_pos h1
    have hpl := piece_length h1
    have hsl : sl old o = (old.take (o.f0 + o.f1).toNat).drop o.f0.toNat := rfl
    have hn := ih (i + 1) k (x - ol o) (out ++ (o.f2 ++ sl old o)) (by omega) (by omega) h3 (by rw [List.length_append]; omega) (by omega)
    rw [delta_Apply.l0]
    rw [if_pos (by omega), if_pos (by omega), if_pos (by omega), e1, e2, wrap_in (n := o.f0 + o.f1) (by omega), ← hsl, wrap_in (n := (i : Int) + 1) (by omega), show ((i : Int) + 1) = ((i + 1 : Nat) : Int) by omega]
    have ht : tell old out (o :: l.drop (i + 1)) = tell old (out ++ (o.f2 ++ sl old o)) (l.drop (i + 1)) := rfl
    rw [← ht] at hn
    by_cases c : o.f1 > 0
    · have e5 : o.f2 ++ sl old o = sl old o := by rw [f2_nil h1 c, List.nil_append]
      rw [e5] at hn hpl
      rw [if_pos c, if_pos (by omega), if_pos (by omega), if_pos (by omega), if_pos (by omega), hn]
    · have e5 : o.f2 ++ sl old o = o.f2 := by rw [sl_nil h1 c, List.append_nil]
      rw [e5] at hn hpl
      rw [if_neg c, if_pos (by omega), hn]
def applyP (old : List Int) (d : Dl) : List Int × Int :=
  if rightD d = true then (if (old.length : Int) = d.a ∧ digF old = d.c then (if digF (tell old [] d.l) = d.d then (tell old [] d.l, 0) else ([], 140)) else ([], 8)) else ([], 1)
theorem right_parts {d : Dl} (h : rightD d = true) : 0 ≤ d.a ∧ d.a ≤ 8388608 ∧ 0 ≤ d.b ∧ d.b ≤ 8388608 ∧ (d.l.length : Int) ≤ 8388608 ∧ rightL d.a d.b d.l = true := by
  unfold rightD at h
  simp only [Bool.and_eq_true, decide_eq_true_eq] at h
  obtain ⟨⟨⟨⟨⟨h1, h2⟩, h3⟩, h4⟩, h5⟩, h6⟩ := h
  exact ⟨h1, h2, h3, h4, h5, h6⟩
theorem apply_f (old : List Int) (d : Dl) (k : Nat) (hk : 25200000 ≤ k) (hw : ∀ o ∈ d.l, WfO o) (hl : d.l.length ≤ 8388608) (ho : old.length ≤ 8388608) : delta_Apply.f k old d.a d.b d.c d.d d.l = some (applyP old d) := by
  obtain ⟨k, rfl⟩ : ∃ q, k = q + 1 := ⟨k - 1, by omega⟩
  unfold delta_Apply.f applyP
  rw [check_f d _ (by omega) hw hl]
  simp only [Option.bind_some]
  by_cases r : rightD d = true
  · obtain ⟨r1, r2, r3, r4, r5, r6⟩ := right_parts r
    simp only [if_pos r, if_true]
    by_cases c : (old.length : Int) = d.a
    · rw [if_pos c, digest_f old _ (by omega) (by omega)]
      simp only [Option.bind_some]
      by_cases e : digF old = d.c
      · rw [if_pos ⟨c, e⟩]
        rw [delta_Apply.j0]
        rw [if_neg (by simp [e])]
        have := apply_l0 old d.l d.a d.b d.c d.d hl (by omega) d.l.length 0 k d.b [] (by omega) (by omega) (by rw [c, List.drop_zero]; exact r6) (by simp; omega) r3
        rw [show ((0 : Nat) : Int) = 0 from rfl, List.drop_zero] at this
        exact this
      · rw [if_neg (fun h => e h.2)]
        rw [delta_Apply.j0]
        rw [if_pos (by simpa using e)]
    · rw [if_neg c, if_neg (fun h => c h.1)]
      rw [delta_Apply.j0]
      rw [if_pos rfl]
  · simp [r]
theorem rapply_f (old : List Int) (d : Dl) (k : Nat) (hk : 25200000 ≤ k) (hw : ∀ o ∈ d.l, WfO o) (hl : d.l.length ≤ 8388608) (ho : old.length ≤ 8388608) : portmanteauref30_Apply.f k old d.a d.b d.c d.d d.l = some (applyP old d) := by
  obtain ⟨k, rfl⟩ : ∃ q, k = q + 1 := ⟨k - 1, by omega⟩
  unfold portmanteauref30_Apply.f applyP
  rw [rright_f d _ (by omega) hw hl]
  simp only [Option.bind_some]
  by_cases r : rightD d = true
  · obtain ⟨r1, r2, r3, r4, r5, r6⟩ := right_parts r
    simp only [if_pos r]
    by_cases c : (old.length : Int) = d.a
    · rw [if_pos c, rdigest_f old _ (by omega) (by omega)]
      simp only [Option.bind_some]
      have hr2 : rightL (old.length : Int) d.b d.l = true := by rw [c]; exact r6
      have hlen := tell_length (out := []) hr2
      by_cases e : digF old = d.c
      · rw [if_pos ⟨c, e⟩]
        rw [portmanteauref30_Apply.j0, portmanteauref30_Tell.f]
        rw [if_neg (by simp [e])]
        have := tell_l0 old d.l d.a d.b d.c d.d hl (by omega) d.l.length 0 k d.b [] (by omega) (by omega) (by rw [List.drop_zero]; exact hr2) (by simp; omega)
        rw [show ((0 : Nat) : Int) = 0 from rfl, List.drop_zero] at this
        rw [this]
        simp only [Option.bind_some]
        rw [rdigest_f _ _ (by simp at hlen; omega) (by simp at hlen; omega)]
        simp only [Option.bind_some]
        split
        · first | rfl | (rename_i h; rw [if_pos h]) | (rename_i h; rw [if_neg h])
        · first | rfl | (rename_i h; rw [if_pos h]) | (rename_i h; rw [if_neg h])
      · rw [if_neg (fun h => e h.2)]
        rw [portmanteauref30_Apply.j0]
        rw [if_pos (by simpa using e)]
    · rw [if_neg c, if_neg (fun h => c h.1)]
      rw [portmanteauref30_Apply.j0]
      rw [if_pos rfl]
  · simp [r]
end Go.Proofs.Ytogplkochcalpaa.De
