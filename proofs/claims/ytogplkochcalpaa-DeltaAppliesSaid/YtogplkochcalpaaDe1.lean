/- Deltas: plain: which are right, what they tell; the printed functions answer so. -/
import Derived.Test.YtogplkochcalpaaPDb
set_option linter.unusedVariables false
set_option linter.unusedSimpArgs false
namespace Go.Proofs.Ytogplkochcalpaa.De
open Go.RowKit Go.Proofs.Ytogplkochcalpaa.PD Go.Proofs.YtogplkochcalpaaW.PrintWords Go.Proofs.YtogplkochcalpaaW.PrintLast Go.Proofs.YtogplkochcalpaaW.PrintMore
/-- How many bytes an op tells. -/
def ol (o : S37) : Int := o.f1 + o.f2.length
def rightO (o : S37) (old : Int) : Prop := if o.f1 = 0 then o.f0 = 0 ∧ 0 < (o.f2.length : Int) else (o.f2.length : Int) = 0 ∧ 0 < o.f1 ∧ 0 ≤ o.f0 ∧ o.f1 ≤ old ∧ o.f0 ≤ old - o.f1
instance (o : S37) (old : Int) : Decidable (rightO o old) := by unfold rightO; infer_instance
def rightL (old : Int) : Int → List S37 → Bool
  | left, [] => decide (left = 0)
  | left, o :: r => decide (rightO o old) && decide (ol o ≤ left) && rightL old (left - ol o) r
structure Dl where
  a : Int
  b : Int
  c : Int
  d : Int
  l : List S37
def rightD (d : Dl) : Bool := decide (0 ≤ d.a) && decide (d.a ≤ 8388608) && decide (0 ≤ d.b) && decide (d.b ≤ 8388608) && decide ((d.l.length : Int) ≤ 8388608) && rightL d.a d.b d.l
/-- What the machine's numbers allow. -/
structure WfO (o : S37) : Prop where
  f0 : -9223372036854775808 ≤ o.f0 ∧ o.f0 ≤ 9223372036854775807
  f1 : -9223372036854775808 ≤ o.f1 ∧ o.f1 ≤ 9223372036854775807
  f2 : o.f2.length ≤ 140737488351232
theorem rd_drop {l : List S37} {i : Nat} (h : i < l.length) : ∃ o, rd_T37 l (i : Int) = o ∧ l.drop i = o :: l.drop (i + 1) ∧ o ∈ l := by
  refine ⟨l[i], ?_, List.drop_eq_getElem_cons h, List.getElem_mem _⟩
  unfold rd_T37
  rw [Int.toNat_natCast, List.getD_eq_getElem?_getD, List.getElem?_eq_getElem h]; rfl
theorem wrap_in {n : Int} (h : -9223372036854775808 ≤ n ∧ n ≤ 9223372036854775807) : wrap64 n = n := by unfold wrap64; omega
theorem rightO_z {o : S37} {old : Int} (a : o.f1 = 0) : rightO o old ↔ (o.f0 = 0 ∧ 0 < (o.f2.length : Int)) := by unfold rightO; rw [if_pos a]
theorem rightO_n {o : S37} {old : Int} (a : ¬ o.f1 = 0) : rightO o old ↔ ((o.f2.length : Int) = 0 ∧ 0 < o.f1 ∧ 0 ≤ o.f0 ∧ o.f1 ≤ old ∧ o.f0 ≤ old - o.f1) := by unfold rightO; rw [if_neg a]
theorem right_f (o : S37) (old : Int) (h0 : 0 ≤ old) (h1 : old ≤ 8388608) : delta_right.f o.f0 o.f1 o.f2 old = some (decide (rightO o old)) := by
  unfold delta_right.f
  by_cases a : o.f1 = 0
  · rw [if_pos a]
    by_cases b : o.f0 = 0
    · rw [if_pos b, Option.some_inj, decide_eq_decide, rightO_z a]; omega
    · rw [if_neg b, Option.some_inj, eq_comm, decide_eq_false_iff_not, rightO_z a]; omega
  · rw [if_neg a]
    by_cases b : (o.f2.length : Int) = 0
    · rw [if_pos b]
      by_cases c : o.f1 > 0
      · rw [if_pos c]
        by_cases d : o.f0 ≥ 0
        · rw [if_pos d]
          by_cases e : o.f1 ≤ old
          · rw [if_pos e, wrap_in (by omega), Option.some_inj, decide_eq_decide, rightO_n a]; omega
          · rw [if_neg e, Option.some_inj, eq_comm, decide_eq_false_iff_not, rightO_n a]; omega
        · rw [if_neg d, Option.some_inj, eq_comm, decide_eq_false_iff_not, rightO_n a]; omega
      · rw [if_neg c, Option.some_inj, eq_comm, decide_eq_false_iff_not, rightO_n a]; omega
    · rw [if_neg b, Option.some_inj, eq_comm, decide_eq_false_iff_not, rightO_n a]; omega
theorem ol_pos {o : S37} {old : Int} (h : rightO o old) : 0 < ol o := by
  unfold rightO at h
  unfold ol
  split at h <;> omega
theorem ol_wrap {o : S37} {old : Int} (h : rightO o old) (h1 : old ≤ 8388608) (hw : WfO o) : wrap64 (o.f1 + (o.f2.length : Int)) = ol o := by
  have := hw.f2
  unfold rightO at h
  unfold ol
  rw [wrap_in]
  split at h <;> omega
theorem check_l0 (d : Dl) (a0 a1 a2 a3 : Int) (hl : d.l.length ≤ 8388608) (h0 : 0 ≤ a0) (h1 : a0 ≤ 8388608) (hw : ∀ o ∈ d.l, WfO o) : ∀ (m i k : Nat) (x : Int), m + i = d.l.length → m < k → 0 ≤ x → x ≤ 8388608 →
    delta_Check.l0 k x d.l (d.l.length : Int) (i : Int) a0 a1 a2 a3 d.l = some (if rightL a0 x (d.l.drop i) = true then 0 else 1) := by
  intro m
  induction m with
  | zero =>
    intro i k x hm hk hx0 hx1
    obtain ⟨k, rfl⟩ : ∃ q, k = q + 1 := ⟨k - 1, by omega⟩
    rw [delta_Check.l0]
    rw [if_neg (by omega), List.drop_eq_nil_of_le (by omega)]
    by_cases e : x = 0
    · rw [if_neg (by omega)]; simp [rightL, e]
    · rw [if_pos (by omega)]; simp [rightL, e]
  | succ m ih =>
    intro i k x hm hk hx0 hx1
    obtain ⟨k, rfl⟩ : ∃ q, k = q + 1 := ⟨k - 1, by omega⟩
    obtain ⟨o, e1, e2, e3⟩ := rd_drop (l := d.l) (i := i) (by omega)
    rw [delta_Check.l0]
    rw [if_pos (by omega), if_pos (by omega), if_pos (by omega), e1, e2, right_f o a0 h0 h1]
    simp only [Option.bind_some, delta_length.f]
    by_cases r : rightO o a0
    · rw [if_pos (by simpa using r), ol_wrap r h1 (hw o e3)]
      have hp := ol_pos r
      by_cases c : ol o ≤ x
      · rw [if_neg (by omega), wrap_in (by omega), wrap_in (by omega)]
        have := ih (i + 1) k (x - ol o) (by omega) (by omega) (by omega) (by omega)
        rw [show ((i : Int) + 1) = ((i + 1 : Nat) : Int) by omega, this]
        simp [rightL, r, c]
      · rw [if_pos (by omega)]
        simp [rightL, c]
    · rw [if_neg (by simpa using r)]
      simp [rightL, r]
theorem check_f (d : Dl) (k : Nat) (hk : d.l.length + 3 ≤ k) (hw : ∀ o ∈ d.l, WfO o) (hl : d.l.length ≤ 8388608) : delta_Check.f k d.a d.b d.c d.d d.l = some (if rightD d = true then 0 else 1) := by
  obtain ⟨k, rfl⟩ : ∃ q, k = q + 1 := ⟨k - 1, by omega⟩
  unfold delta_Check.f delta_between.f rightD
  by_cases a : 0 ≤ d.a
  · by_cases b : d.a ≤ 8388608
    · by_cases c : 0 ≤ d.b
      · by_cases e : d.b ≤ 8388608
        · have hll : ((d.l.length : Int) ≤ 8388608) := by omega
          rw [if_pos (by omega), if_pos (by omega)]
          simp only [Option.bind_some, decide_eq_true b, decide_eq_true e, if_true]
          rw [delta_Check.j0]
          rw [if_neg (by simp; omega)]
          have := check_l0 d d.a d.b d.c d.d hl a b hw d.l.length 0 k d.b (by omega) (by omega) c e
          rw [show ((0 : Nat) : Int) = 0 from rfl] at this
          rw [this, List.drop_zero]
          simp [a, b, c, e, hll]
        · rw [if_pos (by omega), if_pos (by omega)]
          simp [e, delta_Check.j0, a, b]
      · rw [if_pos (by omega), if_neg (by omega)]
        simp [c, delta_Check.j0, a, b]
    · rw [if_pos (by omega)]
      simp [b, delta_Check.j0]
  · rw [if_neg (by omega)]
    simp [a, delta_Check.j0]
theorem rright_l0 (d : Dl) (a2 a3 : Int) (h0 : 0 ≤ d.a) (h1 : d.a ≤ 8388608) (h2 : 0 ≤ d.b) (h3 : d.b ≤ 8388608) (hl : d.l.length ≤ 8388608) (hw : ∀ o ∈ d.l, WfO o) : ∀ (m i k : Nat) (x : Int), m + i = d.l.length → 3 * m < k → 0 ≤ x → x ≤ d.b →
    portmanteauref30_Right.l0 k x (i : Int) d.a d.b a2 a3 d.l = some (rightL d.a (d.b - x) (d.l.drop i)) := by
  intro m
  induction m with
  | zero =>
    intro i k x hm hk hx0 hx1
    obtain ⟨k, rfl⟩ : ∃ q, k = q + 1 := ⟨k - 1, by omega⟩
    rw [portmanteauref30_Right.l0]
    rw [if_neg (by omega), List.drop_eq_nil_of_le (by omega)]
    simp only [rightL]
    congr 1
    rw [Bool.eq_iff_iff]
    simp
    omega
  | succ m ih =>
    intro i k x hm hk hx0 hx1
    obtain ⟨k, rfl⟩ : ∃ q, k = q + 3 := ⟨k - 3, by omega⟩
    obtain ⟨o, e1, e2, e3⟩ := rd_drop (l := d.l) (i := i) (by omega)
    obtain ⟨w0, w1, w2⟩ := hw o e3
    have hn : ¬ rightO o d.a → rightL d.a (d.b - x) (o :: d.l.drop (i + 1)) = false := fun h => by simp [rightL, h]
    have j2no : ∀ q, portmanteauref30_Right.j2 (q + 1) x (i : Int) true d.a d.b a2 a3 d.l o.f0 o.f1 o.f2 = some false := fun q => by rw [portmanteauref30_Right.j2]; rw [if_pos rfl]
    have j3no : ∀ q, portmanteauref30_Right.j3 (q + 1) x (i : Int) true d.a d.b a2 a3 d.l o.f0 o.f1 o.f2 = some false := fun q => by rw [portmanteauref30_Right.j3]; rw [if_pos rfl]
    have j3yes : rightO o d.a → portmanteauref30_Right.j3 (k + 1) x (i : Int) false d.a d.b a2 a3 d.l o.f0 o.f1 o.f2 = some (rightL d.a (d.b - x) (o :: d.l.drop (i + 1))) := fun r => by
      have hp := ol_pos r
      have hb : ol o ≤ 140737496739840 := by unfold rightO at r; unfold ol; split at r <;> omega
      have hb1 : 0 ≤ o.f1 ∧ o.f1 ≤ 8388608 := by unfold rightO at r; split at r <;> omega
      rw [portmanteauref30_Right.j3]
      rw [if_neg (by simp), wrap_in (n := x + o.f1) (by omega), show x + o.f1 + (o.f2.length : Int) = x + ol o by unfold ol; omega, wrap_in (n := x + ol o) (by omega)]
      by_cases c : ol o ≤ d.b - x
      · rw [if_neg (by omega), wrap_in (by omega), show ((i : Int) + 1) = ((i + 1 : Nat) : Int) by omega, ih (i + 1) k (x + ol o) (by omega) (by omega) (by omega) (by omega)]
        simp only [rightL, decide_eq_true r, decide_eq_true c, Bool.true_and]
        rw [show d.b - (x + ol o) = d.b - x - ol o by omega]
      · rw [if_pos (by omega)]
        simp [rightL, c]
    rw [portmanteauref30_Right.l0]
    rw [if_pos (by omega), if_pos (by omega), e1, e2]
    by_cases c1 : o.f1 < 0
    · rw [if_pos c1, j2no, hn (by unfold rightO; rw [if_neg (by omega)]; omega)]
    rw [if_neg c1]
    by_cases c2 : o.f0 < 0
    · rw [if_pos c2, j2no, hn (by unfold rightO; split <;> omega)]
    rw [if_neg c2]
    by_cases c3 : o.f1 > d.a
    · rw [if_pos c3, j2no, hn (by unfold rightO; rw [if_neg (by omega)]; omega)]
    rw [if_neg c3, wrap_in (by omega)]
    by_cases c4 : o.f0 > d.a - o.f1
    · rw [decide_eq_true c4, j2no, hn (by unfold rightO; split <;> omega)]
    rw [decide_eq_false c4]
    rw [portmanteauref30_Right.j2]
    rw [if_neg (by simp)]
    by_cases c5 : o.f1 = 0
    · rw [if_pos c5]
      by_cases c6 : o.f0 = 0
      · rw [if_pos c6]
        by_cases c7 : (o.f2.length : Int) = 0
        · rw [if_pos c7, j3no, hn (by unfold rightO; rw [if_pos c5]; omega)]
        · rw [if_neg c7, if_neg (by omega), j3yes (by unfold rightO; rw [if_pos c5]; omega)]
      · rw [if_neg c6, j3no, hn (by unfold rightO; rw [if_pos c5]; omega)]
    · rw [if_neg c5, if_pos (by omega)]
      by_cases c7 : (o.f2.length : Int) > 0
      · rw [decide_eq_true c7, j3no, hn (by unfold rightO; rw [if_neg c5]; omega)]
      · rw [decide_eq_false c7, j3yes (by unfold rightO; rw [if_neg c5]; omega)]
theorem rright_f (d : Dl) (k : Nat) (hk : 3 * d.l.length + 3 ≤ k) (hw : ∀ o ∈ d.l, WfO o) (hl : d.l.length ≤ 8388608) : portmanteauref30_Right.f k d.a d.b d.c d.d d.l = some (rightD d) := by
  obtain ⟨k, rfl⟩ : ∃ q, k = q + 1 := ⟨k - 1, by omega⟩
  have j0no : portmanteauref30_Right.j0 (k + 1) true d.a d.b d.c d.d d.l = some false := by rw [portmanteauref30_Right.j0]; rw [if_pos rfl]
  unfold portmanteauref30_Right.f
  by_cases a : d.a < 0
  · rw [if_pos a, j0no]; simp [rightD, Int.not_le.2 a]
  rw [if_neg a]
  by_cases b : d.a > 8388608
  · rw [if_pos b, j0no]; simp [rightD, Int.not_le.2 b]
  rw [if_neg b]
  by_cases c : d.b < 0
  · rw [if_pos c, j0no]; simp [rightD, Int.not_le.2 c]
  rw [if_neg c]
  by_cases e : d.b > 8388608
  · rw [if_pos e, j0no]; simp [rightD, Int.not_le.2 e]
  rw [if_neg e]
  have hll : ((d.l.length : Int) ≤ 8388608) := by omega
  rw [portmanteauref30_Right.j0]
  rw [if_neg (by simp; omega)]
  have := rright_l0 d d.c d.d (by omega) (by omega) (by omega) (by omega) hl hw d.l.length 0 k 0 (by omega) (by omega) (by omega) (by omega)
  rw [show ((0 : Nat) : Int) = 0 from rfl, Int.sub_zero, List.drop_zero] at this
  rw [this]
  simp [rightD, hll, show 0 ≤ d.a by omega, show d.a ≤ 8388608 by omega, show 0 ≤ d.b by omega, show d.b ≤ 8388608 by omega]
end Go.Proofs.Ytogplkochcalpaa.De
