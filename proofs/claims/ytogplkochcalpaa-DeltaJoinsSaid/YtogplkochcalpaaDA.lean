/- Texts put together: De1, De2, De3, De4. -/
import Derived.Test.YtogplkochcalpaaPDb
import Derived.Test.YtogplkochcalpaaEA
/- Deltas: plain: which are right, what they tell; the printed functions answer so. -/
set_option linter.unusedVariables false
set_option linter.unusedSimpArgs false
namespace Go.Proofs.Ytogplkochcalpaa.De
open Go.RowKit Go.Proofs.Ytogplkochcalpaa.PD Go.Proofs.YtogplkochcalpaaW.PrintWords Go.Proofs.YtogplkochcalpaaW.PrintLast Go.Proofs.YtogplkochcalpaaW.PrintMore
/-- How many bytes an op tells. -/
def ol (o : S37) : Int := o.f1 + o.f2.length
def rightO (o : S37) (old : Int) : Prop := if o.f1 = 0 then o.f0 = 0 ∧ 0 < (o.f2.length : Int) else (o.f2.length : Int) = 0 ∧ 0 < o.f1 ∧ 0 ≤ o.f0 ∧ o.f1 ≤ old ∧ o.f0 ≤ old - o.f1
instance (o : S37) (old : Int) : Decidable (rightO o old) := by unfold rightO; infer_instance
def rightL (old : Int) : Int → List S37 → Bool
  | left, [] => decide (left = 0)
  | left, o :: r => decide (rightO o old) && decide (ol o ≤ left) && rightL old (left - ol o) r
structure Dl where
  a : Int
  b : Int
  c : Int
  d : Int
  l : List S37
def rightD (d : Dl) : Bool := decide (0 ≤ d.a) && decide (d.a ≤ 8388608) && decide (0 ≤ d.b) && decide (d.b ≤ 8388608) && decide ((d.l.length : Int) ≤ 8388608) && rightL d.a d.b d.l
/-- What the machine's numbers allow. -/
structure WfO (o : S37) : Prop where
  f0 : -9223372036854775808 ≤ o.f0 ∧ o.f0 ≤ 9223372036854775807
  f1 : -9223372036854775808 ≤ o.f1 ∧ o.f1 ≤ 9223372036854775807
  f2 : o.f2.length ≤ 140737488351232
theorem rd_drop {l : List S37} {i : Nat} (h : i < l.length) : ∃ o, rd_T37 l (i : Int) = o ∧ l.drop i = o :: l.drop (i + 1) ∧ o ∈ l := by
  refine ⟨l[i], ?_, List.drop_eq_getElem_cons h, List.getElem_mem _⟩
  unfold rd_T37
  rw [Int.toNat_natCast, List.getD_eq_getElem?_getD, List.getElem?_eq_getElem h]; rfl
theorem wrap_in {n : Int} (h : -9223372036854775808 ≤ n ∧ n ≤ 9223372036854775807) : wrap64 n = n := by unfold wrap64; omega
theorem rightO_z {o : S37} {old : Int} (a : o.f1 = 0) : rightO o old ↔ (o.f0 = 0 ∧ 0 < (o.f2.length : Int)) := by unfold rightO; rw [if_pos a]
theorem rightO_n {o : S37} {old : Int} (a : ¬ o.f1 = 0) : rightO o old ↔ ((o.f2.length : Int) = 0 ∧ 0 < o.f1 ∧ 0 ≤ o.f0 ∧ o.f1 ≤ old ∧ o.f0 ≤ old - o.f1) := by unfold rightO; rw [if_neg a]
theorem right_f (o : S37) (old : Int) (h0 : 0 ≤ old) (h1 : old ≤ 8388608) : delta_right.f o.f0 o.f1 o.f2 old = some (decide (rightO o old)) := by
  unfold delta_right.f
  by_cases a : o.f1 = 0
  · rw [if_pos a]
    by_cases b : o.f0 = 0
    · rw [if_pos b, Option.some_inj, decide_eq_decide, rightO_z a]; omega
    · rw [if_neg b, Option.some_inj, eq_comm, decide_eq_false_iff_not, rightO_z a]; omega
  · rw [if_neg a]
    by_cases b : (o.f2.length : Int) = 0
    · rw [if_pos b]
      by_cases c : o.f1 > 0
      · rw [if_pos c]
        by_cases d : o.f0 ≥ 0
        · rw [if_pos d]
          by_cases e : o.f1 ≤ old
          · rw [if_pos e, wrap_in (by omega), Option.some_inj, decide_eq_decide, rightO_n a]; omega
          · rw [if_neg e, Option.some_inj, eq_comm, decide_eq_false_iff_not, rightO_n a]; omega
        · rw [if_neg d, Option.some_inj, eq_comm, decide_eq_false_iff_not, rightO_n a]; omega
      · rw [if_neg c, Option.some_inj, eq_comm, decide_eq_false_iff_not, rightO_n a]; omega
    · rw [if_neg b, Option.some_inj, eq_comm, decide_eq_false_iff_not, rightO_n a]; omega
theorem ol_pos {o : S37} {old : Int} (h : rightO o old) : 0 < ol o := by
  unfold rightO at h
  unfold ol
  split at h <;> omega
theorem ol_wrap {o : S37} {old : Int} (h : rightO o old) (h1 : old ≤ 8388608) (hw : WfO o) : wrap64 (o.f1 + (o.f2.length : Int)) = ol o := by
  have := hw.f2
  unfold rightO at h
  unfold ol
  rw [wrap_in]
  split at h <;> omega
theorem check_l0 (d : Dl) (a0 a1 a2 a3 : Int) (hl : d.l.length ≤ 8388608) (h0 : 0 ≤ a0) (h1 : a0 ≤ 8388608) (hw : ∀ o ∈ d.l, WfO o) : ∀ (m i k : Nat) (x : Int), m + i = d.l.length → m < k → 0 ≤ x → x ≤ 8388608 →
    delta_Check.l0 k x d.l (d.l.length : Int) (i : Int) a0 a1 a2 a3 d.l = some (if rightL a0 x (d.l.drop i) = true then 0 else 1) := by
  intro m
  induction m with
  | zero =>
    intro i k x hm hk hx0 hx1
    obtain ⟨k, rfl⟩ : ∃ q, k = q + 1 := ⟨k - 1, by omega⟩
    rw [delta_Check.l0]
    rw [if_neg (by omega), List.drop_eq_nil_of_le (by omega)]
    by_cases e : x = 0
    · rw [if_neg (by omega)]; simp [rightL, e]
    · rw [if_pos (by omega)]; simp [rightL, e]
  | succ m ih =>
    intro i k x hm hk hx0 hx1
    obtain ⟨k, rfl⟩ : ∃ q, k = q + 1 := ⟨k - 1, by omega⟩
    obtain ⟨o, e1, e2, e3⟩ := rd_drop (l := d.l) (i := i) (by omega)
    rw [delta_Check.l0]
    rw [if_pos (by omega), if_pos (by omega), if_pos (by omega), e1, e2, right_f o a0 h0 h1]
    simp only [Option.bind_some, delta_length.f]
    by_cases r : rightO o a0
    · rw [if_pos (by simpa using r), ol_wrap r h1 (hw o e3)]
      have hp := ol_pos r
      by_cases c : ol o ≤ x
      · rw [if_neg (by omega), wrap_in (by omega), wrap_in (by omega)]
        have := ih (i + 1) k (x - ol o) (by omega) (by omega) (by omega) (by omega)
        rw [show ((i : Int) + 1) = ((i + 1 : Nat) : Int) by omega, this]
        simp [rightL, r, c]
      · rw [if_pos (by omega)]
        simp [rightL, c]
    · rw [if_neg (by simpa using r)]
      simp [rightL, r]
theorem check_f (d : Dl) (k : Nat) (hk : d.l.length + 3 ≤ k) (hw : ∀ o ∈ d.l, WfO o) (hl : d.l.length ≤ 8388608) : delta_Check.f k d.a d.b d.c d.d d.l = some (if rightD d = true then 0 else 1) := by
  obtain ⟨k, rfl⟩ : ∃ q, k = q + 1 := ⟨k - 1, by omega⟩
  unfold delta_Check.f delta_between.f rightD
  by_cases a : 0 ≤ d.a
  · by_cases b : d.a ≤ 8388608
    · by_cases c : 0 ≤ d.b
      · by_cases e : d.b ≤ 8388608
        · have hll : ((d.l.length : Int) ≤ 8388608) := by omega
          rw [if_pos (by omega), if_pos (by omega)]
          simp only [Option.bind_some, decide_eq_true b, decide_eq_true e, if_true]
          rw [delta_Check.j0]
          rw [if_neg (by simp; omega)]
          have := check_l0 d d.a d.b d.c d.d hl a b hw d.l.length 0 k d.b (by omega) (by omega) c e
          rw [show ((0 : Nat) : Int) = 0 from rfl] at this
          rw [this, List.drop_zero]
          simp [a, b, c, e, hll]
        · rw [if_pos (by omega), if_pos (by omega)]
          simp [e, delta_Check.j0, a, b]
      · rw [if_pos (by omega), if_neg (by omega)]
        simp [c, delta_Check.j0, a, b]
    · rw [if_pos (by omega)]
      simp [b, delta_Check.j0]
  · rw [if_neg (by omega)]
    simp [a, delta_Check.j0]
theorem rright_l0 (d : Dl) (a2 a3 : Int) (h0 : 0 ≤ d.a) (h1 : d.a ≤ 8388608) (h2 : 0 ≤ d.b) (h3 : d.b ≤ 8388608) (hl : d.l.length ≤ 8388608) (hw : ∀ o ∈ d.l, WfO o) : ∀ (m i k : Nat) (x : Int), m + i = d.l.length → 3 * m < k → 0 ≤ x → x ≤ d.b →
    portmanteauref30_Right.l0 k x (i : Int) d.a d.b a2 a3 d.l = some (rightL d.a (d.b - x) (d.l.drop i)) := by
  intro m
  induction m with
  | zero =>
    intro i k x hm hk hx0 hx1
    obtain ⟨k, rfl⟩ : ∃ q, k = q + 1 := ⟨k - 1, by omega⟩
    rw [portmanteauref30_Right.l0]
    rw [if_neg (by omega), List.drop_eq_nil_of_le (by omega)]
    simp only [rightL]
    congr 1
    rw [Bool.eq_iff_iff]
    simp
    omega
  | succ m ih =>
    intro i k x hm hk hx0 hx1
    obtain ⟨k, rfl⟩ : ∃ q, k = q + 3 := ⟨k - 3, by omega⟩
    obtain ⟨o, e1, e2, e3⟩ := rd_drop (l := d.l) (i := i) (by omega)
    obtain ⟨w0, w1, w2⟩ := hw o e3
    have hn : ¬ rightO o d.a → rightL d.a (d.b - x) (o :: d.l.drop (i + 1)) = false := fun h => by simp [rightL, h]
    have j2no : ∀ q, portmanteauref30_Right.j2 (q + 1) x (i : Int) true d.a d.b a2 a3 d.l o.f0 o.f1 o.f2 = some false := fun q => by rw [portmanteauref30_Right.j2]; rw [if_pos rfl]
    have j3no : ∀ q, portmanteauref30_Right.j3 (q + 1) x (i : Int) true d.a d.b a2 a3 d.l o.f0 o.f1 o.f2 = some false := fun q => by rw [portmanteauref30_Right.j3]; rw [if_pos rfl]
    have j3yes : rightO o d.a → portmanteauref30_Right.j3 (k + 1) x (i : Int) false d.a d.b a2 a3 d.l o.f0 o.f1 o.f2 = some (rightL d.a (d.b - x) (o :: d.l.drop (i + 1))) := fun r => by
      have hp := ol_pos r
      have hb : ol o ≤ 140737496739840 := by unfold rightO at r; unfold ol; split at r <;> omega
      have hb1 : 0 ≤ o.f1 ∧ o.f1 ≤ 8388608 := by unfold rightO at r; split at r <;> omega
      rw [portmanteauref30_Right.j3]
      rw [if_neg (by simp), wrap_in (n := x + o.f1) (by omega), show x + o.f1 + (o.f2.length : Int) = x + ol o by unfold ol; omega, wrap_in (n := x + ol o) (by omega)]
      by_cases c : ol o ≤ d.b - x
      · rw [if_neg (by omega), wrap_in (by omega), show ((i : Int) + 1) = ((i + 1 : Nat) : Int) by omega, ih (i + 1) k (x + ol o) (by omega) (by omega) (by omega) (by omega)]
        simp only [rightL, decide_eq_true r, decide_eq_true c, Bool.true_and]
        rw [show d.b - (x + ol o) = d.b - x - ol o by omega]
      · rw [if_pos (by omega)]
        simp [rightL, c]
    rw [portmanteauref30_Right.l0]
    rw [if_pos (by omega), if_pos (by omega), e1, e2]
    by_cases c1 : o.f1 < 0
    · rw [if_pos c1, j2no, hn (by unfold rightO; rw [if_neg (by omega)]; omega)]
    rw [if_neg c1]
    by_cases c2 : o.f0 < 0
    · rw [if_pos c2, j2no, hn (by unfold rightO; split <;> omega)]
    rw [if_neg c2]
    by_cases c3 : o.f1 > d.a
    · rw [if_pos c3, j2no, hn (by unfold rightO; rw [if_neg (by omega)]; omega)]
    rw [if_neg c3, wrap_in (by omega)]
    by_cases c4 : o.f0 > d.a - o.f1
    · rw [decide_eq_true c4, j2no, hn (by unfold rightO; split <;> omega)]
    rw [decide_eq_false c4]
    rw [portmanteauref30_Right.j2]
    rw [if_neg (by simp)]
    by_cases c5 : o.f1 = 0
    · rw [if_pos c5]
      by_cases c6 : o.f0 = 0
      · rw [if_pos c6]
        by_cases c7 : (o.f2.length : Int) = 0
        · rw [if_pos c7, j3no, hn (by unfold rightO; rw [if_pos c5]; omega)]
        · rw [if_neg c7, if_neg (by omega), j3yes (by unfold rightO; rw [if_pos c5]; omega)]
      · rw [if_neg c6, j3no, hn (by unfold rightO; rw [if_pos c5]; omega)]
    · rw [if_neg c5, if_pos (by omega)]
      by_cases c7 : (o.f2.length : Int) > 0
      · rw [decide_eq_true c7, j3no, hn (by unfold rightO; rw [if_neg c5]; omega)]
      · rw [decide_eq_false c7, j3yes (by unfold rightO; rw [if_neg c5]; omega)]
theorem rright_f (d : Dl) (k : Nat) (hk : 3 * d.l.length + 3 ≤ k) (hw : ∀ o ∈ d.l, WfO o) (hl : d.l.length ≤ 8388608) : portmanteauref30_Right.f k d.a d.b d.c d.d d.l = some (rightD d) := by
  obtain ⟨k, rfl⟩ : ∃ q, k = q + 1 := ⟨k - 1, by omega⟩
  have j0no : portmanteauref30_Right.j0 (k + 1) true d.a d.b d.c d.d d.l = some false := by rw [portmanteauref30_Right.j0]; rw [if_pos rfl]
  unfold portmanteauref30_Right.f
  by_cases a : d.a < 0
  · rw [if_pos a, j0no]; simp [rightD, Int.not_le.2 a]
  rw [if_neg a]
  by_cases b : d.a > 8388608
  · rw [if_pos b, j0no]; simp [rightD, Int.not_le.2 b]
  rw [if_neg b]
  by_cases c : d.b < 0
  · rw [if_pos c, j0no]; simp [rightD, Int.not_le.2 c]
  rw [if_neg c]
  by_cases e : d.b > 8388608
  · rw [if_pos e, j0no]; simp [rightD, Int.not_le.2 e]
  rw [if_neg e]
  have hll : ((d.l.length : Int) ≤ 8388608) := by omega
  rw [portmanteauref30_Right.j0]
  rw [if_neg (by simp; omega)]
  have := rright_l0 d d.c d.d (by omega) (by omega) (by omega) (by omega) hl hw d.l.length 0 k 0 (by omega) (by omega) (by omega) (by omega)
  rw [show ((0 : Nat) : Int) = 0 from rfl, Int.sub_zero, List.drop_zero] at this
  rw [this]
  simp [rightD, hll, show 0 ≤ d.a by omega, show d.a ≤ 8388608 by omega, show 0 ≤ d.b by omega, show d.b ≤ 8388608 by omega]
end Go.Proofs.Ytogplkochcalpaa.De
/- Deltas: plain: digests, the printed functions answer so. -/
set_option linter.unusedVariables false
set_option linter.unusedSimpArgs false
namespace Go.Proofs.Ytogplkochcalpaa.De
open Go.RowKit Go.Proofs.Ytogplkochcalpaa.PD Go.Proofs.YtogplkochcalpaaW.PrintWords Go.Proofs.YtogplkochcalpaaW.PrintLast Go.Proofs.YtogplkochcalpaaW.PrintMore
def onF (d : Int) (l : List Int) : Int := l.foldl (fun d b => IntKind.u64.wrap ((Go.bits .xor .u64 d (IntKind.u64.wrap b)) * 1099511628211)) d
def digF (l : List Int) : Int := onF 14695981039346656037 l
theorem rd_dropI {l : List Int} {i : Nat} (h : i < l.length) : ∃ x, rd l (i : Int) = x ∧ l.drop i = x :: l.drop (i + 1) := by
  refine ⟨l[i], ?_, List.drop_eq_getElem_cons h⟩
  unfold rd
  rw [Int.toNat_natCast, List.getD_eq_getElem?_getD, List.getElem?_eq_getElem h]; rfl
theorem on_l0 (l : List Int) (hl : l.length ≤ 140737488351232) : ∀ (m i k : Nat) (x : Int), m + i = l.length → m < k → sum_On.l0 k x l (l.length : Int) (i : Int) = some (onF x (l.drop i)) := by
  intro m
  induction m with
  | zero =>
    intro i k x hm hk
    obtain ⟨k, rfl⟩ : ∃ q, k = q + 1 := ⟨k - 1, by omega⟩
    rw [sum_On.l0]
    rw [if_neg (by omega), List.drop_eq_nil_of_le (by omega)]; rfl
  | succ m ih =>
    intro i k x hm hk
    obtain ⟨k, rfl⟩ : ∃ q, k = q + 1 := ⟨k - 1, by omega⟩
    obtain ⟨y, e1, e2⟩ := rd_dropI (l := l) (i := i) (by omega)
    rw [sum_On.l0]
    rw [if_pos (by omega), if_pos (by omega), if_pos (by omega), e1, e2, wrap_in (by omega), show ((i : Int) + 1) = ((i + 1 : Nat) : Int) by omega, ih (i + 1) k _ (by omega) (by omega)]
    rfl
theorem ron_l0 (l : List Int) (hl : l.length ≤ 140737488351232) : ∀ (m i k : Nat) (x : Int), m + i = l.length → m < k → portmanteauref02_On.l0 k x l (i : Int) = some (onF x (l.drop i)) := by
  intro m
  induction m with
  | zero =>
    intro i k x hm hk
    obtain ⟨k, rfl⟩ : ∃ q, k = q + 1 := ⟨k - 1, by omega⟩
    rw [portmanteauref02_On.l0]
    rw [if_neg (by omega), List.drop_eq_nil_of_le (by omega)]; rfl
  | succ m ih =>
    intro i k x hm hk
    obtain ⟨k, rfl⟩ : ∃ q, k = q + 1 := ⟨k - 1, by omega⟩
    obtain ⟨y, e1, e2⟩ := rd_dropI (l := l) (i := i) (by omega)
    rw [portmanteauref02_On.l0]
    rw [if_pos (by omega), if_pos (by omega), e1, e2, wrap_in (n := (i : Int) + 1) (by omega), show ((i : Int) + 1) = ((i + 1 : Nat) : Int) by omega, ih (i + 1) k _ (by omega) (by omega)]
    rfl
theorem digest_f (l : List Int) (k : Nat) (hk : l.length < k) (hl : l.length ≤ 140737488351232) : sum_Digest.f k l = some (digF l) := by
  unfold sum_Digest.f sum_On.f
  have := on_l0 l hl l.length 0 k 14695981039346656037 (by omega) hk
  rw [show ((0 : Nat) : Int) = 0 from rfl, List.drop_zero] at this
  rw [this]; rfl
theorem rdigest_f (l : List Int) (k : Nat) (hk : l.length < k) (hl : l.length ≤ 140737488351232) : portmanteauref02_Digest.f k l = some (digF l) := by
  unfold portmanteauref02_Digest.f portmanteauref02_On.f
  have := ron_l0 l hl l.length 0 k 14695981039346656037 (by omega) hk
  rw [show ((0 : Nat) : Int) = 0 from rfl, List.drop_zero] at this
  rw [this]; rfl
theorem f2_nil {old : Int} {o : S37} (h : rightO o old) (h1 : o.f1 > 0) : o.f2 = [] := by
  apply List.eq_nil_of_length_eq_zero
  unfold rightO at h
  split at h <;> omega
theorem rightL_cons {a x : Int} {o : S37} {r : List S37} (h : rightL a x (o :: r) = true) : rightO o a ∧ ol o ≤ x ∧ rightL a (x - ol o) r = true := by
  simp only [rightL, Bool.and_eq_true, decide_eq_true_eq] at h
  exact ⟨h.1.1, h.1.2, h.2⟩
theorem bounds0 {o : S37} {a : Int} (h : rightO o a) (h1 : a ≤ 8388608) : 0 ≤ o.f0 ∧ 0 ≤ o.f1 ∧ (0 < o.f1 → o.f0 + o.f1 ≤ a) ∧ o.f0 ≤ o.f0 + o.f1 ∧ (¬ 0 < o.f1 → o.f0 + o.f1 = 0) := by
  unfold rightO at h
  split at h <;> omega
theorem right_parts {d : Dl} (h : rightD d = true) : 0 ≤ d.a ∧ d.a ≤ 8388608 ∧ 0 ≤ d.b ∧ d.b ≤ 8388608 ∧ (d.l.length : Int) ≤ 8388608 ∧ rightL d.a d.b d.l = true := by
  unfold rightD at h
  simp only [Bool.and_eq_true, decide_eq_true_eq] at h
  obtain ⟨⟨⟨⟨⟨h1, h2⟩, h3⟩, h4⟩, h5⟩, h6⟩ := h
  exact ⟨h1, h2, h3, h4, h5, h6⟩
end Go.Proofs.Ytogplkochcalpaa.De
/- Deltas as bytes: plain; the program's Size, Encode: walks. -/
set_option linter.unusedVariables false
set_option linter.unusedSimpArgs false
namespace Go.Proofs.Ytogplkochcalpaa.De
open Go.RowKit Go.Proofs.Ytogplkochcalpaa.PD Go.Proofs.Ytogplkochcalpaa.Fd Go.Proofs.Ytogplkochcalpaa.Bg Go.Proofs.YtogplkochcalpaaW.PrintWords Go.Proofs.YtogplkochcalpaaW.PrintLast Go.Proofs.YtogplkochcalpaaW.PrintMore
def opB (o : S37) : List Int := if o.f1 > 0 then le 0 1 ++ le o.f0.toNat 4 ++ le o.f1.toNat 4 else le 1 1 ++ le o.f2.length 4 ++ o.f2
def opsB (l : List S37) : List Int := l.flatMap opB
def headB (d : Dl) : List Int := [80, 77, 68, 49] ++ le d.a.toNat 4 ++ le d.b.toNat 4 ++ le d.c.toNat 8 ++ le d.d.toNat 8
def bodyB (d : Dl) : List Int := headB d ++ opsB d.l
def bytesB (d : Dl) : List Int := bodyB d ++ le (Sum.crc 0 (bodyB d)) 4
theorem headB_len (d : Dl) : (headB d).length = 28 := by simp [headB, le_length]
theorem bodyB_len (d : Dl) : (bodyB d).length = 28 + (opsB d.l).length := by rw [bodyB, List.length_append, headB_len]
theorem bytesB_len (d : Dl) : (bytesB d).length = 32 + (opsB d.l).length := by rw [bytesB, List.length_append, bodyB_len, le_length]; omega
theorem opB_len (o : S37) : (opB o).length = if o.f1 > 0 then 9 else 5 + o.f2.length := by
  unfold opB
  split
  · simp [le_length]
  · simp [le_length]; omega
theorem ops_step {l : List S37} {k : Nat} {o : S37} (h : l.drop k = o :: l.drop (k + 1)) : opsB (l.take (k + 1)) = opsB (l.take k) ++ opB o ∧ (opsB (l.take k)).length + (opB o).length + (opsB (l.drop (k + 1))).length = (opsB l).length := by
  have h1 : l.take (k + 1) = l.take k ++ [o] := by
    have e : l[k]? = some o := by
      have := congrArg (fun z => z[0]?) h
      simpa using this
    rw [List.take_add_one, e]; rfl
  have h2 : opsB (l.take (k + 1)) = opsB (l.take k) ++ opB o := by rw [h1]; simp [opsB]
  refine ⟨h2, ?_⟩
  have h4 : opsB l = opsB (l.take (k + 1)) ++ opsB (l.drop (k + 1)) := by unfold opsB; rw [← List.flatMap_append, List.take_append_drop]
  rw [h4, h2, List.length_append, List.length_append]
/-- The bytes of the data are bytes; the digests are numbers of 64 bits. -/
structure WfD (d : Dl) : Prop where
  ops : ∀ o ∈ d.l, WfO o
  isB : ∀ o ∈ d.l, ∀ x ∈ o.f2, 0 ≤ x ∧ x < 256
  c0 : 0 ≤ d.c
  c1 : d.c < 18446744073709551616
  d0 : 0 ≤ d.d
  d1 : d.d < 18446744073709551616
theorem opB_isB {o : S37} (h : ∀ x ∈ o.f2, 0 ≤ x ∧ x < 256) : ∀ x ∈ opB o, 0 ≤ x ∧ x < 256 := by
  unfold opB
  split
  · exact isB_app (isB_app (le_isB _ _) (le_isB _ _)) (le_isB _ _)
  · exact isB_app (isB_app (le_isB _ _) (le_isB _ _)) h
theorem opsB_isB {l : List S37} (h : ∀ o ∈ l, ∀ x ∈ o.f2, 0 ≤ x ∧ x < 256) : ∀ x ∈ opsB l, 0 ≤ x ∧ x < 256 := fun x hx => by
  obtain ⟨o, h1, h2⟩ := List.mem_flatMap.1 hx
  exact opB_isB (h o h1) x h2
theorem magic_isB : ∀ x ∈ ([80, 77, 68, 49] : List Int), 0 ≤ x ∧ x < 256 := by decide
theorem headB_isB (d : Dl) : ∀ x ∈ headB d, 0 ≤ x ∧ x < 256 := isB_app (isB_app (isB_app (isB_app magic_isB (le_isB _ _)) (le_isB _ _)) (le_isB _ _)) (le_isB _ _)
theorem bodyB_isB {d : Dl} (h : WfD d) : ∀ x ∈ bodyB d, 0 ≤ x ∧ x < 256 := isB_app (headB_isB d) (opsB_isB h.isB)
theorem bytesB_isB {d : Dl} (h : WfD d) : ∀ x ∈ bytesB d, 0 ≤ x ∧ x < 256 := isB_app (bodyB_isB h) (le_isB _ _)
theorem size_l0 (l : List S37) (hl : l.length ≤ 8388608) : ∀ (m i k : Nat) (x : Int), m + i = l.length → m < k → 0 ≤ x → x + (opsB (l.drop i)).length ≤ 1000000000 → delta_Size.l0 k x l (l.length : Int) (i : Int) = some (x + (opsB (l.drop i)).length) := by
  intro m
  induction m with
  | zero =>
    intro i k x hm hk hx0 hx
    obtain ⟨k, rfl⟩ : ∃ q, k = q + 1 := ⟨k - 1, by omega⟩
    rw [delta_Size.l0]
    rw [if_neg (by omega), List.drop_eq_nil_of_le (by omega)]
    simp [opsB]
  | succ m ih =>
    intro i k x hm hk hx0 hx
    obtain ⟨k, rfl⟩ : ∃ q, k = q + 1 := ⟨k - 1, by omega⟩
    obtain ⟨o, e1, e2, e3⟩ := rd_drop (l := l) (i := i) (by omega)
    have h2 : opsB (l.drop i) = opB o ++ opsB (l.drop (i + 1)) := by rw [e2]; simp [opsB]
    rw [h2, List.length_append, opB_len] at hx ⊢
    rw [delta_Size.l0]
    rw [if_pos (by omega), if_pos (by omega), if_pos (by omega), e1, wrap_in (n := (i : Int) + 1) (by omega), show ((i : Int) + 1) = ((i + 1 : Nat) : Int) by omega]
    by_cases c : o.f1 > 0
    · rw [if_pos c] at hx ⊢
      rw [if_pos c, wrap_in (by omega), ih (i + 1) k _ (by omega) (by omega) (by omega) (by omega)]
      congr 1; omega
    · rw [if_neg c] at hx ⊢
      rw [if_neg c, wrap_in (n := 5 + _) (by omega), wrap_in (by omega), ih (i + 1) k _ (by omega) (by omega) (by omega) (by omega)]
      congr 1; omega
theorem size_f (d : Dl) (k : Nat) (hk : 8400000 ≤ k) (hw : ∀ o ∈ d.l, WfO o) (hl : d.l.length ≤ 8388608) (hs : (bytesB d).length ≤ 100000000) : delta_Size.f k d.a d.b d.c d.d d.l = some (if rightD d = true then ((bytesB d).length : Int) else 0) := by
  unfold delta_Size.f
  rw [check_f d k (by omega) hw hl]
  simp only [Option.bind_some]
  rw [bytesB_len] at hs ⊢
  by_cases r : rightD d = true
  · have := size_l0 d.l hl d.l.length 0 k 32 (by omega) (by omega) (by omega) (by rw [List.drop_zero]; omega)
    rw [show ((0 : Nat) : Int) = 0 from rfl, List.drop_zero] at this
    rw [if_pos r, if_pos rfl, if_pos r, this]
    exact congrArg some (by omega)
  · rw [if_neg r, if_neg (by decide), if_neg r]
/-- A delta as it is handed on. -/
abbrev dv (d : Dl) (A : Option Addr) (c : Nat) : Value := .agg #[.int .i64 d.a, .int .i64 d.b, .int .u64 d.c, .int .u64 d.d, .slice A d.l.length c]
theorem check_any (d : Dl) (A : Option Addr) (c : Nat) (w : World) (hC : Kd.C k37 w A d.l.length d.l) (hc : d.l.length ≤ c) (hw : ∀ o ∈ d.l, WfO o) (hl : d.l.length ≤ 8388608) : Calls Try.prog 19 #[dv d A c] w fun e w' => e = .returned (.int .i64 (if rightD d = true then 0 else 1)) ∧ Below w.heap.size w w' :=
  delta_Check.calls (d.l.length + 3) d.a d.b d.c d.d A c d.l _ w hC hc (check_f d _ (Nat.le_refl _) hw hl)
theorem size_any (d : Dl) (A : Option Addr) (c : Nat) (w : World) (hC : Kd.C k37 w A d.l.length d.l) (hc : d.l.length ≤ c) (hw : ∀ o ∈ d.l, WfO o) (hl : d.l.length ≤ 8388608) (hs : (bytesB d).length ≤ 100000000) : Calls Try.prog 24 #[dv d A c] w fun e w' => e = .returned (.int .i64 (if rightD d = true then ((bytesB d).length : Int) else 0)) ∧ Below w.heap.size w w' := by
  obtain ⟨k, hk⟩ : ∃ k : Nat, 8400000 ≤ k := ⟨_, Nat.le_refl _⟩
  exact delta_Size.calls k d.a d.b d.c d.d A c d.l _ w hC hc (size_f d k hk hw hl hs)
theorem rright_any (d : Dl) (A : Option Addr) (c : Nat) (w : World) (hC : Kd.C k37 w A d.l.length d.l) (hc : d.l.length ≤ c) (hw : ∀ o ∈ d.l, WfO o) (hl : d.l.length ≤ 8388608) : Calls Try.prog 18 #[dv d A c] w fun e w' => e = .returned (.bool (rightD d)) ∧ Below w.heap.size w w' :=
  portmanteauref30_Right.calls (3 * d.l.length + 3) d.a d.b d.c d.d A c d.l _ w hC hc (rright_f d _ (Nat.le_refl _) hw hl)
theorem digest_any (l : List Int) (A : Option Addr) (c : Nat) (w : World) (hC : Kd.C (Kd.int .u8) w A l.length l) (hc : l.length ≤ c) (hl : l.length ≤ 140737488351232) : Calls Try.prog 27 #[.slice A l.length c] w fun e w' => e = .returned (.int .u64 (digF l)) ∧ Drawn0 w w' :=
  sum_Digest.calls (l.length + 1) A c l _ w hC hc (digest_f l _ (by omega) hl)
end Go.Proofs.Ytogplkochcalpaa.De
/- Deltas as bytes: the program's Encode: walks. -/
set_option linter.unusedVariables false
set_option linter.unusedSimpArgs false
namespace Go.Proofs.Ytogplkochcalpaa.De
open Go.RowKit Go.Proofs.Ytogplkochcalpaa.PD Go.Proofs.Ytogplkochcalpaa.Fd Go.Proofs.Ytogplkochcalpaa.Bg Go.Proofs.YtogplkochcalpaaW.PrintWords Go.Proofs.YtogplkochcalpaaW.PrintLast Go.Proofs.YtogplkochcalpaaW.PrintMore
/-- The delta's box stands. -/
def DB (w : World) (d : Dl) (A : Option Addr) (c : Nat) (wr : World) : Prop := wr.heap[w.heap.size]? = some (.cells #[.int .i64 d.a, .int .i64 d.b, .int .u64 d.c, .int .u64 d.d, .slice A d.l.length c] 27 (0, 0)) ∧ Below w.heap.size w wr
theorem dbox_cells {w : World} {g n : Nat} {d : Dl} {A : Option Addr} {c : Nat} (h : w.heap[g]? = some (.cells #[.int .i64 d.a, .int .i64 d.b, .int .u64 d.c, .int .u64 d.d, .slice A n c] 27 (0, 0))) : w.cell? ⟨g, 0, none⟩ = some (.int .i64 d.a) ∧ w.cell? ⟨g, 1, none⟩ = some (.int .i64 d.b) ∧ w.cell? ⟨g, 2, none⟩ = some (.int .u64 d.c) ∧ w.cell? ⟨g, 3, none⟩ = some (.int .u64 d.d) ∧ w.cell? ⟨g, 4, none⟩ = some (.slice A n c) :=
  ⟨(cell_of_row _ _ _ _ _ _ h).trans rfl, (cell_of_row _ _ _ _ _ _ h).trans rfl, (cell_of_row _ _ _ _ _ _ h).trans rfl, (cell_of_row _ _ _ _ _ _ h).trans rfl, (cell_of_row _ _ _ _ _ _ h).trans rfl⟩
theorem DB.new (w : World) (d : Dl) (A : Option Addr) (c : Nat) : DB w d A c (w.alloc (.cells #[.int .i64 d.a, .int .i64 d.b, .int .u64 d.c, .int .u64 d.d, .slice A d.l.length c] 27)) := ⟨heap_alloc_new _ _, below_alloc (Below.refl _ _) _⟩
theorem DB.then_ {w wr w1 : World} {d : Dl} {A : Option Addr} {c : Nat} (h : DB w d A c wr) (h1 : Below wr.heap.size wr w1) : DB w d A c w1 := ⟨blk_below h.1 h1, below_then h.2 h.2.size h1⟩
theorem DB.of {w w0 w1 : World} {d : Dl} {A : Option Addr} {c g : Nat} {most : Int} {v : Value} {xs : List Int} (h : DB w d A c w0) (hF : FW w0 w0.heap.size g most w1 v xs) : DB w d A c w1 := ⟨(hF.below.block _ (blk_lt h.1)).trans h.1, below_then h.2 h.2.size hF.below⟩
theorem encode_no (d : Dl) (A : Option Addr) (c : Nat) (w : World) (hC : Kd.C k37 w A d.l.length d.l) (hc : d.l.length ≤ c) (hw : ∀ o ∈ d.l, WfO o) (hl : d.l.length ≤ 8388608) (hr : ¬ rightD d = true) : Calls Try.prog 23 #[dv d A c] w fun e w' => e = .returned (.tuple #[.slice none 0 0, .int .i64 1]) ∧ Below w.heap.size w w' := by
  have KB0 := Aside0.mk (DB.new w d A c)
  have KC := Aside0.mk (fun w1 (h : Below w.heap.size w w1) => check_any d A c w1 (Kd.C_below hC h) hc hw hl)
  simp only [if_neg hr] at KC
  obtain ⟨n, hn⟩ : ∃ n, n = d.l.length := ⟨_, rfl⟩
  simp only [dv, DB] at KC KB0 ⊢
  rw [← hn] at KC KB0 ⊢
  clear hr hC hc hw hl hn
  go_enter Try.func23, Try.ntmps23
  go_wp2_with (go_at_call 19; refine (KC.out _ KB0.out.2).mono ?_; rintro e w1 ⟨rfl, hb⟩; have KB1 := Aside0.mk (below_then KB0.out.2 KB0.out.2.size hb); clear hb)
  go_ret2
  exact ⟨rfl, KB1.out⟩
/-- An op's box. -/
def OB (g : Nat) (o : S37) (B : Option Addr) (cb : Nat) (w : World) : Prop := w.heap[g]? = some (.cells #[.int .i64 o.f0, .int .i64 o.f1, .slice B o.f2.length cb] 37 (0, 0))
theorem OB.cells {w : World} {g : Nat} {o : S37} {B : Option Addr} {cb : Nat} (h : OB g o B cb w) : w.cell? ⟨g, 0, none⟩ = some (.int .i64 o.f0) ∧ w.cell? ⟨g, 1, none⟩ = some (.int .i64 o.f1) ∧ w.cell? ⟨g, 2, none⟩ = some (.slice B o.f2.length cb) :=
  ⟨(cell_of_row _ _ _ _ _ _ h).trans rfl, (cell_of_row _ _ _ _ _ _ h).trans rfl, (cell_of_row _ _ _ _ _ _ h).trans rfl⟩
theorem OB.keep {w0 w w1 : World} {gb base g : Nat} {o : S37} {B : Option Addr} {cb : Nat} {most : Int} {v : Value} {xs : List Int} (h : OB gb o B cb w) (hF : FW w0 base g most w v xs) (hk : KeepBut w w1 g v.ownBlock) (hne : gb ≠ g) : OB gb o B cb w1 := hk.blk h hne (Kd.R_ne hF.own h (by decide))
theorem lt_pow4 {n : Int} (h : n ≤ 8388608) : n < 2 ^ (8 * 4) := lt32 (by omega)
theorem lt_pow8 {n : Int} (h : n < 18446744073709551616) : n < 2 ^ (8 * 8) := h
theorem right_mem {a : Int} : ∀ {l : List S37} {x : Int} {o : S37}, rightL a x l = true → o ∈ l → rightO o a ∧ ol o ≤ x
  | p :: r, x, o, h, ho => by
    obtain ⟨h1, h2, h3⟩ := rightL_cons h
    rcases List.mem_cons.1 ho with rfl | ho
    · exact ⟨h1, h2⟩
    · have := right_mem h3 ho
      have := ol_pos h1
      exact ⟨(right_mem h3 ho).1, by omega⟩
theorem op_bounds {d : Dl} {o : S37} (h : rightD d = true) (ho : o ∈ d.l) : 0 ≤ o.f0 ∧ o.f0 ≤ 8388608 ∧ 0 ≤ o.f1 ∧ o.f1 ≤ 8388608 ∧ (o.f2.length : Int) ≤ 8388608 := by
  obtain ⟨r1, r2, r3, r4, r5, r6⟩ := right_parts h
  obtain ⟨h1, h2⟩ := right_mem r6 ho
  unfold ol at h2
  unfold rightO at h1
  split at h1 <;> omega
set_option maxHeartbeats 8000000 in
set_option maxRecDepth 100000 in
theorem encode_ok (d : Dl) (A : Option Addr) (c : Nat) (w : World) (hC : Kd.C k37 w A d.l.length d.l) (hc : d.l.length ≤ c) (hw : WfD d) (hl : d.l.length ≤ 8388608) (hr : rightD d = true) (hs : (bytesB d).length ≤ 100000000) : Calls Try.prog 23 #[dv d A c] w fun e w' => ∃ u, e = .returned (.tuple #[u, .int .i64 0]) ∧ Row.OwnB w' w.heap.size u (bytesB d) ∧ Below w.heap.size w w' := by
  have KB0 := Aside0.mk (DB.new w d A c)
  have KC := Aside0.mk (fun w1 (h : Below w.heap.size w w1) => check_any d A c w1 (Kd.C_below hC h) hc hw.ops hl)
  have KS := Aside0.mk (fun w1 (h : Below w.heap.size w w1) => size_any d A c w1 (Kd.C_below hC h) hc hw.ops hl hs)
  simp only [if_pos hr] at KC KS
  obtain ⟨r1, r2, r3, r4, r5, r6⟩ := right_parts hr
  have K0 : Aside0 (0 ≤ d.a ∧ d.a < 2 ^ (8 * 4)) := ⟨r1, lt_pow4 r2⟩
  have K1 : Aside0 (0 ≤ d.b ∧ d.b < 2 ^ (8 * 4)) := ⟨r3, lt_pow4 r4⟩
  have K2 : Aside0 (0 ≤ d.c ∧ d.c < 2 ^ (8 * 8)) := ⟨hw.c0, lt_pow8 hw.c1⟩
  have K3 : Aside0 (0 ≤ d.d ∧ d.d < 2 ^ (8 * 8)) := ⟨hw.d0, lt_pow8 hw.d1⟩
  have c1 : IntKind.u64.wrap d.a = d.a := u64_small _ r1 (by omega)
  have c2 : IntKind.u64.wrap d.b = d.b := u64_small _ r3 (by omega)
  have kc := fun (w : World) (C : Array Value) (n c : Nat) => Lib.run_convert_bytes_const (P := Try.prog) w 22 5 C n c Try.underlying22 Try.underlying5
  have KM := Aside0.mk hC
  have Kr := Aside0.mk hr
  have Kw := Aside0.mk hw
  obtain ⟨most, hmost⟩ : ∃ most, most = (bytesB d).length := ⟨_, rfl⟩
  rw [← hmost] at KS
  have hm1 : (most : Int) ≤ 100000000 := by omega
  have Km : Aside0 (most = 32 + (opsB d.l).length) := ⟨by rw [hmost, bytesB_len]⟩
  have hm32 : 32 ≤ (most : Int) := by rw [hmost, bytesB_len]; omega
  obtain ⟨n, hn⟩ : ∃ n, n = d.l.length := ⟨_, rfl⟩
  simp only [dv, DB] at KC KB0 KS ⊢
  rw [← hn] at KC KB0 KS KM hl ⊢
  have Kn := Aside0.mk hn
  clear hC hc hw hr hs r1 r2 r3 r4 r5 r6 hn hmost
  go_enter Try.func23, Try.ntmps23
  go_wp2_with (go_at_call 19; apply Aside0.out)
  refine ⟨?_⟩
  refine (KC.out _ KB0.out.2).mono ?_
  rintro e w1 ⟨rfl, hb⟩
  have KB1 := Aside0.mk (And.intro (blk_below KB0.out.1 hb) (below_then KB0.out.2 KB0.out.2.size hb))
  clear hb KC
  obtain ⟨q0, q1, q2, q3, q4⟩ := dbox_cells KB1.out.1
  go_wp2_with (go_at_call 24; apply Aside0.out)
  refine ⟨?_⟩
  refine (KS.out _ KB1.out.2).mono ?_
  rintro e w2 ⟨rfl, hb⟩
  have KB2 : Aside0 (DB w d A c w2) := ⟨by unfold DB; rw [← Kn.out]; exact ⟨blk_below KB1.out.1 hb, below_then KB1.out.2 KB1.out.2.size hb⟩⟩
  clear hb KS q0 q1 q2 q3 q4 KB0 KB1
  go_wp2_with (go_at_call 39; apply Aside0.out)
  refine ⟨?_⟩
  refine (writer_new most (by omega) w2).mono ?_
  rintro e w3 ⟨rfl, hF⟩
  have KF3 := Aside0.mk hF
  clear hF
  go_wp2_with (go_at_call 40; apply Aside0.out)
  refine ⟨?_⟩
  refine (bytes_ok (KF3.out.keep (below_alloc (Below.refl _ _) _)) [80, 77, 68, 49] _ 4 (lit_foot KF3.out) (by simp; omega) (by omega)).mono ?_
  rintro e w4 ⟨rfl, v4, hF, -⟩
  have KF4 := Aside0.mk hF
  clear hF
  have hd4 := (DB.of KB2.out KF4.out).1
  rw [← Kn.out] at hd4
  obtain ⟨q0, q1, q2, q3, q4⟩ := dbox_cells hd4
  clear hd4
  go_wp2_with (go_at_call 41; apply Aside0.out)
  refine ⟨?_⟩
  refine (num_okI KF4.out d.a 4 K0.out.1 (Or.inr (Or.inr (Or.inl rfl))) K0.out.2 (by simp; omega) (by omega)).mono ?_
  rintro e w5 ⟨rfl, v5, hF, -⟩
  have KF5 := Aside0.mk hF
  clear hF q0 q1 q2 q3 q4
  have hd4 := (DB.of KB2.out KF5.out).1
  rw [← Kn.out] at hd4
  obtain ⟨q0, q1, q2, q3, q4⟩ := dbox_cells hd4
  clear hd4
  go_wp2_with (go_at_call 41; apply Aside0.out)
  refine ⟨?_⟩
  refine (num_okI KF5.out d.b 4 K1.out.1 (Or.inr (Or.inr (Or.inl rfl))) K1.out.2 (by simp [le_length]; omega) (by omega)).mono ?_
  rintro e w6 ⟨rfl, v6, hF, -⟩
  have KF6 := Aside0.mk hF
  clear hF q0 q1 q2 q3 q4
  have hd4 := (DB.of KB2.out KF6.out).1
  rw [← Kn.out] at hd4
  obtain ⟨q0, q1, q2, q3, q4⟩ := dbox_cells hd4
  clear hd4
  go_wp2_with (go_at_call 41; apply Aside0.out)
  refine ⟨?_⟩
  refine (num_okI KF6.out d.c 8 K2.out.1 (Or.inr (Or.inr (Or.inr rfl))) K2.out.2 (by simp [le_length]; omega) (by omega)).mono ?_
  rintro e w7 ⟨rfl, v7, hF, -⟩
  have KF7 := Aside0.mk hF
  clear hF q0 q1 q2 q3 q4
  have hd4 := (DB.of KB2.out KF7.out).1
  rw [← Kn.out] at hd4
  obtain ⟨q0, q1, q2, q3, q4⟩ := dbox_cells hd4
  clear hd4
  go_wp2_with (go_at_call 41; apply Aside0.out)
  refine ⟨?_⟩
  refine (num_okI KF7.out d.d 8 K3.out.1 (Or.inr (Or.inr (Or.inr rfl))) K3.out.2 (by simp [le_length]; omega) (by omega)).mono ?_
  rintro e w8 ⟨rfl, v8, hF, -⟩
  have KF8 : Aside0 (FW w2 w2.heap.size w2.heap.size most w8 v8 (headB d)) := ⟨hF⟩
  clear hF q0 q1 q2 q3 q4 c1 c2 kc
  have hd4 := (DB.of KB2.out KF8.out).1
  rw [← Kn.out] at hd4
  obtain ⟨q0, q1, q2, q3, q4⟩ := dbox_cells hd4
  clear hd4 K0 K1 K2 K3 KF3 KF4 KF5 KF6 KF7
  obtain ⟨g, hg⟩ : ∃ g, g = w2.heap.size := ⟨_, rfl⟩
  have Kg := Aside0.mk hg
  rw [← hg] at KF8 ⊢
  clear hg
  go_wp2
  go_loopw [43] (fun i wr => ∃ k : Nat, k ≤ n ∧ i = .int .i64 k ∧ Aside0 (∃ v, FW w2 g g most wr v (headB d ++ opsB (d.l.take k)))) (fun i _ => n - (intOf i).toNat)
  case atStart => exact ⟨0, Nat.zero_le _, rfl, ⟨⟨v8, by simpa [opsB] using KF8.out⟩⟩⟩
  case round =>
    obtain ⟨k, hk, rfl, KF⟩ := hrel
    clear q0 q1 q2 q3 q4
    by_cases hlt : k < n
    · obtain ⟨v9, hF9⟩ := KF.out
      have hkl : k < d.l.length := by rw [← Kn.out]; exact hlt
      obtain ⟨o, e1, e2, e3⟩ := rd_drop (l := d.l) (i := k) hkl
      obtain ⟨ad, B, cb, rfl, x0, x1, x2, hcb, hCB⟩ := at_T37 KM.out (k : Int) (by omega) (by omega)
      rw [e1] at x0 x1 x2 hcb hCB
      rw [Int.toNat_natCast] at x0 x1 x2
      have hwr : Below w.heap.size w wr := (DB.of KB2.out (Kg.out ▸ hF9)).2
      replace x0 := pw_cell_below hwr x0
      replace x1 := pw_cell_below hwr x1
      replace x2 := pw_cell_below hwr x2
      have Kst := Aside0.mk (ops_step e2)
      have Kob := Aside0.mk (op_bounds Kr.out e3)
      have KF9 := Aside0.mk hF9
      have Kwr := Aside0.mk hwr
      have Kdat : Aside0 (Kd.C (Kd.int .u8) w B o.f2.length o.f2) := ⟨hCB⟩
      have Kgl : Aside0 (g < wr.heap.size) := ⟨hF9.lt⟩
      have KOB : Aside0 (OB wr.heap.size o B cb (wr.alloc (.cells #[.int .i64 o.f0, .int .i64 o.f1, .slice B o.f2.length cb] 37))) := ⟨heap_alloc_new wr _⟩
      have KF10 := Aside0.mk (hF9.keep (below_alloc (Below.refl _ _) (.cells #[.int .i64 o.f0, .int .i64 o.f1, .slice B o.f2.length cb] 37)))
      obtain ⟨T, hT⟩ : ∃ T, T = (opsB (d.l.take k)).length := ⟨_, rfl⟩
      obtain ⟨R, hR⟩ : ∃ R, R = (opsB (d.l.drop (k + 1))).length := ⟨_, rfl⟩
      have hsum : Aside0 (T + (opB o).length + R + 32 = most) := ⟨by have := Kst.out.2; have := Km.out; omega⟩
      have KT := Aside0.mk hT
      have Knb : Aside0 (wr.heap.size ≠ g) := ⟨by have := Kgl.out; omega⟩
      have Kc1 : Aside0 (IntKind.u64.wrap o.f0 = o.f0) := ⟨u64_small _ Kob.out.1 (by have := Kob.out; omega)⟩
      have Kc2 : Aside0 (IntKind.u64.wrap o.f1 = o.f1) := ⟨u64_small _ Kob.out.2.2.1 (by have := Kob.out; omega)⟩
      have Kc3 : Aside0 (IntKind.u64.wrap (o.f2.length : Int) = o.f2.length) := ⟨u64_small _ (by omega) (by have := Kob.out; omega)⟩
      clear hT hR hF9 e1 e2 e3 hCB hwr hcb hkl
      by_cases c : o.f1 > 0
      · have Kop : Aside0 (opB o = le 0 1 ++ le o.f0.toNat 4 ++ le o.f1.toNat 4) := ⟨if_pos c⟩
        have Kol : Aside0 (T + 9 + R + 32 = most) := ⟨by have := hsum.out; rwa [opB_len, if_pos c] at this⟩
        go_wp2_with (go_at_call 41; apply Aside0.out)
        refine ⟨?_⟩
        refine (num_okI KF10.out 0 1 (by decide) (Or.inl rfl) (by decide) (by have := Kol.out; have := KT.out; rw [List.length_append, headB_len]; omega) (by omega)).mono ?_
        rintro e w11 ⟨rfl, v11, hF, hk⟩
        have KF11 := Aside0.mk hF
        have KO11 := Aside0.mk (KOB.out.keep KF10.out hk Knb.out)
        clear hF hk x0 x1 x2
        obtain ⟨y0, y1, y2⟩ := KO11.out.cells
        have hc1 := Kc1.out
        go_wp2_with (go_at_call 41; apply Aside0.out)
        refine ⟨?_⟩
        refine (num_okI KF11.out o.f0 4 Kob.out.1 (Or.inr (Or.inr (Or.inl rfl))) (lt_pow4 Kob.out.2.1) (by have := Kol.out; have := KT.out; rw [List.length_append, List.length_append, headB_len, le_length]; omega) (by omega)).mono ?_
        rintro e w12 ⟨rfl, v12, hF, hk⟩
        have KF12 := Aside0.mk hF
        have KO12 := Aside0.mk (KO11.out.keep KF11.out hk Knb.out)
        clear hF hk y0 y1 y2 hc1
        obtain ⟨y0, y1, y2⟩ := KO12.out.cells
        have hc1 := Kc2.out
        go_wp2_with (go_at_call 41; apply Aside0.out)
        refine ⟨?_⟩
        refine (num_okI KF12.out o.f1 4 Kob.out.2.2.1 (Or.inr (Or.inr (Or.inl rfl))) (lt_pow4 Kob.out.2.2.2.1) (by have := Kol.out; have := KT.out; simp only [List.length_append, headB_len, le_length]; omega) (by omega)).mono ?_
        rintro e w13 ⟨rfl, v13, hF, hk⟩
        have KF13 := Aside0.mk hF
        clear hF hk y0 y1 y2 hc1
        go_wp2
        refine ⟨⟨k + 1, by omega, by go_num, ⟨⟨v13, ?_⟩⟩⟩, by simp [intOf]; omega⟩
        have := KF13.out
        rw [Kst.out.1, Kop.out]
        simpa [List.append_assoc] using this
      · have Kop : Aside0 (opB o = le 1 1 ++ le o.f2.length 4 ++ o.f2) := ⟨if_neg c⟩
        have Kol : Aside0 (T + (5 + o.f2.length) + R + 32 = most) := ⟨by have := hsum.out; rwa [opB_len, if_neg c] at this⟩
        go_wp2_with (go_at_call 41; apply Aside0.out)
        refine ⟨?_⟩
        refine (num_okI KF10.out 1 1 (by decide) (Or.inl rfl) (by decide) (by have := Kol.out; have := KT.out; rw [List.length_append, headB_len]; omega) (by omega)).mono ?_
        rintro e w11 ⟨rfl, v11, hF, hk⟩
        have KF11 := Aside0.mk hF
        have KO11 := Aside0.mk (KOB.out.keep KF10.out hk Knb.out)
        clear hF hk x0 x1 x2
        obtain ⟨y0, y1, y2⟩ := KO11.out.cells
        have hc1 := Kc3.out
        go_wp2_with (go_at_call 41; apply Aside0.out)
        refine ⟨?_⟩
        refine (num_okI KF11.out (o.f2.length : Int) 4 (by omega) (Or.inr (Or.inr (Or.inl rfl))) (lt_pow4 Kob.out.2.2.2.2) (by have := Kol.out; have := KT.out; simp only [List.length_append, headB_len, le_length]; omega) (by omega)).mono ?_
        rintro e w12 ⟨rfl, v12, hF, hk⟩
        have KF12 := Aside0.mk hF
        have KO12 := Aside0.mk (KO11.out.keep KF11.out hk Knb.out)
        clear hF hk y0 y1 y2 hc1
        obtain ⟨y0, y1, y2⟩ := KO12.out.cells
        go_wp2_with (go_at_call 40; apply Aside0.out)
        refine ⟨?_⟩
        have hb12 : Below w.heap.size w w12 := (DB.of KB2.out (Kg.out ▸ KF12.out)).2
        have hgw : w.heap.size ≤ g := by rw [Kg.out]; exact KB2.out.2.size
        refine (bytes_ok KF12.out o.f2 B cb (Kd.C_foot_came (Kd.heap_int _) Kdat.out hb12 hgw) (by have := Kol.out; have := KT.out; simp only [List.length_append, headB_len, le_length]; omega) (by omega)).mono ?_
        rintro e w13 ⟨rfl, v13, hF, hk⟩
        have KF13 := Aside0.mk hF
        clear hF hk y0 y1 y2
        go_wp2
        refine ⟨⟨k + 1, by omega, by go_num, ⟨⟨v13, ?_⟩⟩⟩, by simp [intOf]; omega⟩
        have := KF13.out
        rw [Kst.out.1, Kop.out]
        simpa [List.append_assoc] using this
    · obtain rfl : k = n := by omega
      obtain ⟨v9, hF9⟩ := KF.out
      have KF9 : Aside0 (FW w2 g g most wr v9 (bodyB d)) := ⟨by rw [Kn.out, List.take_length] at hF9; exact hF9⟩
      clear hF9 KF
      have Klen : Aside0 ((bodyB d).length + 4 = most) := ⟨by have := Km.out; rw [bodyB_len]; omega⟩
      have KD := Aside0.mk (done_ok KF9.out (by have := Klen.out; omega))
      have KCr : Aside0 (∀ (wa : World) (A : Option Addr) (c : Nat), Kd.C (Kd.int .u8) wa A (bodyB d).length (bodyB d) → _) := ⟨fun wa A c hC => Sum.crc_nil A c (bodyB d) wa hC (by have := Klen.out; omega) (bodyB_isB Kw.out)⟩
      obtain ⟨x, hx⟩ : ∃ x, x = Sum.crc 0 (bodyB d) := ⟨_, rfl⟩
      have hxb : Aside0 (x < 4294967296) := ⟨by rw [hx]; exact crc_lt _⟩
      have hby : Aside0 (bodyB d ++ le x 4 = bytesB d) := ⟨by rw [hx]; rfl⟩
      rw [← hx] at KCr
      clear hx
      obtain ⟨nb, hnb⟩ : ∃ nb, nb = (bodyB d).length := ⟨_, rfl⟩
      rw [← hnb] at KCr
      have Knb := Aside0.mk hnb
      clear hnb
      go_wp2_with (go_at_call 42; apply Aside0.out)
      refine ⟨?_⟩
      refine KD.out.mono ?_
      rintro e w9 ⟨u9, rfl, hO, hB⟩
      obtain ⟨A9, c9, rfl, hc9, hC9⟩ := hO.slice
      have KF10 := Aside0.mk (KF9.out.keep hB)
      rw [← Knb.out] at hC9 hO
      rw [← Knb.out]
      have KC9 := Aside0.mk hC9
      clear hO hB hC9 hc9
      go_wp2_with (first | (go_at_call 43; refine (KCr.out _ _ _ KC9.out).mono ?_; rintro e w' ⟨rfl, rfl⟩) | (go_at_call 41; apply Aside0.out))
      refine ⟨?_⟩
      rw [u64_small (x : Int) (by omega) (by have := hxb.out; omega)]
      refine (num_ok KF10.out x 4 (Or.inr (Or.inr (Or.inl rfl))) (lt32n hxb.out) (by have := Klen.out; omega) (by omega)).mono ?_
      rintro e w10 ⟨rfl, v10, hF, -⟩
      rw [hby.out] at hF
      have KF11 := Aside0.mk hF
      have KD2 := Aside0.mk (done_ok KF11.out (by have := Klen.out; rw [← hby.out, List.length_append, le_length]; omega))
      clear hF
      go_wp2_with (go_at_call 42; apply Aside0.out)
      refine ⟨?_⟩
      refine KD2.out.mono ?_
      rintro e w11 ⟨u11, rfl, hO, hB⟩
      have hd := DB.of KB2.out (Kg.out ▸ KF11.out)
      have KO := Aside0.mk (hO.lower hd.2.size)
      have KB := Aside0.mk (below_then hd.2 hd.2.size hB)
      obtain ⟨A11, c11, rfl, -, -⟩ := hO.slice
      clear hO hB hd
      go_wp2
      go_ret2
      exact ⟨_, rfl, KO.out, KB.out⟩
end Go.Proofs.Ytogplkochcalpaa.De
