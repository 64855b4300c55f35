/- Deltas as bytes: plain; the program's Size, Encode: walks. -/
import Derived.Test.YtogplkochcalpaaDe2
import Derived.Test.YtogplkochcalpaaBg
set_option linter.unusedVariables false
set_option linter.unusedSimpArgs false
namespace Go.Proofs.Ytogplkochcalpaa.De
open Go.RowKit Go.Proofs.Ytogplkochcalpaa.PD Go.Proofs.Ytogplkochcalpaa.Fd Go.Proofs.Ytogplkochcalpaa.Bg Go.Proofs.YtogplkochcalpaaW.PrintWords Go.Proofs.YtogplkochcalpaaW.PrintLast Go.Proofs.YtogplkochcalpaaW.PrintMore
def opB (o : S37) : List Int := if o.f1 > 0 then le 0 1 ++ le o.f0.toNat 4 ++ le o.f1.toNat 4 else le 1 1 ++ le o.f2.length 4 ++ o.f2
def opsB (l : List S37) : List Int := l.flatMap opB
def headB (d : Dl) : List Int := [80, 77, 68, 49] ++ le d.a.toNat 4 ++ le d.b.toNat 4 ++ le d.c.toNat 8 ++ le d.d.toNat 8
def bodyB (d : Dl) : List Int := headB d ++ opsB d.l
def bytesB (d : Dl) : List Int := bodyB d ++ le (Sum.crc 0 (bodyB d)) 4
theorem headB_len (d : Dl) : (headB d).length = 28 := by simp [headB, le_length]
theorem bodyB_len (d : Dl) : (bodyB d).length = 28 + (opsB d.l).length := by rw [bodyB, List.length_append, headB_len]
theorem bytesB_len (d : Dl) : (bytesB d).length = 32 + (opsB d.l).length := by rw [bytesB, List.length_append, bodyB_len, le_length]; omega
theorem opB_len (o : S37) : (opB o).length = if o.f1 > 0 then 9 else 5 + o.f2.length := by
  unfold opB
  split
  · simp [le_length]
  · simp [le_length]; omega
theorem ops_step {l : List S37} {k : Nat} {o : S37} (h : l.drop k = o :: l.drop (k + 1)) : opsB (l.take (k + 1)) = opsB (l.take k) ++ opB o ∧ (opsB (l.take k)).length + (opB o).length + (opsB (l.drop (k + 1))).length = (opsB l).length := by
  have h1 : l.take (k + 1) = l.take k ++ [o] := by
    have e : l[k]? = some o := by
      have := congrArg (fun z => z[0]?) h
      simpa using this
    rw [List.take_add_one, e]; rfl
  have h2 : opsB (l.take (k + 1)) = opsB (l.take k) ++ opB o := by rw [h1]; simp [opsB]
  refine ⟨h2, ?_⟩
  have h4 : opsB l = opsB (l.take (k + 1)) ++ opsB (l.drop (k + 1)) := by unfold opsB; rw [← List.flatMap_append, List.take_append_drop]
  rw [h4, h2, List.length_append, List.length_append]
/-- The bytes of the data are bytes; the digests are numbers of 64 bits. -/
structure WfD (d : Dl) : Prop where
  ops : ∀ o ∈ d.l, WfO o
  isB : ∀ o ∈ d.l, ∀ x ∈ o.f2, 0 ≤ x ∧ x < 256
  c0 : 0 ≤ d.c
  c1 : d.c < 18446744073709551616
  d0 : 0 ≤ d.d
  d1 : d.d < 18446744073709551616
theorem opB_isB {o : S37} (h : ∀ x ∈ o.f2, 0 ≤ x ∧ x < 256) : ∀ x ∈ opB o, 0 ≤ x ∧ x < 256 := by
  unfold opB
  split
  · exact isB_app (isB_app (le_isB _ _) (le_isB _ _)) (le_isB _ _)
  · exact isB_app (isB_app (le_isB _ _) (le_isB _ _)) h
theorem opsB_isB {l : List S37} (h : ∀ o ∈ l, ∀ x ∈ o.f2, 0 ≤ x ∧ x < 256) : ∀ x ∈ opsB l, 0 ≤ x ∧ x < 256 := fun x hx => by
  obtain ⟨o, h1, h2⟩ := List.mem_flatMap.1 hx
  exact opB_isB (h o h1) x h2
theorem magic_isB : ∀ x ∈ ([80, 77, 68, 49] : List Int), 0 ≤ x ∧ x < 256 := by decide
theorem headB_isB (d : Dl) : ∀ x ∈ headB d, 0 ≤ x ∧ x < 256 := isB_app (isB_app (isB_app (isB_app magic_isB (le_isB _ _)) (le_isB _ _)) (le_isB _ _)) (le_isB _ _)
theorem bodyB_isB {d : Dl} (h : WfD d) : ∀ x ∈ bodyB d, 0 ≤ x ∧ x < 256 := isB_app (headB_isB d) (opsB_isB h.isB)
theorem bytesB_isB {d : Dl} (h : WfD d) : ∀ x ∈ bytesB d, 0 ≤ x ∧ x < 256 := isB_app (bodyB_isB h) (le_isB _ _)
theorem size_l0 (l : List S37) (hl : l.length ≤ 8388608) : ∀ (m i k : Nat) (x : Int), m + i = l.length → m < k → 0 ≤ x → x + (opsB (l.drop i)).length ≤ 1000000000 → delta_Size.l0 k x l (l.length : Int) (i : Int) = some (x + (opsB (l.drop i)).length) := by
  intro m
  induction m with
  | zero =>
    intro i k x hm hk hx0 hx
    obtain ⟨k, rfl⟩ : ∃ q, k = q + 1 := ⟨k - 1, by omega⟩
    rw [delta_Size.l0]
    rw [if_neg (by omega), List.drop_eq_nil_of_le (by omega)]
    simp [opsB]
  | succ m ih =>
    intro i k x hm hk hx0 hx
    obtain ⟨k, rfl⟩ : ∃ q, k = q + 1 := ⟨k - 1, by omega⟩
    obtain ⟨o, e1, e2, e3⟩ := rd_drop (l := l) (i := i) (by omega)
    have h2 : opsB (l.drop i) = opB o ++ opsB (l.drop (i + 1)) := by rw [e2]; simp [opsB]
    rw [h2, List.length_append, opB_len] at hx ⊢
    rw [delta_Size.l0]
    rw [if_pos (by omega), if_pos (by omega), if_pos (by omega), e1, wrap_in (n := (i : Int) + 1) (by omega), show ((i : Int) + 1) = ((i + 1 : Nat) : Int) by omega]
    by_cases c : o.f1 > 0
    · rw [if_pos c] at hx ⊢
      rw [if_pos c, wrap_in (by omega), ih (i + 1) k _ (by omega) (by omega) (by omega) (by omega)]
      congr 1; omega
    · rw [if_neg c] at hx ⊢
      rw [if_neg c, wrap_in (n := 5 + _) (by omega), wrap_in (by omega), ih (i + 1) k _ (by omega) (by omega) (by omega) (by omega)]
      congr 1; omega
theorem size_f (d : Dl) (k : Nat) (hk : 8400000 ≤ k) (hw : ∀ o ∈ d.l, WfO o) (hl : d.l.length ≤ 8388608) (hs : (bytesB d).length ≤ 100000000) : delta_Size.f k d.a d.b d.c d.d d.l = some (if rightD d = true then ((bytesB d).length : Int) else 0) := by
  unfold delta_Size.f
  rw [check_f d k (by omega) hw hl]
  simp only [Option.bind_some]
  rw [bytesB_len] at hs ⊢
  by_cases r : rightD d = true
  · have := size_l0 d.l hl d.l.length 0 k 32 (by omega) (by omega) (by omega) (by rw [List.drop_zero]; omega)
    rw [show ((0 : Nat) : Int) = 0 from rfl, List.drop_zero] at this
    rw [if_pos r, if_pos rfl, if_pos r, this]
    exact congrArg some (by omega)
  · rw [if_neg r, if_neg (by decide), if_neg r]
/-- A delta as it is handed on. -/
abbrev dv (d : Dl) (A : Option Addr) (c : Nat) : Value := .agg #[.int .i64 d.a, .int .i64 d.b, .int .u64 d.c, .int .u64 d.d, .slice A d.l.length c]
theorem check_any (d : Dl) (A : Option Addr) (c : Nat) (w : World) (hC : Kd.C k37 w A d.l.length d.l) (hc : d.l.length ≤ c) (hw : ∀ o ∈ d.l, WfO o) (hl : d.l.length ≤ 8388608) : Calls Try.prog 19 #[dv d A c] w fun e w' => e = .returned (.int .i64 (if rightD d = true then 0 else 1)) ∧ Below w.heap.size w w' :=
  delta_Check.calls (d.l.length + 3) d.a d.b d.c d.d A c d.l _ w hC hc (check_f d _ (Nat.le_refl _) hw hl)
theorem size_any (d : Dl) (A : Option Addr) (c : Nat) (w : World) (hC : Kd.C k37 w A d.l.length d.l) (hc : d.l.length ≤ c) (hw : ∀ o ∈ d.l, WfO o) (hl : d.l.length ≤ 8388608) (hs : (bytesB d).length ≤ 100000000) : Calls Try.prog 24 #[dv d A c] w fun e w' => e = .returned (.int .i64 (if rightD d = true then ((bytesB d).length : Int) else 0)) ∧ Below w.heap.size w w' := by
  obtain ⟨k, hk⟩ : ∃ k : Nat, 8400000 ≤ k := ⟨_, Nat.le_refl _⟩
  exact delta_Size.calls k d.a d.b d.c d.d A c d.l _ w hC hc (size_f d k hk hw hl hs)
theorem rright_any (d : Dl) (A : Option Addr) (c : Nat) (w : World) (hC : Kd.C k37 w A d.l.length d.l) (hc : d.l.length ≤ c) (hw : ∀ o ∈ d.l, WfO o) (hl : d.l.length ≤ 8388608) : Calls Try.prog 18 #[dv d A c] w fun e w' => e = .returned (.bool (rightD d)) ∧ Below w.heap.size w w' :=
  portmanteauref30_Right.calls (3 * d.l.length + 3) d.a d.b d.c d.d A c d.l _ w hC hc (rright_f d _ (Nat.le_refl _) hw hl)
theorem apply_any (old : List Int) (B : Option Addr) (cb : Nat) (d : Dl) (A : Option Addr) (c : Nat) (w : World) (hB : Kd.C (Kd.int .u8) w B old.length old) (hcb : old.length ≤ cb) (hC : Kd.C k37 w A d.l.length d.l) (hc : d.l.length ≤ c) (hw : ∀ o ∈ d.l, WfO o) (hl : d.l.length ≤ 8388608) (ho : old.length ≤ 8388608) : Calls Try.prog 17 #[.slice B old.length cb, dv d A c] w fun e w' => ∃ v : Value, e = .returned (.tuple #[v, .int .i64 (applyP old d).2]) ∧ Row.OwnB w' w.heap.size v (applyP old d).1 ∧ Below w.heap.size w w' := by
  obtain ⟨k, hk⟩ : ∃ k : Nat, 25200000 ≤ k := ⟨_, Nat.le_refl _⟩
  exact delta_Apply.calls k B cb old d.a d.b d.c d.d A c d.l _ _ w hB hcb hC hc (apply_f old d k hk hw hl ho)
theorem rapply_any (old : List Int) (B : Option Addr) (cb : Nat) (d : Dl) (A : Option Addr) (c : Nat) (w : World) (hB : Kd.C (Kd.int .u8) w B old.length old) (hcb : old.length ≤ cb) (hC : Kd.C k37 w A d.l.length d.l) (hc : d.l.length ≤ c) (hw : ∀ o ∈ d.l, WfO o) (hl : d.l.length ≤ 8388608) (ho : old.length ≤ 8388608) : Calls Try.prog 14 #[.slice B old.length cb, dv d A c] w fun e w' => ∃ v : Value, e = .returned (.tuple #[v, .int .i64 (applyP old d).2]) ∧ Row.OwnB w' w.heap.size v (applyP old d).1 ∧ Below w.heap.size w w' := by
  obtain ⟨k, hk⟩ : ∃ k : Nat, 25200000 ≤ k := ⟨_, Nat.le_refl _⟩
  exact portmanteauref30_Apply.calls k B cb old d.a d.b d.c d.d A c d.l _ _ w hB hcb hC hc (rapply_f old d k hk hw hl ho)
theorem digest_any (l : List Int) (A : Option Addr) (c : Nat) (w : World) (hC : Kd.C (Kd.int .u8) w A l.length l) (hc : l.length ≤ c) (hl : l.length ≤ 140737488351232) : Calls Try.prog 27 #[.slice A l.length c] w fun e w' => e = .returned (.int .u64 (digF l)) ∧ Drawn0 w w' :=
  sum_Digest.calls (l.length + 1) A c l _ w hC hc (digest_f l _ (by omega) hl)
end Go.Proofs.Ytogplkochcalpaa.De
