/- Texts put together: KJ. -/
import Derived.Test.YtpdggoapjbjmhaaZL
import Derived.Test.YtpdggoapjbjmhaaPW
/- Texts put together: JoinP, Join, BackP. -/
/- Blocks are packed: what sequences come to as bytes, in plain words; the small callees' contracts. -/
set_option linter.unusedVariables false
set_option linter.unusedSimpArgs false
namespace Go.Proofs.Ytpdggoapjbjmhaa.Lz
open Go.RowKit Go.Proofs.YtpdggoapjbjmhaaW.PrintWords Go.Proofs.YtpdggoapjbjmhaaW.PrintLast Go.Proofs.YtpdggoapjbjmhaaW.PrintMore
/-- The bytes behind a length's four bits. -/
def tl (n : Int) : List Int := if n < 15 then [] else told (n - 15).toNat
def tok (s : Sq) (last : Bool) : Int := 16 * min (s.1.length : Int) 15 + if last = true then 0 else min (s.2.2 - 4) 15
def segT (s : Sq) (last : Bool) : List Int := if last = true then [] else [s.2.1 % 256, s.2.1 / 256] ++ tl (s.2.2 - 4)
def seg (s : Sq) (last : Bool) : List Int := [tok s last] ++ tl s.1.length ++ s.1 ++ segT s last
/-- What is wrong with a sequence. -/
def wrongP (s : Sq) (last : Bool) (size : Int) : Int :=
  if (last = true ∧ (s.2.1 ≠ 0 ∨ s.2.2 ≠ 0)) ∨ (last = false ∧ (s.2.1 < 1 ∨ 65535 < s.2.1 ∨ s.2.2 < 4)) then 1
  else if size + s.1.length < s.2.1 then 9
  else if 1048576 - size < s.1.length ∨ 1048576 - size - s.1.length < s.2.2 then 2 else 0
theorem wrong_no {s : Sq} {last : Bool} {size : Int} (h : wrongP s last size = 0) (h0 : 0 ≤ size) : ((last = true ∧ s.2.1 = 0 ∧ s.2.2 = 0) ∨ (last = false ∧ 1 ≤ s.2.1 ∧ s.2.1 ≤ 65535 ∧ 4 ≤ s.2.2)) ∧ s.2.1 ≤ size + s.1.length ∧ size + s.1.length + s.2.2 ≤ 1048576 ∧ 0 ≤ s.2.2 ∧ 0 ≤ s.2.1 := by
  unfold wrongP at h
  split at h
  · cases h
  split at h
  · cases h
  split at h
  · cases h
  rename_i h1 h2 h3
  cases last <;> simp at h1 <;> simp <;> omega
/-- Sequences as bytes. -/
def joinP (out : List Int) (size : Int) : List Sq → List Int × Int
  | [] => (out, 0)
  | s :: r => if wrongP s (decide (r = [])) size = 0 then joinP (out ++ seg s (decide (r = []))) (size + s.1.length + s.2.2) r else ([], wrongP s (decide (r = [])) size)
def joinA (l : List Sq) : List Int × Int := if l = [] then ([], 1) else joinP [] 0 l
theorem told_q (q d : Nat) (hd : d < 255) : told (255 * q + d) = List.replicate q 255 ++ [(d : Int)] := by
  unfold told
  rw [show (255 * q + d) / 255 = q by omega, show (255 * q + d) % 255 = d by omega]
theorem tell_l0 (d : Nat) (hd : d < 255) : ∀ (q k : Nat) (x : List Int), q < k → x.length + q + 1 < 140737488355328 → q < 1000000000 → PBlocksWords.lz_tell.l0 k x ((255 * q + d : Nat) : Int) = some (x ++ (List.replicate q 255 ++ [(d : Int)])) := by
  intro q
  induction q with
  | zero =>
    intro k x hk hx _
    obtain ⟨k, rfl⟩ : ∃ m, k = m + 1 := ⟨k - 1, by omega⟩
    unfold PBlocksWords.lz_tell.l0
    rw [if_neg (by omega), if_pos (by omega)]
    simp only [Nat.mul_zero, Nat.zero_add, List.replicate_zero, List.nil_append]
    rw [show ((d : Int) % 256) = d by omega]
  | succ q ih =>
    intro k x hk hx hq
    obtain ⟨k, rfl⟩ : ∃ m, k = m + 1 := ⟨k - 1, by omega⟩
    unfold PBlocksWords.lz_tell.l0
    rw [if_pos (by omega), if_pos (by omega), show wrap64 (((255 * (q + 1) + d : Nat) : Int) - 255) = ((255 * q + d : Nat) : Int) by unfold wrap64; omega, ih k (x ++ [255]) (by omega) (by simp; omega) (by omega)]
    rw [List.append_assoc, List.replicate_succ]
    simp
theorem tell_f (n : Nat) (x : List Int) (hn : n ≤ 4000000) (hx : x.length < 140737000000000) : PBlocksWords.lz_tell.f (n / 255 + 1) x (n : Int) = some (x ++ tl n) := by
  unfold PBlocksWords.lz_tell.f tl
  by_cases h : n < 15
  · rw [if_pos (by omega), if_pos (by omega), List.append_nil]
  · rw [if_neg (by omega), if_neg (by omega), show wrap64 ((n : Int) - 15) = ((n - 15 : Nat) : Int) by unfold wrap64; omega, show ((n : Int) - 15).toNat = n - 15 by omega]
    obtain ⟨q, d, hd, he⟩ : ∃ q d, d < 255 ∧ n - 15 = 255 * q + d := ⟨(n - 15) / 255, (n - 15) % 255, Nat.mod_lt _ (by decide), by omega⟩
    rw [he, tell_l0 d hd q _ x (by omega) (by omega) (by omega), told_q q d hd]
/-- tell. -/
theorem tell_any {w0 w : World} {u : Value} {x : List Int} (n : Nat) (hn : n ≤ 4000000) (hx : x.length < 140737000000000) (hB : Below w0.heap.size w0 w) (ho : Row.OwnB w w0.heap.size u x) :
    Calls Try.prog 81 #[u, .int .i64 n] w fun e w' => ∃ v, e = .returned v ∧ Row.OwnB w' w0.heap.size v (x ++ tl n) ∧ Below w0.heap.size w0 w' ∧ w.heap.size ≤ w'.heap.size ∧ (∀ k, k < w.heap.size → u.ownBlock ≠ some k → w'.heap[k]? = w.heap[k]?) := by
  refine (PBlocksWords.lz_tell.calls (n / 255 + 1) (fun k => u.ownBlock = some k) u x n (x ++ tl n) w0 w hB ⟨fun k hk => hk, ho.2⟩ (tell_f n x hn hx)).mono fun e w' ⟨v, he, hR, hb, hk⟩ => ⟨v, he, ⟨fun _ _ => trivial, hR.2⟩, hb, hk.1, fun k h1 h2 => hk.2 k h1 h2⟩
theorem wrong_f (lit : List Int) (off len : Int) (last : Bool) (size : Int) (ho : -9223372036854775808 ≤ off ∧ off ≤ 9223372036854775807) (hl : -9223372036854775808 ≤ len ∧ len ≤ 9223372036854775807) (hlit : lit.length ≤ 4000000) (h0 : 0 ≤ size) (h1 : size ≤ 1048576) :
    PBlocksWords.lz_wrong.f 3 lit off len last size = some (wrongP (lit, off, len) last size) := by
  have e1 : wrap64 (1048576 - size) = 1048576 - size := by unfold wrap64; omega
  have e2 : wrap64 (1048576 - size - (lit.length : Int)) = 1048576 - size - lit.length := by unfold wrap64; omega
  unfold wrongP
  cases last
  · simp only [PBlocksWords.lz_wrong.f, PBlocksWords.lz_wrong.j0, PBlocksWords.lz_wrong.j1, PBlocksWords.lz_wrong.j2, e1, e2, Bool.false_eq_true, if_false, if_true, reduceIte, false_and, true_and, false_or]
    by_cases a1 : off < 1
    · rw [if_pos a1, if_pos (Or.inl a1)]
    rw [if_neg a1]
    by_cases a2 : off > 65535
    · rw [if_pos a2, if_pos (Or.inr (Or.inl a2))]
    rw [if_neg a2]
    have e3 : wrap64 (off - (lit.length : Int)) = off - lit.length := by unfold wrap64; omega
    rw [e3]
    by_cases a3 : len < 4
    · rw [decide_eq_true a3, if_pos rfl, if_pos (Or.inr (Or.inr a3))]
    rw [decide_eq_false a3, if_neg (by omega : ¬ (off < 1 ∨ 65535 < off ∨ len < 4))]
    simp only [Bool.false_eq_true, if_false]
    by_cases a4 : off > (lit.length : Int)
    · rw [if_pos a4]
      by_cases a5 : off - (lit.length : Int) > size
      · rw [decide_eq_true a5, if_pos rfl, if_pos (by omega)]
      · rw [decide_eq_false a5, if_neg (by simp), if_neg (by omega : ¬ size + (lit.length : Int) < off)]
        by_cases a6 : (lit.length : Int) > 1048576 - size
        · rw [if_pos a6, if_pos (by omega)]
        · rw [if_neg a6]
          by_cases a7 : len > 1048576 - size - (lit.length : Int)
          · rw [if_pos a7, if_pos (by omega)]
          · rw [if_neg a7, if_neg (by omega)]
    · rw [if_neg a4, if_neg (by omega : ¬ size + (lit.length : Int) < off)]
      by_cases a6 : (lit.length : Int) > 1048576 - size
      · rw [if_pos a6, if_pos (by omega)]
      · rw [if_neg a6]
        by_cases a7 : len > 1048576 - size - (lit.length : Int)
        · rw [if_pos a7, if_pos (by omega)]
        · rw [if_neg a7, if_neg (by omega)]
  · simp only [PBlocksWords.lz_wrong.f, PBlocksWords.lz_wrong.j0, PBlocksWords.lz_wrong.j1, PBlocksWords.lz_wrong.j2, e1, e2, if_true, reduceIte, true_and, Bool.true_eq_false, false_and, or_false]
    by_cases a1 : off = 0
    · subst a1
      rw [if_pos rfl]
      by_cases a2 : len = 0
      · subst a2
        simp only [bne_self_eq_false, Bool.false_eq_true, if_false, ne_eq, not_true_eq_false, or_self]
        rw [if_neg (by omega : ¬ size + (lit.length : Int) < 0)]
        by_cases a6 : (lit.length : Int) > 1048576 - size
        · rw [if_pos a6, if_pos (by omega)]
        · rw [if_neg a6]
          by_cases a7 : (0 : Int) > 1048576 - size - (lit.length : Int)
          · rw [if_pos a7, if_pos (by omega)]
          · rw [if_neg a7, if_neg (by omega)]
      · have : (len != 0) = true := by simpa using a2
        rw [this]
        simp [a2]
    · rw [if_neg a1, if_pos (Or.inl a1)]
theorem wrong_any {w : World} {A : Option Addr} {c : Nat} (lit : List Int) (off len : Int) (last : Bool) (size : Int) (hC : Kd.C (Kd.int .u8) w A lit.length lit) (hc : lit.length ≤ c) (ho : -9223372036854775808 ≤ off ∧ off ≤ 9223372036854775807) (hl : -9223372036854775808 ≤ len ∧ len ≤ 9223372036854775807) (hlit : lit.length ≤ 4000000) (h0 : 0 ≤ size) (h1 : size ≤ 1048576) :
    Calls Try.prog 80 #[.agg #[.slice A lit.length c, .int .i64 off, .int .i64 len], .bool last, .int .i64 size] w fun e w' => e = .returned (.int .i64 (wrongP (lit, off, len) last size)) ∧ Below w.heap.size w w' :=
  PBlocksWords.lz_wrong.calls 3 A c lit off len last size _ w hC hc (wrong_f lit off len last size ho hl hlit h0 h1)
theorem tok_or (a b : Int) (ha : 0 ≤ a ∧ a ≤ 15) (hb : 0 ≤ b ∧ b ≤ 15) : bits BinOp.or IntKind.i64 (a * 16) b = 16 * a + b := by
  obtain ⟨x, rfl⟩ := Int.eq_ofNat_of_zero_le ha.1
  obtain ⟨y, rfl⟩ := Int.eq_ofNat_of_zero_le hb.1
  have hor : (x * 16 ||| y) = x * 16 + y := by
    have h := Nat.two_pow_add_eq_or_of_lt (i := 4) (b := y) (by omega) x
    have e : (2 : Nat) ^ 4 = 16 := by decide
    rw [e] at h
    rw [Nat.mul_comm x 16]
    omega
  show IntKind.i64.wrap ((BitVec.ofInt 64 ((x * 16 : Nat) : Int) ||| BitVec.ofInt 64 (y : Int)).toNat : Int) = _
  rw [BitVec.toNat_or, ofInt_u64 (x * 16) (by omega), ofInt_u64 y (by omega), hor, Go.Lib.wrap_i64_small _ (by omega)]
  omega
end Go.Proofs.Ytpdggoapjbjmhaa.Lz
/- Blocks are packed: Join. -/
set_option linter.unusedVariables false
set_option linter.unusedSimpArgs false
namespace Go.Proofs.Ytpdggoapjbjmhaa.Lz
open Go.RowKit Go.Proofs.YtpdggoapjbjmhaaW.PrintWords Go.Proofs.YtpdggoapjbjmhaaW.PrintLast Go.Proofs.YtpdggoapjbjmhaaW.PrintMore
attribute [local go_sem] min2_int min_two   -- for this text's walks alone
/-- What may be joined: no literals longer than so much, the numbers' width. -/
def Fine (l : List Sq) : Prop := ∀ s ∈ l, s.1.length ≤ 4000000 ∧ isB s.1 ∧ (-9223372036854775808 ≤ s.2.1 ∧ s.2.1 ≤ 9223372036854775807) ∧ (-9223372036854775808 ≤ s.2.2 ∧ s.2.2 ≤ 9223372036854775807)
theorem tl_length (n : Int) : (tl n).length ≤ n.toNat / 255 + 1 := by
  unfold tl
  split
  · simp
  · rw [told_length]; omega
section
variable {ops : Array Oper} {o : Oper} {a : Act} {Q : Exit → Act → World → Prop} {Kc : Act → World → Prop}
theorem app_rows_step {w0 W : World} (base : Nat) (hw : Region.wanted o (yielded ops a.tmps) = true) (s x : Operand) (ho : o.op = .call { callee := .builtin .append, args := #[s, x], argTypes := #[37, 37] })
    (v : Value) (xs ys : List Int) (A : Option Addr) (m c : Nat) (hs : a.eval s = v) (hx : a.eval x = .slice A m c) (HO : Row.OwnB W base v xs) (HR : Kd.C (Kd.int .u8) W A m ys)
    (HB : Below base w0 W) (hbase : base ≤ W.heap.size) (hl : xs.length + m ≤ 140737488355328)
    (h : ∀ v1 w1, Row.OwnB w1 base v1 (xs ++ ys) → Below base w0 w1 → W.grownBy w1 v.ownBlock → (v1.ownBlock = v.ownBlock ∨ ∃ b, v1.ownBlock = some b ∧ W.heap.size ≤ b) → Kc (a.put o.dst v1) w1) :
    if Region.wanted o (yielded ops a.tmps) = true then Oper.wp Try.prog o a W Kc Q else Kc (a.put o.dst undef) W :=
  Kd.R_append_rows_step (Kd.int .u8) (w0 := w0) base hw s x 37 5 (.int .u8 0) 1 ho Try.underlying37 Row.info8 rfl (by decide) (by decide) v xs ys A m c (fun _ => True) (fun _ => False) hs hx HO HR (fun _ _ h => h) (fun _ h => h.elim) (fun _ _ => trivial) HB hbase (by omega) h
end
theorem lit2_C {w : World} (x y : Int) : Kd.C (Kd.int .u8) (w.alloc (.cells #[.int .u8 x, .int .u8 y] 5)) (some ⟨w.heap.size, 0, none⟩) 2 [x, y] :=
  (Row.OwnB.lit w w.heap.size #[.int .u8 x, .int .u8 y] [x, y] rfl (Nat.le_refl _) (by simp)).reads.2.2
theorem seg_length (s : Sq) (last : Bool) (h : s.1.length ≤ 4000000) (h2 : s.2.2 ≤ 1048576) : (seg s last).length ≤ 10000000 := by
  unfold seg segT
  have h3 := tl_length (s.1.length : Int)
  have h4 := tl_length (s.2.2 - 4)
  cases last <;> simp <;> omega
/-- What stands at the head of the loop. -/
structure JI (w : World) (l : List Sq) (wr : World) (u : Value) (out : List Int) (size : Int) (k : Nat) : Prop where
  own : Row.OwnB wr w.heap.size u out
  below : Below w.heap.size w wr
  size0 : 0 ≤ size
  size1 : size ≤ 1048576
  len : out.length ≤ k * 10000000
  eq : joinP [] 0 l = joinP out size (l.drop k)
theorem JI_next {w : World} {l : List Sq} {wr w' : World} {u v : Value} {out out' : List Int} {size size' : Int} {k : Nat} {s : Sq} {last : Bool} (h : JI w l wr u out size k) (he : joinP [] 0 l = joinP (out ++ seg s last) (size + s.1.length + s.2.2) (l.drop (k + 1))) (hs : size' = size + s.1.length + s.2.2) (h1 : size + s.1.length + s.2.2 ≤ 1048576) (h2 : 0 ≤ s.2.2) (h3 : s.1.length ≤ 4000000) (ho : out' = out ++ seg s last) (hO : Row.OwnB w' w.heap.size v out') (hB : Below w.heap.size w w') : JI w l w' v out' size' (k + 1) := by
  subst hs ho
  have := h.size0
  have := h.len
  have := seg_length s last h3 (by omega)
  exact ⟨hO, hB, by omega, h1, by rw [List.length_append]; omega, he⟩
set_option maxHeartbeats 4000000 in
set_option maxRecDepth 100000 in
theorem join_any (w : World) (l : List Sq) (A : Option Addr) (c : Nat) (hC : Kd.C kS w A l.length l) (hc : l.length ≤ c) (hf : Fine l) (hl : l.length ≤ 2000000) :
    Calls Try.prog 76 #[.slice A l.length c] w fun e w' => ∃ v, e = .returned (.tuple #[v, .int .i64 (joinA l).2]) ∧ Row.OwnB w' w.heap.size v (joinA l).1 ∧ Below w.heap.size w w' := by
  by_cases h0 : l = []
  · subst h0
    clear hC hf
    unfold joinA
    rw [if_pos rfl]
    go_enter Try.func76, Try.ntmps76
    go_wp2
    go_ret2
    exact ⟨_, rfl, Row.OwnB.nil _ _, Below.refl _ _⟩
  unfold joinA
  rw [if_neg h0]
  obtain ⟨n, hn⟩ : ∃ n, n = l.length := ⟨_, rfl⟩
  have hn0 : 0 < n := by rw [hn]; exact List.length_pos_iff.2 h0
  rw [← hn] at hC hc hl ⊢
  have KC := Aside0.mk hC
  have Kf := Aside0.mk hf
  have Kn := Aside0.mk hn
  have hne0 : ((n : Int) == 0) = false := by simp; omega
  clear hC hf hn h0
  go_enter Try.func76, Try.ntmps76
  go_wp2
  go_loopw [4, 5, 16] (fun u z i wr => ∃ (out : List Int) (size : Int) (k n4 : Nat) (A4 : Option Addr) (c4 : Nat), k ≤ n ∧ i = .int .i64 k ∧ z = .int .i64 size ∧ u = .slice A4 n4 c4 ∧ Aside0 (JI w l wr (.slice A4 n4 c4) out size k)) (fun _ _ i _ => n - (intOf i).toNat)
  case atStart => exact ⟨[], 0, 0, 0, none, 0, Nat.zero_le _, rfl, rfl, rfl, ⟨⟨Row.OwnB.nil _ _, Below.refl _ _, by decide, by decide, by simp, by simp⟩⟩⟩
  case round =>
    obtain ⟨out, size, k, n4, A4, c4, hk, rfl, rfl, rfl, KJ⟩ := hrel
    have hs0 := KJ.out.size0
    have hs1 := KJ.out.size1
    by_cases hlt : k < n
    · obtain ⟨ad, B, d, s, hs, rfl, x0, x1, x2, y0, y1⟩ := at_kS KC.out k hlt
      obtain ⟨lit, off, len⟩ := s
      simp only at x0 x1 x2 y0 y1
      replace x0 := pw_cell_below KJ.out.below x0
      replace x1 := pw_cell_below KJ.out.below x1
      replace x2 := pw_cell_below KJ.out.below x2
      have KLw := Aside0.mk y1
      have hdrop : l.drop k = (lit, off, len) :: l.drop (k + 1) := by
        have hkl : k < l.length := by rw [← Kn.out]; exact hlt
        rw [List.drop_eq_getElem_cons hkl]
        congr 1
        rw [List.getElem?_eq_getElem hkl] at hs
        exact Option.some.inj hs
      obtain ⟨f1, f2, f3, f4⟩ := Kf.out (lit, off, len) (List.mem_of_getElem? hs)
      simp only at f1 f2 f3 f4
      obtain ⟨last, hlast⟩ : ∃ last, last = decide (l.drop (k + 1) = []) := ⟨_, rfl⟩
      have hlast2 : ((k : Int) == (n : Int) - 1) = last := by
        rw [hlast, Bool.eq_iff_iff, decide_eq_true_iff, List.drop_eq_nil_iff, ← Kn.out]
        simp
        omega
      have hal : Below wr.heap.size wr (wr.alloc (.cells #[.slice B lit.length d, .int .i64 off, .int .i64 len] 114)) := below_alloc (Below.refl _ _) _
      have hw := wrong_any (w := wr.alloc (.cells #[.slice B lit.length d, .int .i64 off, .int .i64 len] 114)) lit off len last size (Kd.C_below (Kd.C_below y1 KJ.out.below) hal) y0 f3 f4 f1 hs0 hs1
      have heq2 := KJ.out.eq
      rw [hdrop] at heq2
      simp only [joinP] at heq2
      rw [← hlast] at heq2
      obtain ⟨er, her⟩ : ∃ er, er = wrongP (lit, off, len) last size := ⟨_, rfl⟩
      rw [← her] at hw heq2
      have Kw := Aside0.mk hw
      have Keq := Aside0.mk heq2
      have Ker := Aside0.mk her
      have Kl := Aside0.mk hlast
      have Ky := Aside0.mk (And.intro y0 y1)
      have Kal := Aside0.mk hal
      have Kff := Aside0.mk (And.intro f1 (And.intro f2 (And.intro f3 f4)))
      clear hw heq2 her hlast y0 y1 hal f2 f3 f4 hs hdrop
      by_cases he : er = 0
      · subst he
        have Kjn : Aside0 (joinP [] 0 l = joinP (out ++ seg (lit, off, len) last) (size + lit.length + len) (l.drop (k + 1))) := ⟨by have := Keq.out; rw [if_pos rfl] at this; exact this⟩
        clear Keq
        obtain ⟨g1, g2, g3, g4, g5⟩ := wrong_no Ker.out.symm hs0
        simp only at g1 g2 g3 g4 g5
        have Kg1 := Aside0.mk g1
        obtain ⟨sb, hsb⟩ : ∃ sb, sb = wr.heap.size := ⟨_, rfl⟩
        have Ksb := Aside0.mk hsb
        have hh0 : (wr.alloc (.cells #[.slice B lit.length d, .int .i64 off, .int .i64 len] 114)).heap[sb]? = some (.cells #[.slice B lit.length d, .int .i64 off, .int .i64 len] 114 (0, 0)) := by rw [hsb]; exact heap_alloc_new wr _
        have Kh0 := Aside0.mk hh0
        clear hh0 hsb g1
        obtain ⟨j8, hj8⟩ : ∃ j8, (if 15 < (lit.length : Int) then 15 else (lit.length : Int)) = j8 := ⟨_, rfl⟩
        have hj8b : 0 ≤ j8 ∧ j8 ≤ 15 ∧ j8 = min (lit.length : Int) 15 := by rw [← hj8]; split <;> omega
        obtain ⟨hj8a, hj8c, hj8d⟩ := hj8b
        have Kj8 := Aside0.mk hj8d
        clear hj8d
        cases last with
        | true =>
          obtain ⟨rfl, rfl⟩ : off = 0 ∧ len = 0 := by have := Kg1.out; simpa using this
          obtain ⟨tk, htk⟩ : ∃ tk, j8 * 16 = tk := ⟨_, rfl⟩
          have htk1 : 0 ≤ tk ∧ tk ≤ 255 := by omega
          have Ktk : Aside0 (tk = tok (lit, 0, 0) true) := ⟨by unfold tok; rw [← Kj8.out]; simp; omega⟩
          go_wp2_with (go_at_call 80; refine Kw.out.mono ?_; rintro e w1 ⟨rfl, hb1⟩; rw [← Ksb.out]; have hS1 := blk_below Kh0.out hb1; have hq0 : w1.cell? ⟨sb, 0, none⟩ = some (.slice B lit.length d) := (cell_of_row _ _ _ _ _ _ hS1).trans rfl; have hq1 : w1.cell? ⟨sb, 1, none⟩ = some (.int .i64 0) := (cell_of_row _ _ _ _ _ _ hS1).trans rfl; have hq2 : w1.cell? ⟨sb, 2, none⟩ = some (.int .i64 0) := (cell_of_row _ _ _ _ _ _ hS1).trans rfl; have Kb1 := Aside0.mk hb1; have KS1 := Aside0.mk hS1; clear hb1 hS1)
          have KO1 := Aside0.mk ((KJ.out.own.below Kal.out).below Kb1.out)
          have KB1 : Aside0 (Below w.heap.size w w1) := ⟨below_then KJ.out.below KJ.out.below.size (below_then Kal.out Kal.out.size Kb1.out)⟩
          have Kn4 : Aside0 (n4 = out.length) := ⟨(Row.OwnB.reads KJ.out.own).1⟩
          have hol : out.length ≤ 20000000000000 := by have := KJ.out.len; omega
          have hsbl : sb < w1.heap.size := blk_lt KS1.out
          have Kne : Aside0 (∀ k, (Value.slice A4 n4 c4).ownBlock = some k → k ≠ sb) := ⟨fun k e => by have := Kd.R_lt KJ.out.own k e; rw [Ksb.out]; omega⟩
          have htw : IntKind.u8.wrap tk = tk := IntWalk.u8_in _ (by omega)
          refine start_ (n := 10) (S := fun w' => w'.cell? ⟨sb, 0, none⟩ = some (.slice B lit.length d)) (ds := [8]) #[false, false, false, false, false, false, false, false, false, false] (by kernel_rfl) rfl rfl ((show w1.cell? _ = _ from hq0)) (fun hHeld => ?_)
          refine pure_ (i := 0) (N := some 54) (v := ?_) (a' := ?_) #[true, false, false, false, false, false, false, false, false, false] rfl rfl (by kernel_rfl) (fun _ _ _ h => h) (Or.inl ⟨by rfl, ?_⟩) ?_ ?_
          rotate_left
          · intro w'
            go_simp
            with_reducible rfl
          rotate_left
          · simp only [Act.put, List.setIfInBounds_toArray, List.set_cons_zero, List.set_cons_succ, i64_w, i32_w]
            rfl
          refine pure_ (i := 1) (N := some 55) (v := ?_) (a' := ?_) #[true, true, false, false, false, false, false, false, false, false] rfl rfl (by kernel_rfl) (fun _ _ _ h => h) (Or.inl ⟨by rfl, ?_⟩) ?_ ?_
          rotate_left
          · intro w'
            go_simp
            with_reducible rfl
          rotate_left
          · simp only [Act.put, List.setIfInBounds_toArray, List.set_cons_zero, List.set_cons_succ, i64_w, i32_w]
            rfl
          refine pure_ (i := 2) (N := some 56) (v := ?_) (a' := ?_) #[true, true, true, false, false, false, false, false, false, false] rfl rfl (by kernel_rfl) (fun _ _ _ h => h) (Or.inl ⟨by rfl, ?_⟩) ?_ ?_
          rotate_left
          · intro w'
            go_simp
            with_reducible rfl
          rotate_left
          · simp only [Act.put, List.setIfInBounds_toArray, List.set_cons_zero, List.set_cons_succ, i64_w, i32_w]
            rfl
          refine pure_ (i := 5) (N := some 59) (v := ?_) (a' := ?_) #[true, true, true, false, false, true, false, false, false, false] rfl rfl (by kernel_rfl) (fun _ _ _ h => h) (Or.inl ⟨by rfl, ?_⟩) ?_ ?_
          rotate_left
          · intro w'
            go_simp
            with_reducible rfl
          rotate_left
          · simp only [Act.put, List.setIfInBounds_toArray, List.set_cons_zero, List.set_cons_succ, i64_w, i32_w]
            rfl
          refine take_ (i := 6) (N := some 60) (v := ?_) (a' := ?_) #[true, true, true, false, false, true, true, false, false, false] rfl rfl (by kernel_rfl) (fun _ _ _ h => h) (Or.inl ⟨by rfl, ?_⟩) hHeld ?_ ?_
          rotate_left
          · intro w' s0
            go_simp
            with_reducible rfl
          rotate_left
          · simp only [Act.put, List.setIfInBounds_toArray, List.set_cons_zero, List.set_cons_succ, i64_w, i32_w]
            rfl
          refine pure_ (i := 7) (N := some 61) (v := ?_) (a' := ?_) #[true, true, true, false, false, true, true, true, false, false] rfl rfl (by kernel_rfl) (fun _ _ _ h => h) (Or.inl ⟨by rfl, ?_⟩) ?_ ?_
          rotate_left
          · intro w'
            go_simp
            with_reducible rfl
          rotate_left
          · simp only [Act.put, List.setIfInBounds_toArray, List.set_cons_zero, List.set_cons_succ, i64_w, i32_w]
            rfl
          refine one_ (i := 3) (N := some 57) #[true, true, true, true, false, true, true, true, false, false] rfl rfl (by kernel_rfl) (by decide) (fun K hK => ?_)
          refine value_ (w1 := ?_) (v := ?_) (by rfl) rfl ?_ ?_
          rotate_left 2
          · go_simp
            constructor
            · rfl
            · rfl
          refine hK.out _ _ (((cell_of_row _ _ _ _ _ _ (blk_alloc KS1.out _)).trans rfl)) (fun hHeld => ?_)
          clear hK K
          refine norm_ (a' := ?_) ?_ ?_
          rotate_left
          · show Act.put _ (some 57) _ = _
            simp only [Act.put, List.setIfInBounds_toArray, List.set_cons_zero, List.set_cons_succ, i64_w, i32_w]
            rfl
          refine one_ (i := 4) (N := some 58) #[true, true, true, true, true, true, true, true, false, false] rfl rfl (by kernel_rfl) (by decide) (fun K hK => ?_)
          refine Kd.R_append_step (Kd.int .u8) (w0 := w) (W := w1.drew) w.heap.size (by rfl) (.tmp 54) (.tmp 57) 37 5 (.int .u8 0) 1 rfl Try.underlying37 Row.info8 rfl (by decide) (by decide) (.slice A4 n4 c4) out tk [.int .u8 tk] (fun _ => True) (fun _ => False) rfl rfl rfl (fun _ h => h.elim) (fun _ _ => trivial) (Row.OwnB.below KO1.out (Below.refl _ _).drew) KB1.out.drew KB1.out.size (by omega) ?_; intro v2 w2 hR2 hB2 hg2 hat2; have hS2 : w2.heap[sb]? = _ := (hg2.block sb hsbl (fun e => Kne.out sb e.symm rfl)).trans KS1.out; have he0 : w2.cell? ⟨sb, 0, none⟩ = some (.slice B lit.length d) := (cell_of_row _ _ _ _ _ _ hS2).trans rfl; obtain ⟨A2, c2, rfl⟩ := Kd.R_slice hR2; have KO2 := Aside0.mk (show Row.OwnB w2 w.heap.size _ _ from hR2); have KB2 := Aside0.mk hB2; have KS2 := Aside0.mk hS2; have Kne2 : Aside0 (∀ k, (Value.slice A2 (out ++ [tk]).length c2).ownBlock = some k → k ≠ sb) := ⟨fun k e => by rcases hat2 with h|⟨q, h, hq⟩; exact Kne.out k (by rw [← h]; exact e); rw [h] at e; injection e with e; have : w1.heap.size ≤ q := hq; omega⟩; clear hR2 hB2 hg2 hat2 hS2
          refine hK.out _ _ (he0) (fun hHeld => ?_)
          clear hK K
          refine norm_ (a' := ?_) ?_ ?_
          rotate_left
          · show Act.put _ (some 58) _ = _
            simp only [Act.put, List.setIfInBounds_toArray, List.set_cons_zero, List.set_cons_succ, i64_w, i32_w]
            rfl
          refine last_ (i := 8) (N := some 62) #[true, true, true, true, true, true, true, true, true, false] rfl rfl (by kernel_rfl) (by decide) (fun K hK => ?_)
          refine goes_ Try.func81 (by kernel_rfl) rfl #[.slice A2 (out ++ [tk]).length c2, .int .i64 lit.length] (by rfl) rfl rfl (by simp only [List.map_toArray, List.map_cons, List.map_nil]; rfl) ?_
          with_reducible refine (tell_any lit.length f1 (by simp; omega) KB2.out KO2.out).mono ?_
          rintro e w3 ⟨v3, rfl, hO3, hB3, hs3, hf3⟩
          refine ⟨_, rfl, ?_⟩
          have hS3 := (hf3 sb (blk_lt KS2.out) (fun e => Kne2.out sb e rfl)).trans KS2.out
          have KO3 := Aside0.mk hO3
          have KB3 := Aside0.mk hB3
          have KS3 := Aside0.mk hS3
          clear hO3 hB3 hs3 hf3 hS3
          refine hK.out _ _ ?_
          clear hK K
          refine norm_ (a' := ?_) ?_ ?_
          rotate_left
          · show Act.put _ (some 62) _ = _
            simp only [Act.put, List.setIfInBounds_toArray, List.set_cons_zero, List.set_cons_succ, i64_w, i32_w]
            rfl
          refine pure_ (i := 9) (N := some 4) (v := ?_) (a' := ?_) #[true, true, true, true, true, true, true, true, true, true] rfl rfl (by kernel_rfl) (fun _ _ _ h => h) (Or.inl ⟨by rfl, ?_⟩) ?_ ?_
          rotate_left
          · intro w'
            go_simp
            with_reducible rfl
          rotate_left
          · simp only [Act.put, List.setIfInBounds_toArray, List.set_cons_zero, List.set_cons_succ, i64_w, i32_w]
            rfl
          refine done_ (by kernel_rfl) ?_
          obtain ⟨A3, c3, hv3, hle3, -⟩ := Row.OwnB.slice KO3.out
          obtain ⟨o3, ho3⟩ : ∃ o3, o3 = out ++ [tk] ++ tl lit.length := ⟨_, rfl⟩
          obtain ⟨n3, hn3⟩ : ∃ n3, n3 = o3.length := ⟨_, rfl⟩
          have hn3b : n3 ≤ 20000000100000 := by rw [hn3, ho3]; have := tl_length (lit.length : Int); simp; omega
          rw [← ho3, ← hn3] at hv3
          subst hv3
          have Ko3 := Aside0.mk ho3
          have Kn3 := Aside0.mk hn3
          have hp0 : w3.cell? ⟨sb, 0, none⟩ = some (.slice B lit.length d) := (cell_of_row _ _ _ _ _ _ KS3.out).trans rfl
          have KL3 : Aside0 (Kd.C (Kd.int .u8) w3 B lit.length lit) := ⟨Kd.C_below KLw.out KB3.out⟩
          have Kj8' := Aside0.mk hj8
          have Ktk' := Aside0.mk htk
          clear ho3 hn3 hle3 hj8 htk htw he0 hq0 hq1 hq2 hHeld hne0 hs1 hj8a hj8c g2
          go_wp2_with ((with_reducible refine gate_builtin (b := .append) (xs := #[.tmp 63, .tmp 65]) rfl ?_); apply Aside0.out)
          refine ⟨?_⟩
          refine Row.app_rows (w0 := w) w.heap.size rfl (.tmp 63) (.tmp 65) rfl (.slice A3 n3 c3) o3 lit B lit.length d rfl rfl (by rw [Ko3.out]; exact KO3.out) KL3.out KB3.out KB3.out.size (by rw [← Kn3.out]; omega) ?_
          intro zs A5 c5 w5 e1 e2 e3 h4 h5 e4 hb5 e5 e6 e7
          have Kzs : Aside0 (zs = out ++ [tk] ++ tl lit.length ++ lit) := ⟨by rw [e1.out, Ko3.out]⟩
          obtain ⟨n5, hn5⟩ : ∃ n5, n5 = zs.length := ⟨_, rfl⟩
          have hS5 : w5.heap[sb]? = _ := (e6.out.block sb (blk_lt KS3.out) (fun e => box_ne KO3.out KS3.out e.symm)).trans KS3.out
          rw [← hn5] at e2 h4 h5 ⊢
          have KO5 : Aside0 (Row.OwnB w5 w.heap.size (.slice A5 n5 c5) zs) := e2
          have KS5 := Aside0.mk hS5
          have KB5 := Aside0.mk hb5.out
          have Kn5 := Aside0.mk hn5
          have hn5b : n5 ≤ 20000004100000 := by have := Kn3.out; omega
          clear hS5 hb5 hn5 e1 e2 e3 h4 e4 e5 e6 e7 hp0
          go_wp2
          refine ⟨⟨zs, size + lit.length, k + 1, n5, A5, c5, hlt, by go_num, rfl, rfl, ⟨JI_next KJ.out Kjn.out (by simp) (by simp only; omega) (by simp) Kff.out.1 (by rw [Kzs.out, Ktk.out]; unfold seg segT; simp) KO5.out KB5.out⟩⟩, by simp [intOf]; omega⟩
        | false =>
          obtain ⟨g6, g7, g8⟩ : 1 ≤ off ∧ off ≤ 65535 ∧ 4 ≤ len := by have := Kg1.out; simpa using this
          obtain ⟨j15, hj15⟩ : ∃ j15, (if 15 < len - 4 then 15 else len - 4) = j15 := ⟨_, rfl⟩
          have hj15b : 0 ≤ j15 ∧ j15 ≤ 15 ∧ j15 = min (len - 4) 15 := by rw [← hj15]; split <;> omega
          obtain ⟨hj15a, hj15c, hj15d⟩ := hj15b
          obtain ⟨tk, htk⟩ : ∃ tk, bits BinOp.or IntKind.i64 (j8 * 16) j15 = tk := ⟨_, rfl⟩
          have htk1 : 0 ≤ tk ∧ tk ≤ 255 := by rw [← htk, tok_or j8 j15 ⟨hj8a, hj8c⟩ ⟨hj15a, hj15c⟩]; omega
          have Ktk : Aside0 (tk = tok (lit, off, len) false) := ⟨by rw [← htk, tok_or j8 j15 ⟨hj8a, hj8c⟩ ⟨hj15a, hj15c⟩]; unfold tok; rw [← Kj8.out]; simp only []; rw [← hj15d]; simp⟩
          clear hj15d
          go_wp2_with (go_at_call 80; refine Kw.out.mono ?_; rintro e w1 ⟨rfl, hb1⟩; rw [← Ksb.out]; have hS1 := blk_below Kh0.out hb1; have hq0 : w1.cell? ⟨sb, 0, none⟩ = some (.slice B lit.length d) := (cell_of_row _ _ _ _ _ _ hS1).trans rfl; have hq1 : w1.cell? ⟨sb, 1, none⟩ = some (.int .i64 off) := (cell_of_row _ _ _ _ _ _ hS1).trans rfl; have hq2 : w1.cell? ⟨sb, 2, none⟩ = some (.int .i64 len) := (cell_of_row _ _ _ _ _ _ hS1).trans rfl; have Kb1 := Aside0.mk hb1; have KS1 := Aside0.mk hS1; clear hb1 hS1)
          have KO1 := Aside0.mk ((KJ.out.own.below Kal.out).below Kb1.out)
          have KB1 : Aside0 (Below w.heap.size w w1) := ⟨below_then KJ.out.below KJ.out.below.size (below_then Kal.out Kal.out.size Kb1.out)⟩
          have Kn4 : Aside0 (n4 = out.length) := ⟨(Row.OwnB.reads KJ.out.own).1⟩
          have hol : out.length ≤ 20000000000000 := by have := KJ.out.len; omega
          have hsbl : sb < w1.heap.size := blk_lt KS1.out
          have Kne : Aside0 (∀ k, (Value.slice A4 n4 c4).ownBlock = some k → k ≠ sb) := ⟨fun k e => by have := Kd.R_lt KJ.out.own k e; rw [Ksb.out]; omega⟩
          have htw : IntKind.u8.wrap tk = tk := IntWalk.u8_in _ (by omega)
          refine start_ (n := 10) (S := fun w' => w'.cell? ⟨sb, 0, none⟩ = some (.slice B lit.length d)) (ds := [8]) #[false, false, false, false, false, false, false, false, false, false] (by kernel_rfl) rfl rfl ((show w1.cell? _ = _ from hq0)) (fun hHeld => ?_)
          refine pure_ (i := 0) (N := some 54) (v := ?_) (a' := ?_) #[true, false, false, false, false, false, false, false, false, false] rfl rfl (by kernel_rfl) (fun _ _ _ h => h) (Or.inl ⟨by rfl, ?_⟩) ?_ ?_
          rotate_left
          · intro w'
            go_simp
            with_reducible rfl
          rotate_left
          · simp only [Act.put, List.setIfInBounds_toArray, List.set_cons_zero, List.set_cons_succ, i64_w, i32_w]
            rfl
          refine pure_ (i := 1) (N := some 55) (v := ?_) (a' := ?_) #[true, true, false, false, false, false, false, false, false, false] rfl rfl (by kernel_rfl) (fun _ _ _ h => h) (Or.inl ⟨by rfl, ?_⟩) ?_ ?_
          rotate_left
          · intro w'
            go_simp
            with_reducible rfl
          rotate_left
          · simp only [Act.put, List.setIfInBounds_toArray, List.set_cons_zero, List.set_cons_succ, i64_w, i32_w]
            rfl
          refine pure_ (i := 2) (N := some 56) (v := ?_) (a' := ?_) #[true, true, true, false, false, false, false, false, false, false] rfl rfl (by kernel_rfl) (fun _ _ _ h => h) (Or.inl ⟨by rfl, ?_⟩) ?_ ?_
          rotate_left
          · intro w'
            go_simp
            with_reducible rfl
          rotate_left
          · simp only [Act.put, List.setIfInBounds_toArray, List.set_cons_zero, List.set_cons_succ, i64_w, i32_w]
            rfl
          refine pure_ (i := 5) (N := some 59) (v := ?_) (a' := ?_) #[true, true, true, false, false, true, false, false, false, false] rfl rfl (by kernel_rfl) (fun _ _ _ h => h) (Or.inl ⟨by rfl, ?_⟩) ?_ ?_
          rotate_left
          · intro w'
            go_simp
            with_reducible rfl
          rotate_left
          · simp only [Act.put, List.setIfInBounds_toArray, List.set_cons_zero, List.set_cons_succ, i64_w, i32_w]
            rfl
          refine take_ (i := 6) (N := some 60) (v := ?_) (a' := ?_) #[true, true, true, false, false, true, true, false, false, false] rfl rfl (by kernel_rfl) (fun _ _ _ h => h) (Or.inl ⟨by rfl, ?_⟩) hHeld ?_ ?_
          rotate_left
          · intro w' s0
            go_simp
            with_reducible rfl
          rotate_left
          · simp only [Act.put, List.setIfInBounds_toArray, List.set_cons_zero, List.set_cons_succ, i64_w, i32_w]
            rfl
          refine pure_ (i := 7) (N := some 61) (v := ?_) (a' := ?_) #[true, true, true, false, false, true, true, true, false, false] rfl rfl (by kernel_rfl) (fun _ _ _ h => h) (Or.inl ⟨by rfl, ?_⟩) ?_ ?_
          rotate_left
          · intro w'
            go_simp
            with_reducible rfl
          rotate_left
          · simp only [Act.put, List.setIfInBounds_toArray, List.set_cons_zero, List.set_cons_succ, i64_w, i32_w]
            rfl
          refine one_ (i := 3) (N := some 57) #[true, true, true, true, false, true, true, true, false, false] rfl rfl (by kernel_rfl) (by decide) (fun K hK => ?_)
          refine value_ (w1 := ?_) (v := ?_) (by rfl) rfl ?_ ?_
          rotate_left 2
          · go_simp
            constructor
            · rfl
            · rfl
          refine hK.out _ _ (((cell_of_row _ _ _ _ _ _ (blk_alloc KS1.out _)).trans rfl)) (fun hHeld => ?_)
          clear hK K
          refine norm_ (a' := ?_) ?_ ?_
          rotate_left
          · show Act.put _ (some 57) _ = _
            simp only [Act.put, List.setIfInBounds_toArray, List.set_cons_zero, List.set_cons_succ, i64_w, i32_w]
            rfl
          refine one_ (i := 4) (N := some 58) #[true, true, true, true, true, true, true, true, false, false] rfl rfl (by kernel_rfl) (by decide) (fun K hK => ?_)
          refine Kd.R_append_step (Kd.int .u8) (w0 := w) (W := w1.drew) w.heap.size (by rfl) (.tmp 54) (.tmp 57) 37 5 (.int .u8 0) 1 rfl Try.underlying37 Row.info8 rfl (by decide) (by decide) (.slice A4 n4 c4) out tk [.int .u8 tk] (fun _ => True) (fun _ => False) rfl rfl rfl (fun _ h => h.elim) (fun _ _ => trivial) (Row.OwnB.below KO1.out (Below.refl _ _).drew) KB1.out.drew KB1.out.size (by omega) ?_; intro v2 w2 hR2 hB2 hg2 hat2; have hS2 : w2.heap[sb]? = _ := (hg2.block sb hsbl (fun e => Kne.out sb e.symm rfl)).trans KS1.out; have he0 : w2.cell? ⟨sb, 0, none⟩ = some (.slice B lit.length d) := (cell_of_row _ _ _ _ _ _ hS2).trans rfl; obtain ⟨A2, c2, rfl⟩ := Kd.R_slice hR2; have KO2 := Aside0.mk (show Row.OwnB w2 w.heap.size _ _ from hR2); have KB2 := Aside0.mk hB2; have KS2 := Aside0.mk hS2; have Kne2 : Aside0 (∀ k, (Value.slice A2 (out ++ [tk]).length c2).ownBlock = some k → k ≠ sb) := ⟨fun k e => by rcases hat2 with h|⟨q, h, hq⟩; exact Kne.out k (by rw [← h]; exact e); rw [h] at e; injection e with e; have : w1.heap.size ≤ q := hq; omega⟩; clear hR2 hB2 hg2 hat2 hS2
          refine hK.out _ _ (he0) (fun hHeld => ?_)
          clear hK K
          refine norm_ (a' := ?_) ?_ ?_
          rotate_left
          · show Act.put _ (some 58) _ = _
            simp only [Act.put, List.setIfInBounds_toArray, List.set_cons_zero, List.set_cons_succ, i64_w, i32_w]
            rfl
          refine last_ (i := 8) (N := some 62) #[true, true, true, true, true, true, true, true, true, false] rfl rfl (by kernel_rfl) (by decide) (fun K hK => ?_)
          refine goes_ Try.func81 (by kernel_rfl) rfl #[.slice A2 (out ++ [tk]).length c2, .int .i64 lit.length] (by rfl) rfl rfl (by simp only [List.map_toArray, List.map_cons, List.map_nil]; rfl) ?_
          with_reducible refine (tell_any lit.length f1 (by simp; omega) KB2.out KO2.out).mono ?_
          rintro e w3 ⟨v3, rfl, hO3, hB3, hs3, hf3⟩
          refine ⟨_, rfl, ?_⟩
          have hS3 := (hf3 sb (blk_lt KS2.out) (fun e => Kne2.out sb e rfl)).trans KS2.out
          have KO3 := Aside0.mk hO3
          have KB3 := Aside0.mk hB3
          have KS3 := Aside0.mk hS3
          clear hO3 hB3 hs3 hf3 hS3
          refine hK.out _ _ ?_
          clear hK K
          refine norm_ (a' := ?_) ?_ ?_
          rotate_left
          · show Act.put _ (some 62) _ = _
            simp only [Act.put, List.setIfInBounds_toArray, List.set_cons_zero, List.set_cons_succ, i64_w, i32_w]
            rfl
          refine pure_ (i := 9) (N := some 4) (v := ?_) (a' := ?_) #[true, true, true, true, true, true, true, true, true, true] rfl rfl (by kernel_rfl) (fun _ _ _ h => h) (Or.inl ⟨by rfl, ?_⟩) ?_ ?_
          rotate_left
          · intro w'
            go_simp
            with_reducible rfl
          rotate_left
          · simp only [Act.put, List.setIfInBounds_toArray, List.set_cons_zero, List.set_cons_succ, i64_w, i32_w]
            rfl
          refine done_ (by kernel_rfl) ?_
          obtain ⟨A3, c3, hv3, hle3, -⟩ := Row.OwnB.slice KO3.out
          obtain ⟨o3, ho3⟩ : ∃ o3, o3 = out ++ [tk] ++ tl lit.length := ⟨_, rfl⟩
          obtain ⟨n3, hn3⟩ : ∃ n3, n3 = o3.length := ⟨_, rfl⟩
          have hn3b : n3 ≤ 20000000100000 := by rw [hn3, ho3]; have := tl_length (lit.length : Int); simp; omega
          rw [← ho3, ← hn3] at hv3
          subst hv3
          have Ko3 := Aside0.mk ho3
          have Kn3 := Aside0.mk hn3
          have hp0 : w3.cell? ⟨sb, 0, none⟩ = some (.slice B lit.length d) := (cell_of_row _ _ _ _ _ _ KS3.out).trans rfl
          have KL3 : Aside0 (Kd.C (Kd.int .u8) w3 B lit.length lit) := ⟨Kd.C_below KLw.out KB3.out⟩
          have Kj8' := Aside0.mk hj8
          have Ktk' := Aside0.mk htk
          clear ho3 hn3 hle3 hj8 htk htw he0 hq0 hq1 hq2 hHeld hne0 hs1 hj8a hj8c g2
          go_wp2_with ((with_reducible refine gate_builtin (b := .append) (xs := #[.tmp 63, .tmp 65]) rfl ?_); apply Aside0.out)
          refine ⟨?_⟩
          refine Row.app_rows (w0 := w) w.heap.size rfl (.tmp 63) (.tmp 65) rfl (.slice A3 n3 c3) o3 lit B lit.length d rfl rfl (by rw [Ko3.out]; exact KO3.out) KL3.out KB3.out KB3.out.size (by rw [← Kn3.out]; omega) ?_
          intro zs A5 c5 w5 e1 e2 e3 h4 h5 e4 hb5 e5 e6 e7
          have Kzs : Aside0 (zs = out ++ [tk] ++ tl lit.length ++ lit) := ⟨by rw [e1.out, Ko3.out]⟩
          obtain ⟨n5, hn5⟩ : ∃ n5, n5 = zs.length := ⟨_, rfl⟩
          have hS5 : w5.heap[sb]? = _ := (e6.out.block sb (blk_lt KS3.out) (fun e => box_ne KO3.out KS3.out e.symm)).trans KS3.out
          rw [← hn5] at e2 h4 h5 ⊢
          have KO5 : Aside0 (Row.OwnB w5 w.heap.size (.slice A5 n5 c5) zs) := e2
          have KS5 := Aside0.mk hS5
          have KB5 := Aside0.mk hb5.out
          have Kn5 := Aside0.mk hn5
          have hn5b : n5 ≤ 20000004100000 := by have := Kn3.out; omega
          clear hS5 hb5 hn5 e1 e2 e3 h4 e4 e5 e6 e7 hp0
          have hr1 : w5.cell? ⟨sb, 1, none⟩ = some (.int .i64 off) := (cell_of_row _ _ _ _ _ _ KS5.out).trans rfl
          have hr2 : w5.cell? ⟨sb, 2, none⟩ = some (.int .i64 len) := (cell_of_row _ _ _ _ _ _ KS5.out).trans rfl
          go_wp2
          obtain ⟨m4, hm4⟩ : ∃ m4 : Nat, (m4 : Int) = len - 4 := ⟨(len - 4).toNat, by omega⟩
          have hlw : IntKind.i64.wrap (len - 4) = (m4 : Int) := by rw [hm4]; exact IntWalk.i64_in _ (by omega)
          have hm4b : m4 ≤ 4000000 := by omega
          have Km4 := Aside0.mk hm4
          have hsbl5 : sb < w5.heap.size := blk_lt KS5.out
          have hw1 : IntKind.u8.wrap off = off % 256 := IntKind.wrap_u8 off
          have hw2 : IntKind.u8.wrap (off / 256) = off / 256 := IntWalk.u8_in _ (by omega)
          clear hm4
          refine start_ (n := 15) (S := fun w' => w'.cell? ⟨sb, 1, none⟩ = some (.int .i64 off) ∧ w'.cell? ⟨sb, 2, none⟩ = some (.int .i64 len)) (ds := [13]) #[false, false, false, false, false, false, false, false, false, false, false, false, false, false, false] (by kernel_rfl) rfl rfl ⟨(show w5.cell? _ = _ from hr1), (show w5.cell? _ = _ from hr2)⟩ (fun hHeld => ?_)
          refine pure_ (i := 0) (N := some 69) (v := ?_) (a' := ?_) #[true, false, false, false, false, false, false, false, false, false, false, false, false, false, false] rfl rfl (by kernel_rfl) (fun _ _ _ h => h) (Or.inl ⟨by rfl, ?_⟩) ?_ ?_
          rotate_left
          · intro w'
            go_simp
            with_reducible rfl
          rotate_left
          · simp only [Act.put, List.setIfInBounds_toArray, List.set_cons_zero, List.set_cons_succ, i64_w, i32_w]
            rfl
          refine pure_ (i := 1) (N := some 70) (v := ?_) (a' := ?_) #[true, true, false, false, false, false, false, false, false, false, false, false, false, false, false] rfl rfl (by kernel_rfl) (fun _ _ _ h => h) (Or.inl ⟨by rfl, ?_⟩) ?_ ?_
          rotate_left
          · intro w'
            go_simp
            with_reducible rfl
          rotate_left
          · simp only [Act.put, List.setIfInBounds_toArray, List.set_cons_zero, List.set_cons_succ, i64_w, i32_w]
            rfl
          refine pure_ (i := 4) (N := some 73) (v := ?_) (a' := ?_) #[true, true, false, false, true, false, false, false, false, false, false, false, false, false, false] rfl rfl (by kernel_rfl) (fun _ _ _ h => h) (Or.inl ⟨by rfl, ?_⟩) ?_ ?_
          rotate_left
          · intro w'
            go_simp
            with_reducible rfl
          rotate_left
          · simp only [Act.put, List.setIfInBounds_toArray, List.set_cons_zero, List.set_cons_succ, i64_w, i32_w]
            rfl
          refine pure_ (i := 10) (N := some 79) (v := ?_) (a' := ?_) #[true, true, false, false, true, false, false, false, false, false, true, false, false, false, false] rfl rfl (by kernel_rfl) (fun _ _ _ h => h) (Or.inl ⟨by rfl, ?_⟩) ?_ ?_
          rotate_left
          · intro w'
            go_simp
            with_reducible rfl
          rotate_left
          · simp only [Act.put, List.setIfInBounds_toArray, List.set_cons_zero, List.set_cons_succ, i64_w, i32_w]
            rfl
          refine take_ (i := 2) (N := some 71) (v := ?_) (a' := ?_) #[true, true, true, false, true, false, false, false, false, false, true, false, false, false, false] rfl rfl (by kernel_rfl) (fun _ _ _ h => h) (Or.inl ⟨by rfl, ?_⟩) hHeld ?_ ?_
          rotate_left
          · rintro w' ⟨s0, s1⟩
            go_simp
            with_reducible rfl
          rotate_left
          · simp only [Act.put, List.setIfInBounds_toArray, List.set_cons_zero, List.set_cons_succ, i64_w, i32_w]
            rfl
          refine pure_ (i := 3) (N := some 72) (v := ?_) (a' := ?_) #[true, true, true, true, true, false, false, false, false, false, true, false, false, false, false] rfl rfl (by kernel_rfl) (fun _ _ _ h => h) (Or.inl ⟨by rfl, ?_⟩) ?_ ?_
          rotate_left
          · intro w'
            go_simp
            with_reducible rfl
          rotate_left
          · simp only [Act.put, List.setIfInBounds_toArray, List.set_cons_zero, List.set_cons_succ, i64_w, i32_w]
            rfl
          refine take_ (i := 5) (N := some 74) (v := ?_) (a' := ?_) #[true, true, true, true, true, true, false, false, false, false, true, false, false, false, false] rfl rfl (by kernel_rfl) (fun _ _ _ h => h) (Or.inl ⟨by rfl, ?_⟩) hHeld ?_ ?_
          rotate_left
          · rintro w' ⟨s0, s1⟩
            go_simp
            with_reducible rfl
          rotate_left
          · simp only [Act.put, List.setIfInBounds_toArray, List.set_cons_zero, List.set_cons_succ, i64_w, i32_w]
            rfl
          refine pure_ (i := 6) (N := some 75) (v := ?_) (a' := ?_) #[true, true, true, true, true, true, true, false, false, false, true, false, false, false, false] rfl rfl (by kernel_rfl) (fun _ _ _ h => h) (Or.inl ⟨by rfl, ?_⟩) ?_ ?_
          rotate_left
          · intro w'
            go_simp
            with_reducible rfl
          rotate_left
          · simp only [Act.put, List.setIfInBounds_toArray, List.set_cons_zero, List.set_cons_succ, i64_w, i32_w]
            rfl
          refine pure_ (i := 7) (N := some 76) (v := ?_) (a' := ?_) #[true, true, true, true, true, true, true, true, false, false, true, false, false, false, false] rfl rfl (by kernel_rfl) (fun _ _ _ h => h) (Or.inl ⟨by rfl, ?_⟩) ?_ ?_
          rotate_left
          · intro w'
            go_simp
            with_reducible rfl
          rotate_left
          · simp only [Act.put, List.setIfInBounds_toArray, List.set_cons_zero, List.set_cons_succ, i64_w, i32_w]
            rfl
          refine take_ (i := 11) (N := some 80) (v := ?_) (a' := ?_) #[true, true, true, true, true, true, true, true, false, false, true, true, false, false, false] rfl rfl (by kernel_rfl) (fun _ _ _ h => h) (Or.inl ⟨by rfl, ?_⟩) hHeld ?_ ?_
          rotate_left
          · rintro w' ⟨s0, s1⟩
            go_simp
            with_reducible rfl
          rotate_left
          · simp only [Act.put, List.setIfInBounds_toArray, List.set_cons_zero, List.set_cons_succ, i64_w, i32_w]
            rfl
          refine pure_ (i := 12) (N := some 81) (v := ?_) (a' := ?_) #[true, true, true, true, true, true, true, true, false, false, true, true, true, false, false] rfl rfl (by kernel_rfl) (fun _ _ _ h => h) (Or.inl ⟨by rfl, ?_⟩) ?_ ?_
          rotate_left
          · intro w'
            go_simp
            with_reducible rfl
          rotate_left
          · simp only [Act.put, List.setIfInBounds_toArray, List.set_cons_zero, List.set_cons_succ, i64_w, i32_w]
            rfl
          refine one_ (i := 8) (N := some 77) #[true, true, true, true, true, true, true, true, true, false, true, true, true, false, false] rfl rfl (by kernel_rfl) (by decide) (fun K hK => ?_)
          refine value_ (w1 := ?_) (v := ?_) (by rfl) rfl ?_ ?_
          rotate_left 2
          · go_simp
            constructor
            · rfl
            · rfl
          refine hK.out _ _ ⟨((cell_of_row _ _ _ _ _ _ (blk_alloc KS5.out _)).trans rfl), ((cell_of_row _ _ _ _ _ _ (blk_alloc KS5.out _)).trans rfl)⟩ (fun hHeld => ?_)
          clear hK K
          refine norm_ (a' := ?_) ?_ ?_
          rotate_left
          · show Act.put _ (some 77) _ = _
            simp only [Act.put, List.setIfInBounds_toArray, List.set_cons_zero, List.set_cons_succ, i64_w, i32_w]
            rfl
          refine one_ (i := 9) (N := some 78) #[true, true, true, true, true, true, true, true, true, true, true, true, true, false, false] rfl rfl (by kernel_rfl) (by decide) (fun K hK => ?_)
          refine app_rows_step (w0 := w) w.heap.size (by rfl) (.tmp 69) (.tmp 77) rfl (.slice A5 n5 c5) zs [off % 256, off / 256] _ 2 2 rfl rfl (Row.OwnB.below KO5.out (below_drew (below_alloc (Below.refl _ _) _))) (Kd.C_drew (lit2_C (off % 256) (off / 256))) (below_drew (below_then KB5.out KB5.out.size (below_alloc (Below.refl _ _) _))) (by simp; exact Nat.le_trans KB5.out.size (Nat.le_succ _)) (by rw [← Kn5.out]; omega) ?_; intro v6 w6 hO6 hB6 hg6 hat6; have hS6 : w6.heap[sb]? = _ := (hg6.block sb (by simp; omega) (fun e => box_ne KO5.out KS5.out e.symm)).trans (blk_alloc KS5.out _); have hf1 : w6.cell? ⟨sb, 1, none⟩ = some (.int .i64 off) := (cell_of_row _ _ _ _ _ _ hS6).trans rfl; have hf2 : w6.cell? ⟨sb, 2, none⟩ = some (.int .i64 len) := (cell_of_row _ _ _ _ _ _ hS6).trans rfl; obtain ⟨A6, c6, rfl⟩ := Kd.R_slice hO6; obtain ⟨n6, hn6⟩ : ∃ n6, n6 = (zs ++ [off % 256, off / 256]).length := ⟨_, rfl⟩; rw [← hn6] at hO6 ⊢; have hn6b : n6 ≤ 20000005100000 := (by rw [hn6, List.length_append, ← Kn5.out]; simp; omega); have Kn6 := Aside0.mk hn6; have KO6 : Aside0 (Row.OwnB w6 w.heap.size (.slice A6 n6 c6) (zs ++ [off % 256, off / 256])) := ⟨hO6⟩; have KB6 := Aside0.mk hB6; clear hO6 hB6 hg6 hat6 hS6 hn6
          refine hK.out _ _ ⟨hf1, hf2⟩ (fun hHeld => ?_)
          clear hK K
          refine norm_ (a' := ?_) ?_ ?_
          rotate_left
          · show Act.put _ (some 78) _ = _
            simp only [Act.put, List.setIfInBounds_toArray, List.set_cons_zero, List.set_cons_succ, i64_w, i32_w]
            rfl
          refine last_ (i := 13) (N := some 82) #[true, true, true, true, true, true, true, true, true, true, true, true, true, true, false] rfl rfl (by kernel_rfl) (by decide) (fun K hK => ?_)
          refine goes_ Try.func81 (by kernel_rfl) rfl #[.slice A6 n6 c6, .int .i64 m4] (by rfl) rfl rfl (by simp only [List.map_toArray, List.map_cons, List.map_nil]; rfl) ?_
          with_reducible refine (tell_any m4 hm4b (by rw [← Kn6.out]; omega) KB6.out KO6.out).mono ?_
          rintro e w7 ⟨v7, rfl, hO7, hB7, hs7, hf7⟩
          refine ⟨_, rfl, ?_⟩
          have KO7 := Aside0.mk hO7
          have KB7 := Aside0.mk hB7
          clear hO7 hB7 hs7 hf7
          refine hK.out _ _ ?_
          clear hK K
          refine norm_ (a' := ?_) ?_ ?_
          rotate_left
          · show Act.put _ (some 82) _ = _
            simp only [Act.put, List.setIfInBounds_toArray, List.set_cons_zero, List.set_cons_succ, i64_w, i32_w]
            rfl
          refine pure_ (i := 14) (N := some 4) (v := ?_) (a' := ?_) #[true, true, true, true, true, true, true, true, true, true, true, true, true, true, true] rfl rfl (by kernel_rfl) (fun _ _ _ h => h) (Or.inl ⟨by rfl, ?_⟩) ?_ ?_
          rotate_left
          · intro w'
            go_simp
            with_reducible rfl
          rotate_left
          · simp only [Act.put, List.setIfInBounds_toArray, List.set_cons_zero, List.set_cons_succ, i64_w, i32_w]
            rfl
          refine done_ (by kernel_rfl) ?_
          obtain ⟨A7, c7, hv7, -, -⟩ := Row.OwnB.slice KO7.out
          obtain ⟨o7, ho7⟩ : ∃ o7, o7 = zs ++ [off % 256, off / 256] ++ tl m4 := ⟨_, rfl⟩
          obtain ⟨n7, hn7⟩ : ∃ n7, n7 = o7.length := ⟨_, rfl⟩
          rw [← ho7, ← hn7] at hv7
          subst hv7
          have Ko7 := Aside0.mk ho7
          clear ho7 hn7 hw1 hw2 hlw hHeld hr1 hr2
          go_wp2
          refine ⟨⟨o7, size + (lit.length + len), k + 1, n7, A7, c7, hlt, by go_num, rfl, rfl, ⟨JI_next KJ.out Kjn.out (by simp only; omega) (by simp only; omega) (by simp only; omega) Kff.out.1 (by rw [Ko7.out, Kzs.out, Ktk.out, Km4.out]; unfold seg segT; simp) (by rw [Ko7.out]; exact KO7.out) KB7.out⟩⟩, by simp [intOf]; omega⟩
      · have hne : ((er : Int) != 0) = true := by simpa using he
        go_wp2_with (go_at_call 80; refine Kw.out.mono ?_; rintro e w1 ⟨rfl, hb1⟩; have Kb1 := Aside0.mk hb1; clear hb1)
        go_ret2
        have Kfin : Aside0 (joinP [] 0 l = ([], er)) := ⟨by rw [Keq.out, if_neg he]⟩
        rw [Kfin.out]
        exact ⟨_, rfl, Row.OwnB.nil _ _, below_then KJ.out.below KJ.out.below.size (below_then Kal.out Kal.out.size Kb1.out)⟩
    · obtain rfl : k = n := by omega
      have hfin : joinP [] 0 l = (out, 0) := by
        rw [KJ.out.eq, Kn.out, List.drop_length]
        rfl
      have Kfin := Aside0.mk hfin
      clear hfin
      go_wp2
      go_ret2
      rw [Kfin.out]
      exact ⟨_, rfl, KJ.out.own, KJ.out.below⟩
end Go.Proofs.Ytpdggoapjbjmhaa.Lz
/- Blocks are packed and unpacked: there and back, in plain words. -/
set_option linter.unusedVariables false
set_option linter.unusedSimpArgs false
namespace Go.Proofs.Ytpdggoapjbjmhaa.Lz
open Go.RowKit Go.Proofs.YtpdggoapjbjmhaaW.PrintWords Go.Proofs.YtpdggoapjbjmhaaW.PrintLast Go.Proofs.YtpdggoapjbjmhaaW.PrintMore
/-- All sequences' bytes. -/
def segs : List Sq → List Int
  | [] => []
  | s :: r => seg s (decide (r = [])) ++ segs r
/-- Nothing is wrong. -/
def RightL : Int → List Sq → Prop
  | _, [] => True
  | size, s :: r => wrongP s (decide (r = [])) size = 0 ∧ RightL (size + s.1.length + s.2.2) r
theorem joinP_right : ∀ (l : List Sq) (out : List Int) (size : Int), RightL size l → joinP out size l = (out ++ segs l, 0)
  | [], out, size, _ => by simp [joinP, segs]
  | s :: r, out, size, h => by
    rw [joinP, if_pos h.1, joinP_right r _ _ h.2, segs, List.append_assoc]
theorem joinA_right {l : List Sq} (h0 : l ≠ []) (h : RightL 0 l) : joinA l = (segs l, 0) := by
  unfold joinA
  rw [if_neg h0, joinP_right l [] 0 h, List.nil_append]
theorem lenH_tl (n : Int) (hn : 0 ≤ n) (X : List Int) : lenH (min n 15) (tl n ++ X) = some (n, X) := by
  unfold lenH tl
  by_cases h : n < 15
  · rw [if_pos (by omega), if_pos h, show min n 15 = n by omega, List.nil_append]
  · rw [if_neg (by omega), if_neg h, show min n 15 = 15 by omega]
    unfold told
    rw [lenL_told 15 X _ _ (Nat.mod_lt _ (by decide))]
    have := Nat.div_add_mod (n - 15).toNat 255
    simp only [Option.some.injEq, Prod.mk.injEq, and_true]
    omega
theorem step_seg_last {N : Nat} {size : Int} {lit : List Int} (h0 : 0 ≤ size) (h1 : size + lit.length ≤ 1048576) : step N 1048576 size (seg (lit, 0, 0) true) = .last lit := by
  have hs : seg (lit, 0, 0) true = (16 * min (lit.length : Int) 15) :: (tl lit.length ++ lit) := by simp [seg, segT, tok]
  rw [hs]
  have hL : lenH ((16 * min (lit.length : Int) 15) / 16) (tl lit.length ++ lit) = some ((lit.length : Int), lit) := by
    rw [show (16 * min (lit.length : Int) 15) / 16 = min (lit.length : Int) 15 by omega]
    exact lenH_tl _ (by omega) _
  rw [step_d hL (by omega) (by omega), List.take_length, List.drop_length]
  rfl
theorem step_seg {N : Nat} {size off len : Int} {lit rest : List Int} (h0 : 0 ≤ size) (h1 : size + lit.length + len ≤ 1048576) (ho : 1 ≤ off) (ho2 : off ≤ 65535) (ho3 : off ≤ size + lit.length) (hl : 4 ≤ len) : step N 1048576 size (seg (lit, off, len) false ++ rest) = .seq lit off len rest := by
  have hs : seg (lit, off, len) false ++ rest = (16 * min (lit.length : Int) 15 + min (len - 4) 15) :: (tl lit.length ++ (lit ++ (off % 256 :: off / 256 :: (tl (len - 4) ++ rest)))) := by simp [seg, segT, tok]
  rw [hs]
  have hm : 0 ≤ min (len - 4) 15 ∧ min (len - 4) 15 ≤ 15 := by omega
  have hL : lenH ((16 * min (lit.length : Int) 15 + min (len - 4) 15) / 16) (tl lit.length ++ (lit ++ (off % 256 :: off / 256 :: (tl (len - 4) ++ rest)))) = some ((lit.length : Int), lit ++ (off % 256 :: off / 256 :: (tl (len - 4) ++ rest))) := by
    rw [show (16 * min (lit.length : Int) 15 + min (len - 4) 15) / 16 = min (lit.length : Int) 15 by omega]
    exact lenH_tl _ (by omega) _
  rw [step_d hL (by omega) (by simp; omega), List.take_left, List.drop_left]
  simp only [tailS]
  rw [if_neg (by omega), show (16 * min (lit.length : Int) 15 + min (len - 4) 15) % 16 = min (len - 4) 15 by omega, lenH_tl (len - 4) (by omega)]
  simp only
  rw [if_neg (by omega), show off % 256 + off / 256 * 256 = off by omega, show len - 4 + 4 = len by omega]
theorem run_segs (N : Nat) : ∀ (l : List Sq) (size : Int) (f : Nat), l ≠ [] → RightL size l → 0 ≤ size → l.length ≤ f → run N 1048576 f size (segs l) = (l, 0, 0)
  | [], _, _, h, _, _, _ => absurd rfl h
  | s :: r, size, f, _, hr, h0, hf => by
    obtain ⟨f, rfl⟩ : ∃ g, f = g + 1 := ⟨f - 1, by simp at hf; omega⟩
    obtain ⟨hw, hr2⟩ := hr
    obtain ⟨g1, g2, g3, g4, g5⟩ := wrong_no hw h0
    obtain ⟨lit, off, len⟩ := s
    simp only at g1 g2 g3 g4 g5 hr2
    by_cases hre : r = []
    · subst hre
      obtain ⟨rfl, rfl⟩ : off = 0 ∧ len = 0 := by simpa using g1
      simp only [segs, run, decide_true, List.append_nil]
      rw [step_seg_last h0 (by omega)]
    · obtain ⟨g6, g7, g8⟩ : 1 ≤ off ∧ off ≤ 65535 ∧ 4 ≤ len := by simpa [hre] using g1
      have hd : decide (r = []) = false := by simpa using hre
      simp only [segs, run, hd]
      rw [step_seg h0 g3 g6 g7 g2 g8]
      simp only
      rw [run_segs N r (size + lit.length + len) f hre hr2 (by omega) (by simp at hf; omega)]
theorem tl_isB (n : Int) : isB (tl n) := by
  unfold tl told
  split
  · intro x hx; simp at hx
  · intro x hx
    simp only [List.mem_append, List.mem_replicate, List.mem_singleton] at hx
    rcases hx with ⟨_, rfl⟩ | rfl
    · omega
    · have := Nat.mod_lt (n - 15).toNat (by decide : 255 > 0); omega
theorem seg_isB {s : Sq} {last : Bool} {size : Int} (hb : isB s.1) (hw : wrongP s last size = 0) (h0 : 0 ≤ size) : isB (seg s last) := by
  obtain ⟨g1, g2, g3, g4, g5⟩ := wrong_no hw h0
  have ht : isB [tok s last] := by
    intro x hx
    simp only [List.mem_singleton] at hx
    subst hx
    unfold tok
    rcases g1 with ⟨rfl, _, _⟩ | ⟨rfl, _, _, _⟩
    · simp; omega
    · simp; omega
  have hT : isB (segT s last) := by
    unfold segT
    rcases g1 with ⟨rfl, _, _⟩ | ⟨rfl, h1, h2, h3⟩
    · simp [isB]
    · simp only [Bool.false_eq_true, if_false]
      refine isB_append ?_ (tl_isB _)
      intro x hx
      simp only [List.mem_cons, List.mem_nil_iff, or_false] at hx
      rcases hx with rfl | rfl <;> omega
  unfold seg
  exact isB_append (isB_append (isB_append ht (tl_isB _)) hb) hT
theorem segs_isB : ∀ (l : List Sq) (size : Int), (∀ s ∈ l, isB s.1) → RightL size l → 0 ≤ size → isB (segs l)
  | [], _, _, _, _ => by simp [segs, isB]
  | s :: r, size, hb, hr, h0 => by
    have hw := wrong_no hr.1 h0
    exact isB_append (seg_isB (hb s (by simp)) hr.1 h0) (segs_isB r _ (fun t ht => hb t (by simp [ht])) hr.2 (by omega))
end Go.Proofs.Ytpdggoapjbjmhaa.Lz
