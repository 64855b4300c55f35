/- Deltas out of bytes: the document's Decode, as printed, comes to the same: plain. -/
import Derived.Test.YtogplkochcalpaaPDf
import Derived.Test.YtogplkochcalpaaDp1
import Derived.Test.YtogplkochcalpaaDC
set_option linter.unusedVariables false
set_option linter.unusedSimpArgs false
namespace Go.Proofs.Ytogplkochcalpaa.De
open Go.RowKit Go.Proofs.Ytogplkochcalpaa.PD Go.Proofs.Ytogplkochcalpaa.Fd Go.Proofs.Ytogplkochcalpaa.Bg Go.Proofs.YtogplkochcalpaaW.PrintWords Go.Proofs.YtogplkochcalpaaW.PrintLast Go.Proofs.YtogplkochcalpaaW.PrintMore
def z6 : Int × Int × Int × Int × List S37 × Int := (0, 0, 0, 0, [], 6)
def tup (r : Dl × Int) : Int × Int × Int × Int × List S37 × Int := (r.1.a, r.1.b, r.1.c, r.1.d, r.1.l, r.2)
theorem rd_x {l : List Int} {p k : Nat} (h : p + 4 + k + 4 ≤ l.length) : rdN (inner l) p k = rdN l (p + 4) k := by
  unfold rdN inner
  congr 1
  rw [List.drop_drop, List.drop_take, List.take_take, Nat.min_eq_left (by omega), Nat.add_comm 4 p]
theorem sl_x {l : List Int} {p k : Nat} (h : p + 4 + k + 4 ≤ l.length) : ((inner l).drop p).take k = (l.take (p + 4 + k)).drop (p + 4) := by
  unfold inner
  rw [List.drop_drop, List.drop_take, List.take_take, Nat.min_eq_left (by omega), List.drop_take, Nat.add_comm 4 p, show p + 4 + k - (p + 4) = k by omega]
theorem rd_one {l : List Int} (hl : ∀ x ∈ l, 0 ≤ x ∧ x < 256) {q : Nat} (h : q < l.length) : rd l (q : Int) = ((rdN l q 1 : Nat) : Int) := by
  have hx := hl l[q] (List.getElem_mem _)
  unfold rd rdN
  rw [Int.toNat_natCast, List.getD_eq_getElem?_getD, List.getElem?_eq_getElem h, List.drop_eq_getElem_cons h, List.take_succ_cons, List.take_zero]
  show l[q] = ((l[q].toNat + 256 * 0 : Nat) : Int)
  omega
def badO (o : S37) : Prop := o.f1 = 0 ∧ o.f2.length = 0
theorem bad_no {a : Int} {l : List S37} {x : Int} (h : ∃ o ∈ l, badO o) : rightL a x l = false := by
  obtain ⟨o, ho, hb⟩ := h
  cases hr : rightL a x l with
  | false => rfl
  | true =>
    have h1 := (rightO_z hb.1).1 (right_mem hr ho).1
    have := hb.2
    omega
theorem next_bad {s : RS} {l : List Int} {k : Nat} (h : s.bad = true) : (s.next l k).bad = true := by unfold RS.next; rw [if_pos h]; exact h
theorem next_out {l : List Int} {p k : Nat} (h : ¬ p + k ≤ l.length) : ((⟨p, false⟩ : RS).next l k).bad = true := by unfold RS.next; rw [if_neg (by simp), if_neg h]
set_option maxHeartbeats 1000000 in
theorem step_f (l : List Int) (hl : ∀ x ∈ l, 0 ≤ x ∧ x < 256) (hm : l.length ≤ 2000000) (n : Nat) (hn : n + 4 = l.length) (h28 : 28 ≤ n) (a b c d : Int) (p k : Nat) (acc : List S37) (hp : p < (inner l).length) (ha : acc.length ≤ p) (hk : 12 ≤ k) :
    (portmanteauref30_Decode.l0 (k + 3) l (n : Int) ((p + 4 : Nat) : Int) a b c d acc = some z6 ∧ ¬ ((opP (inner l) ⟨p, false⟩).2.1 = true ∧ (opP (inner l) ⟨p, false⟩).2.2.bad = false)) ∨
    (∃ k', k ≤ k' ∧ portmanteauref30_Decode.l0 (k + 3) l (n : Int) ((p + 4 : Nat) : Int) a b c d acc = portmanteauref30_Decode.l0 k' l (n : Int) (((opP (inner l) ⟨p, false⟩).2.2.at_ + 4 : Nat) : Int) a b c d (acc ++ [(opP (inner l) ⟨p, false⟩).1]) ∧ (opP (inner l) ⟨p, false⟩).2.2.bad = false ∧ p < (opP (inner l) ⟨p, false⟩).2.2.at_ ∧ (opP (inner l) ⟨p, false⟩).2.2.at_ ≤ (inner l).length ∧ ((opP (inner l) ⟨p, false⟩).2.1 = false → badO (opP (inner l) ⟨p, false⟩).1)) := by
  have hil : (inner l).length = n - 4 := by rw [inner_len (by omega)]; omega
  have hib := inner_isB hl
  have w4 : ∀ q : Nat, q ≤ 8000000 → wrap64 (q : Int) = q := fun q hq => wrap_in (by omega)
  have j3no : ∀ q, portmanteauref30_Decode.j3 (q + 1) l (n : Int) ((p + 4 : Nat) : Int) true a b c d acc = some z6 := fun q => by rw [portmanteauref30_Decode.j3, if_pos rfl]; rfl
  have hrd := rd_one hl (q := p + 4) (by omega)
  have hv : val ((⟨p, false⟩ : RS).tk (inner l) 1) = rdN l (p + 4) 1 := by rw [val_in (by omega), rd_x (by omega)]
  obtain ⟨t, ht⟩ : ∃ t, t = rdN l (p + 4) 1 := ⟨_, rfl⟩
  rw [← ht] at hrd hv
  have Khrd := Aside0.mk hrd
  have Khv := Aside0.mk hv
  clear ht hrd hv
  rw [portmanteauref30_Decode.l0]
  rw [if_pos (by omega), if_pos (by omega), if_pos (by omega), Khrd.out]
  by_cases t0 : t = 0
  · rw [if_pos (by omega)]
    have hop : opP (inner l) ⟨p, false⟩ = (⟨val (((⟨p, false⟩ : RS).next (inner l) 1).tk (inner l) 4), val ((((⟨p, false⟩ : RS).next (inner l) 1).next (inner l) 4).tk (inner l) 4), []⟩, decide (0 < val ((((⟨p, false⟩ : RS).next (inner l) 1).next (inner l) 4).tk (inner l) 4)), (((⟨p, false⟩ : RS).next (inner l) 1).next (inner l) 4).next (inner l) 4) := by unfold opP; rw [Khv.out, if_pos t0]
    rw [hop]
    clear hop
    by_cases h9 : p + 9 ≤ (inner l).length
    · right
      have e9 : Aside0 (wrap64 (((p + 4 : Nat) : Int) + 9) = ((p + 13 : Nat) : Int)) := ⟨by rw [show ((p + 4 : Nat) : Int) + 9 = ((p + 13 : Nat) : Int) by omega, w4 _ (by omega)]⟩
      have e1 : Aside0 (wrap64 (((p + 4 : Nat) : Int) + 1) = ((p + 5 : Nat) : Int)) := ⟨by rw [show ((p + 4 : Nat) : Int) + 1 = ((p + 5 : Nat) : Int) by omega, w4 _ (by omega)]⟩
      have e5 : Aside0 (wrap64 (((p + 4 : Nat) : Int) + 5) = ((p + 9 : Nat) : Int)) := ⟨by rw [show ((p + 4 : Nat) : Int) + 5 = ((p + 9 : Nat) : Int) by omega, w4 _ (by omega)]⟩
      have f1 : portmanteauref01_Load.f (k + 1) l ((p + 5 : Nat) : Int) 4 = some ((rdN l (p + 5) 4 : Nat) : Int) := load_f l hl (p + 5) 4 (by decide) (by omega) (by omega) (k + 1) (by omega)
      have f2 : portmanteauref01_Load.f (k + 1) l ((p + 9 : Nat) : Int) 4 = some ((rdN l (p + 9) 4 : Nat) : Int) := load_f l hl (p + 9) 4 (by decide) (by omega) (by omega) (k + 1) (by omega)
      rw [next_in (by omega), next_in (by omega), val_in (by omega), val_in (by omega), next_in (by omega)]
      rw [show rdN (inner l) (p + 1) 4 = rdN l (p + 5) 4 from rd_x (by omega), show rdN (inner l) (p + 1 + 4) 4 = rdN l (p + 9) 4 from rd_x (by omega)]
      have r1 := rd32 hl (p + 5) (by omega)
      have r2 := rd32 hl (p + 9) (by omega)
      obtain ⟨n1, hn1⟩ : ∃ n1, n1 = rdN l (p + 5) 4 := ⟨_, rfl⟩
      obtain ⟨n2, hn2⟩ : ∃ n2, n2 = rdN l (p + 9) 4 := ⟨_, rfl⟩
      rw [← hn1] at f1 r1 ⊢
      rw [← hn2] at f2 r2 ⊢
      clear hn1 hn2 hib hl
      dsimp only
      have eT : p + 1 + 4 + 4 = p + 9 := by omega
      have eU : p + 9 + 4 = p + 13 := by omega
      rw [eT, eU]
      refine ⟨k + 1, Nat.le_succ k, ?_, rfl, by omega, by omega, fun h => ⟨?_, rfl⟩⟩
      · rw [e9.out, show decide (((p + 13 : Nat) : Int) ≤ (n : Int)) = true from decide_eq_true (by omega), portmanteauref30_Decode.j2, if_pos rfl, e1.out, e5.out, e9.out]
        rw [f1, Option.bind_some, f2, Option.bind_some, if_pos (by omega), wrap_in (n := (n1 : Int)) (by omega), wrap_in (n := (n2 : Int)) (by omega)]
      · show (n2 : Int) = 0
        have := of_decide_eq_false h
        omega
    · left
      have e9 : Aside0 (wrap64 (((p + 4 : Nat) : Int) + 9) = ((p + 13 : Nat) : Int)) := ⟨by rw [show ((p + 4 : Nat) : Int) + 9 = ((p + 13 : Nat) : Int) by omega, w4 _ (by omega)]⟩
      refine ⟨?_, fun h => ?_⟩
      · rw [e9.out, show decide (((p + 13 : Nat) : Int) ≤ (n : Int)) = false from decide_eq_false (by omega), portmanteauref30_Decode.j2, if_neg (by simp), if_pos (by omega), if_pos (by omega), Khrd.out, if_neg (by omega), j3no]
      · obtain ⟨-, h⟩ := h
        obtain ⟨g1, g2, g3⟩ := next_good h
        obtain ⟨g4, g5, g6⟩ := next_good g1
        obtain ⟨g7, g8, g9⟩ := next_good g4
        simp only at g8 g9
        omega
  · rw [if_neg (by omega)]
    rw [portmanteauref30_Decode.j2, if_neg (by simp), if_pos (by omega), if_pos (by omega), Khrd.out]
    by_cases t1 : t = 1
    · rw [if_pos (by omega)]
      have hop : opP (inner l) ⟨p, false⟩ = (⟨0, 0, (((⟨p, false⟩ : RS).next (inner l) 1).next (inner l) 4).tk (inner l) (val (((⟨p, false⟩ : RS).next (inner l) 1).tk (inner l) 4))⟩, decide (0 < ((((⟨p, false⟩ : RS).next (inner l) 1).next (inner l) 4).tk (inner l) (val (((⟨p, false⟩ : RS).next (inner l) 1).tk (inner l) 4))).length), (((⟨p, false⟩ : RS).next (inner l) 1).next (inner l) 4).next (inner l) (val (((⟨p, false⟩ : RS).next (inner l) 1).tk (inner l) 4))) := by unfold opP; rw [Khv.out, if_neg t0, if_pos t1]
      rw [hop]
      clear hop
      have e1 : Aside0 (wrap64 (((p + 4 : Nat) : Int) + 1) = ((p + 5 : Nat) : Int)) := ⟨by rw [show ((p + 4 : Nat) : Int) + 1 = ((p + 5 : Nat) : Int) by omega, w4 _ (by omega)]⟩
      have e5 : Aside0 (wrap64 (((p + 4 : Nat) : Int) + 5) = ((p + 9 : Nat) : Int)) := ⟨by rw [show ((p + 4 : Nat) : Int) + 5 = ((p + 9 : Nat) : Int) by omega, w4 _ (by omega)]⟩
      by_cases h5 : p + 5 ≤ (inner l).length
      · have f1 : portmanteauref01_Load.f k l ((p + 5 : Nat) : Int) 4 = some ((rdN l (p + 5) 4 : Nat) : Int) := load_f l hl (p + 5) 4 (by decide) (by omega) (by omega) k (by omega)
        rw [next_in (by omega), next_in (by omega), val_in (by omega)]
        rw [show rdN (inner l) (p + 1) 4 = rdN l (p + 5) 4 from rd_x (by omega)]
        have r1 := rd32 hl (p + 5) (by omega)
        obtain ⟨q, hq⟩ : ∃ q, q = rdN l (p + 5) 4 := ⟨_, rfl⟩
        rw [← hq] at f1 r1 ⊢
        clear hq
        have ej : portmanteauref30_Decode.j3 (k + 1) l (n : Int) ((p + 4 : Nat) : Int) (decide ((wrap64 (((p + 4 : Nat) : Int) + 5)) > (n : Int))) a b c d acc = portmanteauref30_Decode.j3 (k + 1) l (n : Int) ((p + 4 : Nat) : Int) false a b c d acc := by rw [e5.out, show decide (((p + 9 : Nat) : Int) > (n : Int)) = false from decide_eq_false (by omega)]
        rw [ej, portmanteauref30_Decode.j3, if_neg (by simp), e1.out, f1, Option.bind_some, wrap_in (n := (q : Int)) (by omega), wrap_in (n := (n : Int) - ((p + 4 : Nat) : Int)) (by omega), wrap_in (n := (n : Int) - ((p + 4 : Nat) : Int) - 5) (by omega)]
        by_cases hq2 : (q : Int) > (n : Int) - ((p + 4 : Nat) : Int) - 5
        · left
          rw [if_pos hq2]
          refine ⟨rfl, fun h => ?_⟩
          obtain ⟨-, h⟩ := h
          obtain ⟨g1, g2, g3⟩ := next_good h
          simp only at g3
          omega
        · right
          have e6 : Aside0 (wrap64 (((p + 9 : Nat) : Int) + (q : Int)) = ((p + 9 + q : Nat) : Int)) := ⟨by rw [show ((p + 9 : Nat) : Int) + (q : Int) = ((p + 9 + q : Nat) : Int) by omega, w4 _ (by omega)]⟩
          have hsl := sl_x (l := l) (p := p + 5) (k := q) (by omega)
          rw [next_in (by omega), tk_in (by omega)]
          dsimp only
          have eT : p + 1 + 4 + q = p + 5 + q := by omega
          have eU : p + 5 + q + 4 = p + 9 + q := by omega
          rw [eT, eU]
          refine ⟨k, Nat.le_refl _, ?_, rfl, by omega, by omega, fun h => ⟨rfl, ?_⟩⟩
          · rw [if_neg hq2, e5.out, e6.out, if_pos (by omega), if_pos (by omega), if_pos (by omega), if_pos (by omega), Int.toNat_natCast, Int.toNat_natCast, hsl, show p + 5 + 4 + q = p + 9 + q by omega]
          · have := of_decide_eq_false h
            show (List.take q (List.drop (p + 1 + 4) (inner l))).length = 0
            omega
      · left
        have ej : portmanteauref30_Decode.j3 (k + 1) l (n : Int) ((p + 4 : Nat) : Int) (decide ((wrap64 (((p + 4 : Nat) : Int) + 5)) > (n : Int))) a b c d acc = some z6 := by rw [e5.out, show decide (((p + 9 : Nat) : Int) > (n : Int)) = true from decide_eq_true (by omega), j3no]
        refine ⟨ej, fun h => ?_⟩
        obtain ⟨-, h⟩ := h
        obtain ⟨g1, g2, g3⟩ := next_good h
        obtain ⟨g4, g5, g6⟩ := next_good g1
        obtain ⟨g7, g8, g9⟩ := next_good g4
        simp only at g8 g9
        omega
    · left
      rw [if_neg (by omega), j3no]
      refine ⟨rfl, fun h => ?_⟩
      have : (opP (inner l) ⟨p, false⟩).2.1 = false := by unfold opP; rw [Khv.out, if_neg t0, if_neg t1]
      rw [this] at h
      cases h.1
theorem end_f (l : List Int) (hm : l.length ≤ 2000000) (n : Nat) (a b c d : Int) (p k : Nat) (acc : List S37) (hp : ¬ p + 4 < n) (ha : acc.length ≤ 2000000) (hw : ∀ o ∈ acc, WfO o) (hk : 6000003 ≤ k) :
    portmanteauref30_Decode.l0 (k + 1) l (n : Int) ((p + 4 : Nat) : Int) a b c d acc = some (if rightD ⟨a, b, c, d, acc⟩ = true then (a, b, c, d, acc, 0) else z6) := by
  have h := rright_f ⟨a, b, c, d, acc⟩ k (by show 3 * acc.length + 3 ≤ k; omega) hw (by show acc.length ≤ 8388608; omega)
  have h2 : portmanteauref30_Right.f k a b c d acc = some (rightD ⟨a, b, c, d, acc⟩) := h
  rw [portmanteauref30_Decode.l0, if_neg (by omega), h2, Option.bind_some]
  by_cases r : rightD ⟨a, b, c, d, acc⟩ = true
  · rw [if_pos r, if_pos r]
  · rw [if_neg r, if_neg r]; rfl
theorem state_eq {s : RS} (h : s.bad = false) : s = ⟨s.at_, false⟩ := by cases s; simp_all
section
variable (l : List Int) (hl : ∀ x ∈ l, 0 ≤ x ∧ x < 256) (hm : l.length ≤ 2000000) (n : Nat) (hn : n + 4 = l.length) (h28 : 28 ≤ n) (a b c d : Int)
include hl hm hn h28
theorem bad_l0 : ∀ (m p k : Nat) (acc : List S37), (inner l).length - p ≤ m → p ≤ (inner l).length → acc.length ≤ p → (∀ o ∈ acc, WfO o) → (∃ o ∈ acc, badO o) → 3 * m + 7000000 ≤ k → portmanteauref30_Decode.l0 k l (n : Int) ((p + 4 : Nat) : Int) a b c d acc = some z6 := by
  have hil : (inner l).length = n - 4 := by rw [inner_len (by omega)]; omega
  intro m
  induction m with
  | zero =>
    intro p k acc h1 h2 h3 hw hb hk
    obtain ⟨k, rfl⟩ : ∃ q, k = q + 1 := ⟨k - 1, by omega⟩
    rw [end_f l hm n a b c d p k acc (by omega) (by omega) hw (by omega), if_neg]
    intro h
    have := (right_parts h).2.2.2.2.2
    rw [bad_no hb] at this
    cases this
  | succ m ih =>
    intro p k acc h1 h2 h3 hw hb hk
    by_cases hp : p < (inner l).length
    · obtain ⟨k, rfl⟩ : ∃ q, k = q + 3 := ⟨k - 3, by omega⟩
      rcases step_f l hl hm n hn h28 a b c d p k acc hp h3 (by omega) with ⟨e, -⟩ | ⟨k', hk', e, g1, g2, g3, g4⟩
      · exact e
      · rw [e]
        refine ih _ k' _ (by omega) g3 (by rw [List.length_append, List.length_singleton]; omega) (fun o ho => ?_) ?_ (by omega)
        · rcases List.mem_append.1 ho with ho | ho
          · exact hw o ho
          · rw [List.mem_singleton.1 ho]; exact op_wf (inner_isB hl) (by omega)
        · obtain ⟨o, h4, h5⟩ := hb
          exact ⟨o, List.mem_append_left _ h4, h5⟩
    · obtain ⟨k, rfl⟩ : ∃ q, k = q + 1 := ⟨k - 1, by omega⟩
      rw [end_f l hm n a b c d p k acc (by omega) (by omega) hw (by omega), if_neg]
      intro h
      have := (right_parts h).2.2.2.2.2
      rw [bad_no hb] at this
      cases this
theorem main_l0 (hh : ∀ ops, headD (inner l) ops = ⟨a, b, c, d, ops⟩) : ∀ (m p k f : Nat) (acc : List S37), (inner l).length - p ≤ m → m < f → p ≤ (inner l).length → acc.length ≤ p → (∀ o ∈ acc, WfO o) → 3 * m + 7000000 ≤ k → portmanteauref30_Decode.l0 k l (n : Int) ((p + 4 : Nat) : Int) a b c d acc = some (tup (finD (inner l) (parse (inner l) f ⟨p, false⟩ acc))) := by
  have hil : (inner l).length = n - 4 := by rw [inner_len (by omega)]; omega
  have fin : ∀ (p k f : Nat) (acc : List S37), ¬ p < (inner l).length → acc.length ≤ p → p ≤ (inner l).length → (∀ o ∈ acc, WfO o) → 7000000 ≤ k → portmanteauref30_Decode.l0 k l (n : Int) ((p + 4 : Nat) : Int) a b c d acc = some (tup (finD (inner l) (parse (inner l) (f + 1) ⟨p, false⟩ acc))) := by
    intro p k f acc h1 h3 h2 hw hk
    obtain ⟨k, rfl⟩ : ∃ q, k = q + 1 := ⟨k - 1, by omega⟩
    have e : parse (inner l) (f + 1) ⟨p, false⟩ acc = some acc := by rw [parse, if_pos (by show (inner l).length ≤ p; omega)]
    rw [end_f l hm n a b c d p k acc (by omega) (by omega) hw (by omega), e, finD, hh]
    by_cases r : rightD ⟨a, b, c, d, acc⟩ = true
    · rw [if_pos r, if_pos r]; rfl
    · rw [if_neg r, if_neg r]; rfl
  intro m
  induction m with
  | zero =>
    intro p k f acc h1 hf h2 h3 hw hk
    obtain ⟨f, rfl⟩ : ∃ q, f = q + 1 := ⟨f - 1, by omega⟩
    exact fin p k f acc (by omega) h3 h2 hw (by omega)
  | succ m ih =>
    intro p k f acc h1 hf h2 h3 hw hk
    obtain ⟨f, rfl⟩ : ∃ q, f = q + 1 := ⟨f - 1, by omega⟩
    by_cases hp : p < (inner l).length
    · obtain ⟨k, rfl⟩ : ∃ q, k = q + 3 := ⟨k - 3, by omega⟩
      rcases step_f l hl hm n hn h28 a b c d p k acc hp h3 (by omega) with ⟨e, g⟩ | ⟨k', hk', e, g1, g2, g3, g4⟩
      · rw [e, parse, if_neg (by show ¬ (inner l).length ≤ p; omega), if_neg g]; rfl
      · rw [e, parse, if_neg (by show ¬ (inner l).length ≤ p; omega)]
        have hw2 : ∀ o ∈ acc ++ [(opP (inner l) ⟨p, false⟩).1], WfO o := fun o ho => by
          rcases List.mem_append.1 ho with ho | ho
          · exact hw o ho
          · rw [List.mem_singleton.1 ho]; exact op_wf (inner_isB hl) (by omega)
        cases hok : (opP (inner l) ⟨p, false⟩).2.1 with
        | true =>
          rw [if_pos ⟨rfl, g1⟩, ih _ k' f _ (by omega) (by omega) g3 (by rw [List.length_append, List.length_singleton]; omega) hw2 (by omega), ← state_eq g1]
        | false =>
          rw [if_neg (fun h => by cases h.1), bad_l0 l hl hm n hn h28 a b c d m _ k' _ (by omega) g3 (by rw [List.length_append, List.length_singleton]; omega) hw2 ⟨_, List.mem_append_right _ (List.mem_singleton.2 rfl), g4 hok⟩ (by omega)]
          rfl
    · exact fin p k f acc hp h3 h2 hw (by omega)
end
theorem rdecode_f (l : List Int) (hl : ∀ x ∈ l, 0 ≤ x ∧ x < 256) (hm : l.length ≤ 2000000) (k : Nat) (hk : 20000000 ≤ k) : portmanteauref30_Decode.f k l = some (tup (decP l)) := by
  have j0no : ∀ q x4, portmanteauref30_Decode.j0 (q + 1) l x4 true = some z6 := fun q x4 => by rw [portmanteauref30_Decode.j0, if_pos rfl]; rfl
  obtain ⟨k, rfl⟩ : ∃ q, k = q + 1 := ⟨k - 1, by omega⟩
  unfold portmanteauref30_Decode.f decP
  rw [wrap_in (n := (l.length : Int) - 4) (by omega)]
  by_cases h : l.length < 32
  · rw [if_pos (by omega), j0no, if_pos (Or.inl h)]; rfl
  rw [if_neg (by omega), if_pos (by omega), bne, magic_eq (l.take 4) (fun x hx => hl x (List.mem_of_mem_take hx))]
  by_cases hM : l.take 4 = [80, 77, 68, 49]
  · rw [decide_eq_true hM, if_neg (fun h1 => h1.elim h (fun h2 => h2 hM))]
    obtain ⟨n, hn⟩ : ∃ n, n + 4 = l.length := ⟨l.length - 4, by omega⟩
    have e4 : (l.length : Int) - 4 = (n : Int) := by omega
    have e5 : l.length - 4 = n := by omega
    have h28 : 28 ≤ n := by omega
    have hil : (inner l).length = n - 4 := by rw [inner_len (by omega)]; omega
    have f1 : portmanteauref01_Load.f k l (n : Int) 4 = some ((rdN l n 4 : Nat) : Int) := load_f l hl n 4 (by decide) (by omega) (by omega) k (by omega)
    have f2 : portmanteauref01_Load.f k l 4 4 = some ((rdN l 4 4 : Nat) : Int) := load_f l hl 4 4 (by decide) (by omega) (by omega) k (by omega)
    have f3 : portmanteauref01_Load.f k l 8 4 = some ((rdN l 8 4 : Nat) : Int) := load_f l hl 8 4 (by decide) (by omega) (by omega) k (by omega)
    have f4 : portmanteauref01_Load.f k l 12 8 = some ((rdN l 12 8 : Nat) : Int) := load_f l hl 12 8 (by decide) (by omega) (by omega) k (by omega)
    have f5 : portmanteauref01_Load.f k l 20 8 = some ((rdN l 20 8 : Nat) : Int) := load_f l hl 20 8 (by decide) (by omega) (by omega) k (by omega)
    have f6 : portmanteauref02_Crc.f k 0 (l.take n) = some ((Sum.crc 0 (l.take n) : Nat) : Int) := crc_f (l.take n) (fun x hx => hl x (List.mem_of_mem_take hx)) (by rw [List.length_take]; omega) k (by rw [List.length_take]; omega)
    rw [e4, e5, portmanteauref30_Decode.j0, if_neg (by decide), f1, Option.bind_some, if_pos (by omega), if_pos (by omega), Int.toNat_natCast, f6, Option.bind_some, f2, Option.bind_some, f3, Option.bind_some, f4, Option.bind_some, f5, Option.bind_some]
    have hcb := crc_lt (l.take n)
    have hr4 := rd32 hl 4 (by omega)
    have hr8 := rd32 hl 8 (by omega)
    have hx1 : rdN (inner l) 0 4 = rdN l 4 4 := rd_x (by omega)
    have hx2 : rdN (inner l) 4 4 = rdN l 8 4 := rd_x (by omega)
    have hx3 : rdN (inner l) 8 8 = rdN l 12 8 := rd_x (by omega)
    have hx4 : rdN (inner l) 16 8 = rdN l 20 8 := rd_x (by omega)
    have hh : ∀ ops, headD (inner l) ops = ⟨rdN l 4 4, rdN l 8 4, rdN l 12 8, rdN l 20 8, ops⟩ := fun ops => by unfold headD; rw [hx1, hx2, hx3, hx4]
    clear hx1 hx2 hx3 hx4 f1 f2 f3 f4 f5 f6
    obtain ⟨x, hx⟩ : ∃ x, x = Sum.crc 0 (l.take n) := ⟨_, rfl⟩
    obtain ⟨y, hy⟩ : ∃ y, y = rdN l n 4 := ⟨_, rfl⟩
    obtain ⟨n0, hn0⟩ : ∃ y, y = rdN l 4 4 := ⟨_, rfl⟩
    obtain ⟨n1, hn1⟩ : ∃ y, y = rdN l 8 4 := ⟨_, rfl⟩
    rw [← hn0] at hr4 hh ⊢
    rw [← hn1] at hr8 hh ⊢
    rw [← hx] at hcb ⊢
    rw [← hy]
    clear hx hy hn0 hn1
    rw [u64_small (x : Int) (by omega) (by omega)]
    by_cases hS : y = x
    · rw [if_pos (by rw [hS]), if_neg (fun h => h hS), wrap_in (n := (n0 : Int)) (by omega), wrap_in (n := (n1 : Int)) (by omega)]
      exact main_l0 l hl hm n hn h28 _ _ _ _ hh (inner l).length 24 k _ [] (by omega) (Nat.lt_succ_self _) (by omega) (by simp) (by simp) (by omega)
    · rw [if_neg (fun h => hS (by omega)), if_pos hS]; rfl
  · rw [decide_eq_false hM, if_pos (Or.inr hM)]
    exact j0no k _
/-- The document's Decode of any bytes. -/
theorem rdecode_any (w : World) (l : List Int) (A : Option Addr) (c : Nat) (hC : Kd.C (Kd.int .u8) w A l.length l) (hl : ∀ x ∈ l, 0 ≤ x ∧ x < 256) (hm : l.length ≤ 2000000) (hc : l.length ≤ c) : Calls Try.prog 26 #[.slice A l.length c] w fun e w' => ∃ B cb, e = .returned (.tuple #[.agg #[.int .i64 (decP l).1.a, .int .i64 (decP l).1.b, .int .u64 (decP l).1.c, .int .u64 (decP l).1.d, .slice B (decP l).1.l.length cb], .int .i64 (decP l).2]) ∧ Kd.C k37 w' B (decP l).1.l.length (decP l).1.l ∧ (decP l).1.l.length ≤ cb ∧ Below w.heap.size w w' := by
  obtain ⟨k, hk⟩ : ∃ k : Nat, 20000000 ≤ k := ⟨_, Nat.le_refl _⟩
  refine (portmanteauref30_Decode.calls k (fun k => k < w.heap.size) A c l _ _ _ _ _ _ w (Kd.V_mk hc (Kd.C_F (Kd.heap_int _) hC)) (rdecode_f l hl hm k hk)).mono fun e w' h => ?_
  obtain ⟨v, he, hN, hb⟩ := h
  obtain ⟨B, cb, rfl, h1, h2⟩ := N_C hN
  exact ⟨B, cb, he, h2, h1, hb⟩
end Go.Proofs.Ytogplkochcalpaa.De
