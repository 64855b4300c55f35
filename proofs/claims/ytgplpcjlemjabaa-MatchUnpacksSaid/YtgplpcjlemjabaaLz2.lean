/- Blocks are unpacked: the next sequence. -/
import Derived.Test.YtgplpcjlemjabaaLz1
import Derived.Lib.QuoteBits
set_option linter.unusedVariables false
set_option linter.unusedSimpArgs false
namespace Go.Proofs.Ytgplpcjlemjabaa.Lz
open Go.RowKit Go.Proofs.YtgplpcjlemjabaaW.PrintWords Go.Proofs.YtgplpcjlemjabaaW.PrintLast Go.Proofs.YtgplpcjlemjabaaW.PrintMore
theorem seqSize : (Try.prog.info? 67).map (·.size) = some 3 := by kernel_rfl
/-- The reader, the sequence's variable, the rest of the world. -/
def SN (w0 w : World) (base g sb : Nat) (A : Option Addr) (N c : Nat) (most : Int) (wr : World) (at_ size err bad : Int) (sl : Value) (so sn : Int) : Prop :=
  RD wr g A N c at_ size most err bad ∧ wr.heap[sb]? = some (.cells #[sl, .int .i64 so, .int .i64 sn] 67 (0, 0)) ∧ Below base w0 wr ∧ w.heap.size ≤ wr.heap.size ∧ ∀ k, k ≠ g → k < w.heap.size → wr.heap[k]? = w.heap[k]?
section
variable {w0 w wr w1 : World} {base g sb : Nat} {A : Option Addr} {N c : Nat} {most at_ size err bad : Int} {sl : Value} {so sn : Int}
theorem SN_row (h : SN w0 w base g sb A N c most wr at_ size err bad sl so sn) : wr.heap[sb]? = some (.cells #[sl, .int .i64 so, .int .i64 sn] 67 (0, 0)) := h.2.1
theorem SN_rd (h : SN w0 w base g sb A N c most wr at_ size err bad sl so sn) : RD wr g A N c at_ size most err bad := h.1
theorem SN_base (h : SN w0 w base g sb A N c most wr at_ size err bad sl so sn) : Below base w0 wr := h.2.2.1
theorem SN_drewN (h : SN w0 w base g sb A N c most wr at_ size err bad sl so sn) (q : Nat) : SN w0 w base g sb A N c most (wr.drewN q) at_ size err bad sl so sn :=
  ⟨h.1, h.2.1, pw_below_drewN h.2.2.1 q, h.2.2.2.1, h.2.2.2.2⟩
theorem SN_drew (h : SN w0 w base g sb A N c most wr at_ size err bad sl so sn) : SN w0 w base g sb A N c most wr.drew at_ size err bad sl so sn :=
  ⟨h.1, h.2.1, h.2.2.1.drew, h.2.2.2.1, h.2.2.2.2⟩
theorem SN_call (h : SN w0 w base g sb A N c most wr at_ size err bad sl so sn) (hg : base ≤ g) (hsb : sb ≠ g) {at2 size2 err2 bad2 : Int} (hR : RD w1 g A N c at2 size2 most err2 bad2) (hO : Only wr w1 g) : SN w0 w base g sb A N c most w1 at2 size2 err2 bad2 sl so sn :=
  ⟨hR, (hO.2.2 sb hsb).trans h.2.1, hO.below h.2.2.1 hg, by rw [hO.2.1]; exact h.2.2.2.1, fun k hk hlt => (hO.2.2 k hk).trans (h.2.2.2.2 k hk hlt)⟩
theorem SN_set (h : SN w0 w base g sb A N c most wr at_ size err bad sl so sn) (hg : base ≤ g) (hsb : sb ≠ g) (j : Nat) (v : Int) {at2 size2 : Int} (hv : #[.slice A N c, .int .i64 at2, .int .i64 size2, .int .i64 most, .int .i64 err, .int .i64 bad] = (#[.slice A N c, .int .i64 at_, .int .i64 size, .int .i64 most, .int .i64 err, .int .i64 bad] : Array Value).setIfInBounds j (.int .i64 v)) : SN w0 w base g sb A N c most (wr.setCell ⟨g, j, none⟩ (.int .i64 v)) at2 size2 err bad sl so sn := by
  refine SN_call h hg hsb ?_ ((Only.refl wr g).set j _)
  have h2 := blk_set h.1 j (.int .i64 v)
  rw [← hv] at h2
  exact h2
theorem SN_s (h : SN w0 w base g sb A N c most wr at_ size err bad sl so sn) (hsb : sb ≠ g) (hbs : base ≤ sb) (hws : w.heap.size ≤ sb) (j : Nat) (u : Value) {sl2 : Value} {so2 sn2 : Int} (hv : #[sl2, .int .i64 so2, .int .i64 sn2] = (#[sl, .int .i64 so, .int .i64 sn] : Array Value).setIfInBounds j u) : SN w0 w base g sb A N c most (wr.setCell ⟨sb, j, none⟩ u) at_ size err bad sl2 so2 sn2 := by
  refine ⟨(Below.heap_setCell _ _ _ _ (Ne.symm hsb)).trans h.1, ?_, h.2.2.1.setCell hbs _, by simp; exact h.2.2.2.1, fun k hk hlt => (Below.heap_setCell _ _ _ _ (by intro he; subst he; omega)).trans (h.2.2.2.2 k hk hlt)⟩
  have h2 := blk_set h.2.1 j u
  rw [← hv] at h2
  exact h2
theorem SN_cells (h : SN w0 w base g sb A N c most wr at_ size err bad sl so sn) : wr.cell? ⟨sb, 0, none⟩ = some sl ∧ wr.cell? ⟨sb, 1, none⟩ = some (.int .i64 so) ∧ wr.cell? ⟨sb, 2, none⟩ = some (.int .i64 sn) ∧ wr.frozen? ⟨sb, 0, none⟩ = false ∧ wr.frozen? ⟨sb, 1, none⟩ = false ∧ wr.frozen? ⟨sb, 2, none⟩ = false :=
  ⟨(cell_of_row _ _ _ _ _ _ h.2.1).trans rfl, (cell_of_row _ _ _ _ _ _ h.2.1).trans rfl, (cell_of_row _ _ _ _ _ _ h.2.1).trans rfl, blk_frozen h.2.1 0, blk_frozen h.2.1 1, blk_frozen h.2.1 2⟩
end
theorem drop_one {b : List Int} {ee : Nat} (he : ee ≤ b.length) (h : ¬ ee = b.length) (h2 : (b.length : Int) - (ee : Int) < 2) : ∃ x, b.drop ee = [x] := by
  have hl : ee < b.length := by omega
  refine ⟨b[ee], ?_⟩
  rw [drop_cons hl, List.drop_eq_nil_of_le (by omega)]
theorem drop_two {b : List Int} {ee : Nat} (hb : isB b) (he : ee ≤ b.length) (h2 : 2 ≤ (b.length : Int) - (ee : Int)) : ∃ x y, b.drop ee = x :: y :: b.drop (ee + 2) ∧ (0 ≤ x ∧ x < 256) ∧ (0 ≤ y ∧ y < 256) ∧ rd b (ee : Int) = x ∧ rd b ((ee + 1 : Nat) : Int) = y ∧ ee + 2 ≤ b.length ∧ ee < b.length ∧ ee + 1 < b.length := by
  have hl : ee < b.length := by omega
  have hl2 : ee + 1 < b.length := by omega
  refine ⟨b[ee], b[ee + 1], ?_, hb _ (List.getElem_mem hl), hb _ (List.getElem_mem hl2), rd_at hl, rd_at hl2, by omega, hl, hl2⟩
  rw [drop_cons hl, drop_cons hl2]
theorem or_nat (a b : Nat) (ha : a < 256) (hb : b < 256) : a ||| b * 256 = a + b * 256 := by
  have h := Nat.two_pow_add_eq_or_of_lt (i := 8) (b := a) (by omega) b
  rw [Nat.or_comm, Nat.mul_comm b 256]
  have e : (2 : Nat) ^ 8 = 256 := by decide
  rw [e] at h
  omega
theorem or_bytes (x y : Int) (hx : 0 ≤ x ∧ x < 256) (hy : 0 ≤ y ∧ y < 256) : bits BinOp.or IntKind.i64 (wrap64 x) (wrap64 (wrap64 y * 256)) = x + y * 256 := by
  obtain ⟨a, rfl⟩ := Int.eq_ofNat_of_zero_le hx.1
  obtain ⟨b, rfl⟩ := Int.eq_ofNat_of_zero_le hy.1
  rw [show wrap64 (b : Int) = b by unfold wrap64; omega, show wrap64 (a : Int) = a by unfold wrap64; omega, show wrap64 ((b : Int) * 256) = ((b * 256 : Nat) : Int) by unfold wrap64; omega]
  have hor : bits BinOp.or IntKind.i64 (a : Int) ((b * 256 : Nat) : Int) = ((a ||| b * 256 : Nat) : Int) := by
    show IntKind.i64.wrap ((BitVec.ofInt 64 (a : Int) ||| BitVec.ofInt 64 ((b * 256 : Nat) : Int)).toNat : Int) = _
    rw [BitVec.toNat_or, ofInt_u64 a (by omega), ofInt_u64 (b * 256) (by omega), or_nat a b (by omega) (by omega)]
    exact Go.Lib.wrap_i64_small _ (by omega)
  rw [hor, or_nat a b (by omega) (by omega)]
  omega
theorem off_bounds {x y : Int} (hx : 0 ≤ x ∧ x < 256) (hy : 0 ≤ y ∧ y < 256) : 0 ≤ x + y * 256 ∧ x + y * 256 < 65536 := by omega
theorem tail_range {b : List Int} {ee rl : Nat} {most size t n x y : Int} {lit : List Int} (h : x + y * 256 = 0 ∨ size + n < x + y * 256) (he : ee + 2 ≤ b.length) : tailS b.length most size t rl n lit (x :: y :: b.drop (ee + 2)) = .fail 9 ee := by
  simp only [tailS]
  rw [if_pos h, List.length_drop, show ((b.length : Int) - (((b.length - (ee + 2) : Nat) : Int) + 2)) = (ee : Int) by omega]
theorem and15 {t : Int} (ht : 0 ≤ t ∧ t < 256) : bits BinOp.and IntKind.i64 t 15 = t % 16 := by
  obtain ⟨a, rfl⟩ := Int.eq_ofNat_of_zero_le ht.1
  show IntKind.i64.wrap ((BitVec.ofInt 64 (a : Int) &&& BitVec.ofInt 64 ((15 : Nat) : Int)).toNat : Int) = _
  rw [BitVec.toNat_and, ofInt_u64 a (by omega), ofInt_u64 15 (by omega), show (15 : Nat) = 2 ^ 4 - 1 from rfl, Nat.and_two_pow_sub_one_eq_mod]
  rw [Go.Lib.wrap_i64_small _ (by omega)]
  omega
theorem big_m {N : Nat} (h : N ≤ 1000000) : (15 : Int) + 255 * (N : Int) ≤ 300000000 := by omega
theorem room_le {a b m : Int} (h : b ≤ m - a) : a + b ≤ m := by omega
theorem m4_le {m : Int} (h : m ≤ 300000000) : m + 4 ≤ 4000000000 := by omega
theorem tok_place {b : List Int} {a : Nat} (h : a < b.length) : ((b.length : Int) - (((b.drop (a + 1)).length : Int) + 1)) = (a : Int) := by
  rw [List.length_drop]
  omega
theorem mod16 (t : Int) : t % 16 ≤ 15 := by omega
theorem two_cast {a : Nat} : ((a + 2 : Nat) : Int) = (a : Int) + 2 := by omega
theorem tail_none {b : List Int} {rl : Nat} {most size t n x y : Int} {lit r3 : List Int} (h : ¬ (x + y * 256 = 0 ∨ size + n < x + y * 256)) (hL : lenH (t % 16) r3 = none) : tailS b.length most size t rl n lit (x :: y :: r3) = .fail 6 b.length := by
  simp only [tailS, hL]
  rw [if_neg h]
theorem tail_some {N : Nat} {rl : Nat} {most size t n x y m : Int} {lit r3 r4 : List Int} (h : ¬ (x + y * 256 = 0 ∨ size + n < x + y * 256)) (hL : lenH (t % 16) r3 = some (m, r4)) : tailS N most size t rl n lit (x :: y :: r3) = if most - (size + n) < m + 4 then .fail 2 ((N : Int) - (rl + 1)) else .seq lit (x + y * 256) (m + 4) r4 := by
  simp only [tailS, hL]
  rw [if_neg h]
theorem next_idx {N ee : Nat} (h : ee + 1 < N) (hN : N ≤ 1000000) : ∃ ef : Nat, wrap64 ((ee : Int) + 1) = (ef : Int) ∧ ef < N ∧ ef = ee + 1 := ⟨ee + 1, by unfold wrap64; omega, h, rfl⟩
theorem idx_lt {N ee : Nat} (h : ee + 2 ≤ N) : (ee : Int) < (N : Int) := by omega
theorem idx_lt2 {N ee : Nat} (h : ee + 2 ≤ N) : ((ee + 1 : Nat) : Int) < (N : Int) := by omega
theorem add_cast {a b e : Nat} (h : e = a + b) : (a : Int) + (b : Int) = (e : Int) := by omega
theorem slice_bounds {N at2 nn c : Nat} (c4 : (nn : Int) ≤ (N : Int) - (at2 : Int)) (hcap : N ≤ c) (hN : N ≤ 1000000) : ∃ ee : Nat, wrap64 ((at2 : Int) + (nn : Int)) = (ee : Int) ∧ at2 ≤ ee ∧ ee ≤ c ∧ ee - at2 = nn ∧ ee ≤ N ∧ ee = at2 + nn :=
  ⟨at2 + nn, by unfold wrap64; omega, by omega, by omega, by omega, by omega, rfl⟩
theorem lit_reads {w0 : World} {base at2 nn c c8 ee : Nat} {ad : Addr} {A8 : Option Addr} {b r1 : List Int} (hA : A8 = (if c = at2 then some ad else some (ad.add at2))) (hc8 : c8 = c - at2) (hr : r1 = b.drop at2) (h2 : at2 ≤ b.length) (hee : ee = at2 + nn) (he : ee ≤ b.length) (hcap : b.length ≤ c) (hC : ∀ w', Below base w0 w' → Kd.C (Kd.int .u8) w' (some ad) b.length b) :
    (r1.take nn).length = nn ∧ nn ≤ c8 ∧ ∀ w1, Below base w0 w1 → Kd.C (Kd.int .u8) w1 A8 (r1.take nn).length (r1.take nn) := by
  subst hr
  have hl : ((b.drop at2).take nn).length = nn := by simp; omega
  refine ⟨hl, by omega, fun w1 hB => ?_⟩
  have h := Kd.C_mid (lo := at2) (hi := at2 + nn) (c := c) (hC w1 hB) (by omega) (by omega) hcap
  have e : (b.take (at2 + nn)).drop at2 = (b.drop at2).take nn := by rw [List.drop_take, Nat.add_sub_cancel_left]
  rw [e] at h
  rw [hA]
  simpa [Kd.int, Kd.scalar] using h
/-- What next answers. -/
def NextPost (w0 w : World) (base g : Nat) (A : Option Addr) (b : List Int) (c : Nat) (most size bad : Int) (st : Step) (e : Ending) (w' : World) : Prop :=
  Below base w0 w' ∧ w.heap.size ≤ w'.heap.size ∧ (∀ k, k ≠ g → k < w.heap.size → w'.heap[k]? = w.heap[k]?) ∧ match st with
    | .fail er p => (∃ (A2 : Option Addr) (n2 c2 : Nat) (x y : Int), e = .returned (.tuple #[.agg #[.slice A2 n2 c2, .int .i64 x, .int .i64 y], .bool false])) ∧ ∃ at2 s2, RD w' g A b.length c at2 s2 most er p
    | .last lit => ∃ A2 c2, e = .returned (.tuple #[.agg #[.slice A2 lit.length c2, .int .i64 0, .int .i64 0], .bool true]) ∧ RD w' g A b.length c b.length (size + lit.length) most 0 bad ∧ (∀ w1, Below base w0 w1 → Kd.C (Kd.int .u8) w1 A2 lit.length lit) ∧ lit.length ≤ c2
    | .seq lit off len rest => ∃ A2 c2 at2, e = .returned (.tuple #[.agg #[.slice A2 lit.length c2, .int .i64 off, .int .i64 len], .bool true]) ∧ RD w' g A b.length c (at2 : Nat) (size + lit.length + len) most 0 bad ∧ rest = b.drop at2 ∧ at2 ≤ b.length ∧ (∀ w1, Below base w0 w1 → Kd.C (Kd.int .u8) w1 A2 lit.length lit) ∧ lit.length ≤ c2
theorem next_fail {w0 w w' : World} {base g sb : Nat} {A : Option Addr} {b : List Int} {c : Nat} {most size bad : Int} {st : Step} {at2 s2 er p : Int} {sl : Value} {so sn x y : Int} {A2 : Option Addr} {n2 c2 : Nat} (h : SN w0 w base g sb A b.length c most w' at2 s2 er p sl so sn) (hst : st = .fail er p) : NextPost w0 w base g A b c most size bad st (.returned (.tuple #[.agg #[.slice A2 n2 c2, .int .i64 x, .int .i64 y], .bool false])) w' := by
  subst hst
  exact ⟨h.2.2.1, h.2.2.2.1, h.2.2.2.2, ⟨A2, n2, c2, x, y, rfl⟩, at2, s2, h.1⟩
theorem next_last {w0 w w' : World} {base g sb nn ee c8 : Nat} {A A8 : Option Addr} {b r1 : List Int} {c : Nat} {most size bad : Int} {st : Step} (h : SN w0 w base g sb A b.length c most w' (ee : Nat) (size + (nn : Nat)) 0 bad (.slice A8 nn c8) 0 0) (hst : st = .last (r1.take nn)) (hl : (r1.take nn).length = nn ∧ nn ≤ c8 ∧ ∀ w1, Below base w0 w1 → Kd.C (Kd.int .u8) w1 A8 (r1.take nn).length (r1.take nn)) (he : ee = b.length) : NextPost w0 w base g A b c most size bad st (.returned (.tuple #[.agg #[.slice A8 nn c8, .int .i64 0, .int .i64 0], .bool true])) w' := by
  subst hst
  have hR : RD w' g A b.length c b.length (size + ((r1.take nn).length : Nat)) most 0 bad := by rw [hl.1]; have h1 := h.1; rw [he] at h1; exact h1
  exact ⟨h.2.2.1, h.2.2.2.1, h.2.2.2.2, A8, c8, by rw [hl.1], hR, hl.2.2, by rw [hl.1]; exact hl.2.1⟩
theorem next_seq {w0 w w' : World} {base g sb nn at3 c8 : Nat} {A A8 : Option Addr} {b r1 r4 : List Int} {c : Nat} {most size bad off m : Int} {st : Step} (h : SN w0 w base g sb A b.length c most w' (at3 : Nat) (size + (nn : Nat) + (m + 4)) 0 bad (.slice A8 nn c8) off (m + 4)) (hst : st = .seq (r1.take nn) off (m + 4) r4) (hl : (r1.take nn).length = nn ∧ nn ≤ c8 ∧ ∀ w1, Below base w0 w1 → Kd.C (Kd.int .u8) w1 A8 (r1.take nn).length (r1.take nn)) (hr : r4 = b.drop at3) (ha : at3 ≤ b.length) : NextPost w0 w base g A b c most size bad st (.returned (.tuple #[.agg #[.slice A8 nn c8, .int .i64 off, .int .i64 (m + 4)], .bool true])) w' := by
  subst hst
  have hR : RD w' g A b.length c at3 (size + ((r1.take nn).length : Nat) + (m + 4)) most 0 bad := by rw [hl.1]; exact h.1
  exact ⟨h.2.2.1, h.2.2.2.1, h.2.2.2.2, A8, c8, at3, by rw [hl.1], hR, hr, ha, hl.2.2, by rw [hl.1]; exact hl.2.1⟩
set_option maxHeartbeats 8000000 in
set_option maxRecDepth 100000 in
theorem next_any {w0 w : World} {base g : Nat} {A : Option Addr} {c at_ : Nat} {size most bad : Int} {b : List Int} (h : RD w g A b.length c at_ size most 0 bad) (HB : Below base w0 w) (hg : base ≤ g) (hC : ∀ w', Below base w0 w' → Kd.C (Kd.int .u8) w' A b.length b) (hb : isB b) (hN : b.length ≤ 1000000) (ha : at_ ≤ b.length) (hs : 0 ≤ size) (hsm : size ≤ most) (hm2 : most ≤ 1048576) (hcap : b.length ≤ c) :
    Calls Try.prog 74 #[.pointer (some ⟨g, 0, none⟩)] w fun e w' => NextPost w0 w base g A b c most size bad (step b.length most size (b.drop at_)) e w' := by
  have hgw : g < w.heap.size := (Array.getElem?_eq_some_iff.1 h).1
  have KS0 : Aside0 (SN w0 w base g w.heap.size A b.length c most (w.alloc (.cells #[.slice none 0 0, .int .i64 0, .int .i64 0] 67)) at_ size 0 bad (.slice none 0 0) 0 0) := ⟨by
    refine ⟨?_, heap_alloc_new _ _, below_then HB (by omega) (below_alloc (Below.refl _ _) _), by simp, fun k _ hk => Below.heap_alloc _ _ _ hk⟩
    show (w.alloc _).heap[g]? = _
    rw [Below.heap_alloc _ _ _ hgw]
    exact h⟩
  have KC := Aside0.mk hC
  have Kb := Aside0.mk hb
  obtain ⟨W1, hW1⟩ : ∃ W1, W1 = w.alloc (.cells #[.slice none 0 0, .int .i64 0, .int .i64 0] 67) := ⟨_, rfl⟩
  obtain ⟨sb, hsb⟩ : ∃ sb, sb = w.heap.size := ⟨_, rfl⟩
  rw [← hW1, ← hsb] at KS0
  have hsg : sb ≠ g := by omega
  have hsb2 : w.heap.size ≤ sb := by omega
  have hsb3 : base ≤ sb := by omega
  have KW1 := Aside0.mk hW1
  have Ksb := Aside0.mk hsb
  have hcw := RD_cells h
  have Kcw := Aside0.mk hcw
  clear h HB hC hb hW1 hsb hcw
  go_enter Try.func74, Try.ntmps74
  obtain ⟨x0, x1, x2, x3, x4, x5⟩ := Kcw.out
  go_wp2
  rw [← KW1.out, ← Ksb.out]
  clear x0 x1 x2 x3 x4 x5
  by_cases c1 : at_ = b.length
  · subst c1
    have Kst : Aside0 (step b.length most size (b.drop b.length) = .fail 6 b.length) := ⟨by rw [List.drop_length]; rfl⟩
    obtain ⟨h0, h1, h2, h3, h4, h5⟩ := RD_cells (SN_rd KS0.out)
    go_quiet (fail)
    obtain ⟨W2, hW⟩ : ∃ W2, W2 = W1.drewN nq := ⟨_, rfl⟩
    rw [← hW]
    have KS2 : Aside0 (SN w0 w base g sb A b.length c most W2 b.length size 0 bad (.slice none 0 0) 0 0) := ⟨by rw [hW]; exact SN_drewN KS0.out nq⟩
    clear hW h0 h1 h2 h3 h4 h5
    obtain ⟨h0, h1, h2, h3, h4, h5⟩ := RD_cells (SN_rd KS2.out)
    go_wp2
    refine start_ (n := 10) (S := fun w' => w'.heap[sb]? = some (.cells #[.slice none 0 0, .int .i64 0, .int .i64 0] 67 (0, 0)) ∧ w'.cell? ⟨g, 0, none⟩ = some (.slice A b.length c)) (ds := [8]) #[false, false, false, false, false, false, false, false, false, false] (by kernel_rfl) rfl rfl ⟨(show W2.heap[sb]? = _ from (SN_row KS2.out)), (show W2.cell? _ = _ from h0)⟩ (fun hHeld => ?_)
    refine pure_ (i := 1) (N := some 22) (v := ?_) (a' := ?_) #[false, true, false, false, false, false, false, false, false, false] rfl rfl (by kernel_rfl) (fun _ _ _ h => h) (Or.inl ⟨by rfl, ?_⟩) ?_ ?_
    rotate_left
    · intro w'
      go_simp
      with_reducible rfl
    rotate_left
    · simp only [Act.put, List.setIfInBounds_toArray, List.set_cons_zero, List.set_cons_succ, i64_w, i32_w]
      rfl
    refine pure_ (i := 2) (N := some 23) (v := ?_) (a' := ?_) #[false, true, true, false, false, false, false, false, false, false] rfl rfl (by kernel_rfl) (fun _ _ _ h => h) (Or.inl ⟨by rfl, ?_⟩) ?_ ?_
    rotate_left
    · intro w'
      go_simp
      with_reducible rfl
    rotate_left
    · simp only [Act.put, List.setIfInBounds_toArray, List.set_cons_zero, List.set_cons_succ, i64_w, i32_w]
      rfl
    refine pure_ (i := 3) (N := some 24) (v := ?_) (a' := ?_) #[false, true, true, true, false, false, false, false, false, false] rfl rfl (by kernel_rfl) (fun _ _ _ h => h) (Or.inl ⟨by rfl, ?_⟩) ?_ ?_
    rotate_left
    · intro w'
      go_simp
      with_reducible rfl
    rotate_left
    · simp only [Act.put, List.setIfInBounds_toArray, List.set_cons_zero, List.set_cons_succ, i64_w, i32_w]
      rfl
    refine pure_ (i := 4) (N := some 25) (v := ?_) (a' := ?_) #[false, true, true, true, true, false, false, false, false, false] rfl rfl (by kernel_rfl) (fun _ _ _ h => h) (Or.inl ⟨by rfl, ?_⟩) ?_ ?_
    rotate_left
    · intro w'
      go_simp
      with_reducible rfl
    rotate_left
    · simp only [Act.put, List.setIfInBounds_toArray, List.set_cons_zero, List.set_cons_succ, i64_w, i32_w]
      rfl
    refine take_ (i := 0) (N := some 21) (v := .agg #[.slice none 0 0, .int .i64 0, .int .i64 0]) (a' := ?_) #[true, true, true, true, true, false, false, false, false, false] rfl rfl (by kernel_rfl) (fun _ _ _ h => h) (Or.inl ⟨by rfl, ?_⟩) hHeld ?_ ?_
    · rintro w' ⟨s0, s1⟩
      exact Arr.exec_load_row 67 (Operand.tmp 2) (by rfl) sb (by rfl) _ _ _ _ s0 Try.underlying67 rfl seqSize
    rotate_left
    · simp only [Act.put, List.setIfInBounds_toArray, List.set_cons_zero, List.set_cons_succ, i64_w, i32_w]
      rfl
    refine take_ (i := 5) (N := some 26) (v := ?_) (a' := ?_) #[true, true, true, true, true, true, false, false, false, false] rfl rfl (by kernel_rfl) (fun _ _ _ h => h) (Or.inl ⟨by rfl, ?_⟩) hHeld ?_ ?_
    rotate_left
    · rintro w' ⟨s0, s1⟩
      go_simp
      with_reducible rfl
    rotate_left
    · simp only [Act.put, List.setIfInBounds_toArray, List.set_cons_zero, List.set_cons_succ, i64_w, i32_w]
      rfl
    refine pure_ (i := 6) (N := some 27) (v := ?_) (a' := ?_) #[true, true, true, true, true, true, true, false, false, false] rfl rfl (by kernel_rfl) (fun _ _ _ h => h) (Or.inl ⟨by rfl, ?_⟩) ?_ ?_
    rotate_left
    · intro w'
      go_simp
      with_reducible rfl
    rotate_left
    · simp only [Act.put, List.setIfInBounds_toArray, List.set_cons_zero, List.set_cons_succ, i64_w, i32_w]
      rfl
    refine one_ (i := 7) (N := some 28) #[true, true, true, true, true, true, true, true, false, false] rfl rfl (by kernel_rfl) (by decide) (fun K hK => ?_)
    refine goes_ Try.func77 (by kernel_rfl) rfl #[.pointer (some ⟨g, 0, none⟩), .int .i64 6, .int .i64 b.length] (by rfl) rfl rfl (by simp only [List.map_toArray, List.map_cons, List.map_nil]; rfl) ?_
    with_reducible refine (fail_any (SN_rd (SN_drew KS2.out)) 6 b.length).mono ?_
    rintro e w4 ⟨rfl, hR4, hO4⟩
    refine ⟨_, rfl, ?_⟩
    have KF := Aside0.mk (SN_call (w1 := w4) (SN_drew KS2.out) hg hsg hR4 hO4)
    obtain ⟨y0, y1, y2, y3, y4, y5⟩ := SN_cells KF.out
    refine hK.out _ _ ⟨SN_row KF.out, (RD_cells (SN_rd KF.out)).1⟩ (fun hHeld => ?_)
    clear hK K
    refine norm_ (a' := ?_) ?_ ?_
    rotate_left
    · show Act.put _ (some 28) _ = _
      simp only [Act.put, List.setIfInBounds_toArray, List.set_cons_zero, List.set_cons_succ, i64_w, i32_w]
      rfl
    refine last_ (i := 8) (N := none) #[true, true, true, true, true, true, true, true, true, false] rfl rfl (by kernel_rfl) (by decide) (fun K hK => ?_)
    refine skip_ (w1 := ?_) (by rfl) rfl ?_ ?_
    rotate_left
    · go_simp
      rfl
    refine hK.out _ _ ?_
    clear hK K
    refine pure_ (i := 9) (N := some 3) (v := ?_) (a' := ?_) #[true, true, true, true, true, true, true, true, true, true] rfl rfl (by kernel_rfl) (fun _ _ _ h => h) (Or.inl ⟨by rfl, ?_⟩) ?_ ?_
    rotate_left
    · intro w'
      go_simp
      with_reducible rfl
    rotate_left
    · simp only [Act.put, List.setIfInBounds_toArray, List.set_cons_zero, List.set_cons_succ, i64_w, i32_w]
      rfl
    refine done_ (by kernel_rfl) ?_
    have KE := Aside0.mk (SN_s (SN_s (SN_s KF.out hsg hsb3 hsb2 0 (.slice none 0 0) rfl) hsg hsb3 hsb2 1 (.int .i64 0) rfl) hsg hsb3 hsb2 2 (.int .i64 0) rfl)
    go_wp2
    refine bodyPost_ret (results_list (rs := [.cell 2 67, .tmp 3]) rfl (by simp) (.cell sb 67 _ _ _ rfl (SN_row KE.out) Try.underlying67 rfl seqSize (.tmp .nil))) rfl ?_
    exact next_fail KE.out Kst.out
  have hlt : at_ < b.length := by omega
  obtain ⟨ad, hA, -⟩ := Kd.at_int (KC.out W1 (SN_base KS0.out)) (at_ : Int) (by omega) (by omega)
  subst hA
  obtain ⟨t, ht⟩ : ∃ t, t = b[at_] := ⟨_, rfl⟩
  have htb := Kb.out t (by rw [ht]; exact List.getElem_mem hlt)
  have Kdr : Aside0 (b.drop at_ = t :: b.drop (at_ + 1)) := ⟨by rw [ht]; exact drop_cons hlt⟩
  have hrt := rd_at hlt
  rw [← ht] at hrt
  have Krt := Aside0.mk hrt
  clear hrt ht
  have hne : ((at_ : Int) == (b.length : Int)) = false := by simp; omega
  obtain ⟨h0, h1, h2, h3, h4, h5⟩ := RD_cells (SN_rd KS0.out)
  go_quiet (fail)
  obtain ⟨W2, hW⟩ : ∃ W2, W2 = W1.drewN nq := ⟨_, rfl⟩
  rw [← hW]
  have KS2 : Aside0 (SN w0 w base g sb (some ad) b.length c most W2 at_ size 0 bad (.slice none 0 0) 0 0) := ⟨by rw [hW]; exact SN_drewN KS0.out nq⟩
  clear hW h0 h1 h2 h3 h4 h5
  obtain ⟨h0, h1, h2, h3, h4, h5⟩ := RD_cells (SN_rd KS2.out)
  obtain ⟨ad', hA, hx⟩ := Kd.at_int (KC.out W2 (SN_base KS2.out)) (at_ : Int) (by omega) (by omega)
  injection hA with hA
  subst hA
  rw [Krt.out, Int.toNat_natCast] at hx
  go_wp2
  go_quiet (fail)
  obtain ⟨W3, hW⟩ : ∃ W3, W3 = W2.drewN nq := ⟨_, rfl⟩
  rw [← hW]
  have KS3 : Aside0 (SN w0 w base g sb (some ad) b.length c most W3 at_ size 0 bad (.slice none 0 0) 0 0) := ⟨by rw [hW]; exact SN_drewN KS2.out nq⟩
  clear hW h0 h1 h2 h3 h4 h5
  obtain ⟨h0, h1, h2, h3, h4, h5⟩ := RD_cells (SN_rd KS3.out)
  have f1 := RD_frz (SN_rd KS3.out) 1
  clear hx
  have KS4' := Aside0.mk (SN_set (at2 := (at_ : Int) + 1) (size2 := size) KS3.out hg hsg 1 ((at_ : Int) + 1) rfl)
  cases hL : lenH (t / 16) (b.drop (at_ + 1)) with
  | none =>
    have Kst : Aside0 (step b.length most size (b.drop at_) = .fail 6 b.length) := ⟨by rw [Kdr.out]; simp only [step, hL]⟩
    have KL := Aside0.mk hL
    clear hL
    go_wp2_with (go_at_call 78; obtain ⟨W4, hW4⟩ : ∃ W4, W4 = W3.setCell ⟨g, 1, none⟩ (.int .i64 ((at_ : Int) + 1)) := ⟨_, rfl⟩; rw [← hW4]; have KS4 : Aside0 (SN w0 w base g sb (some ad) b.length c most W4 ((at_ + 1 : Nat) : Int) size 0 bad (.slice none 0 0) 0 0) := ⟨(by rw [hW4, show ((at_ + 1 : Nat) : Int) = (at_ : Int) + 1 by omega]; exact KS4'.out)⟩; clear hW4; refine (length_any (SN_rd KS4.out) (SN_base KS4.out) hg KC.out Kb.out (by omega) (by omega) (t / 16) (by omega) (by omega)).mono ?_; rintro e w5 ⟨hO5, h6⟩; have h6 := h6.resolve_right (by rintro ⟨m, at2, hm, -⟩; rw [KL.out] at hm; cases hm); obtain ⟨-, rfl, at2, hR⟩ := h6; have KF := Aside0.mk (SN_call (w1 := w5) KS4.out hg hsg hR hO5); obtain ⟨y0, y1, y2, y3, y4, y5⟩ := SN_cells KF.out; clear hR hO5)
    have KE := Aside0.mk (SN_s (SN_s (SN_s KF.out hsg hsb3 hsb2 0 (.slice none 0 0) rfl) hsg hsb3 hsb2 1 (.int .i64 0) rfl) hsg hsb3 hsb2 2 (.int .i64 0) rfl)
    refine bodyPost_ret (results_list (rs := [.cell 2 67, .tmp 3]) rfl (by simp) (.cell sb 67 _ _ _ rfl (SN_row KE.out) Try.underlying67 rfl seqSize (.tmp .nil))) rfl ?_
    exact next_fail KE.out Kst.out
  | some p =>
    obtain ⟨n0, r1⟩ := p
    have KL := Aside0.mk hL
    clear hL
    by_cases c3 : most - size < n0
    · have Kst : Aside0 (step b.length most size (b.drop at_) = .fail 2 at_) := ⟨by
        rw [Kdr.out]
        simp only [step, KL.out]
        rw [if_pos c3, List.length_drop, show ((b.length : Int) - (((b.length - (at_ + 1) : Nat) : Int) + 1)) = at_ by omega]⟩
      go_wp2_with (first | (go_at_call 78; obtain ⟨W4, hW4⟩ : ∃ W4, W4 = W3.setCell ⟨g, 1, none⟩ (.int .i64 ((at_ : Int) + 1)) := ⟨_, rfl⟩; rw [← hW4]; have KS4 : Aside0 (SN w0 w base g sb (some ad) b.length c most W4 ((at_ + 1 : Nat) : Int) size 0 bad (.slice none 0 0) 0 0) := ⟨(by rw [hW4, show ((at_ + 1 : Nat) : Int) = (at_ : Int) + 1 by omega]; exact KS4'.out)⟩; clear hW4; refine (length_any (SN_rd KS4.out) (SN_base KS4.out) hg KC.out Kb.out (by omega) (by omega) (t / 16) (by omega) (by omega)).mono ?_; rintro e w5 ⟨hO5, h6⟩; have h6 := h6.resolve_left (by rintro ⟨h, -⟩; rw [KL.out] at h; cases h); obtain ⟨n1, at2, hm, hat1, hat2, hn0, hn1, rfl, hR⟩ := h6; rw [KL.out] at hm; simp only [Option.some.injEq, Prod.mk.injEq] at hm; obtain ⟨hnn, hr1⟩ := hm; subst hnn; have KS5 := Aside0.mk (SN_call (w1 := w5) KS4.out hg hsg hR hO5); clear hR hO5) | (go_at_call 79; refine (room_any (SN_rd KS5.out) n0 at_ hn0 (by omega) hs hsm (by omega)).mono ?_; rintro e w6 ⟨hO6, h7⟩; have h7 := h7.resolve_left (by rintro ⟨h, -⟩; omega); obtain ⟨-, rfl, hR6⟩ := h7; have KF := Aside0.mk (SN_call (w1 := w6) KS5.out hg hsg hR6 hO6); obtain ⟨y0, y1, y2, y3, y4, y5⟩ := SN_cells KF.out; clear hR6 hO6))
      have KE := Aside0.mk (SN_s (SN_s (SN_s KF.out hsg hsb3 hsb2 0 (.slice none 0 0) rfl) hsg hsb3 hsb2 1 (.int .i64 0) rfl) hsg hsb3 hsb2 2 (.int .i64 0) rfl)
      refine bodyPost_ret (results_list (rs := [.cell 2 67, .tmp 3]) rfl (by simp) (.cell sb 67 _ _ _ rfl (SN_row KE.out) Try.underlying67 rfl seqSize (.tmp .nil))) rfl ?_
      exact next_fail KE.out Kst.out
    go_wp2_with (first | (go_at_call 78; obtain ⟨W4, hW4⟩ : ∃ W4, W4 = W3.setCell ⟨g, 1, none⟩ (.int .i64 ((at_ : Int) + 1)) := ⟨_, rfl⟩; rw [← hW4]; have KS4 : Aside0 (SN w0 w base g sb (some ad) b.length c most W4 ((at_ + 1 : Nat) : Int) size 0 bad (.slice none 0 0) 0 0) := ⟨(by rw [hW4, show ((at_ + 1 : Nat) : Int) = (at_ : Int) + 1 by omega]; exact KS4'.out)⟩; clear hW4; refine (length_any (SN_rd KS4.out) (SN_base KS4.out) hg KC.out Kb.out (by omega) (by omega) (t / 16) (by omega) (by omega)).mono ?_; rintro e w5 ⟨hO5, h6⟩; have h6 := h6.resolve_left (by rintro ⟨h, -⟩; rw [KL.out] at h; cases h); obtain ⟨n1, at2, hm, hat1, hat2, hn0, hn1, rfl, hR⟩ := h6; rw [KL.out] at hm; simp only [Option.some.injEq, Prod.mk.injEq] at hm; obtain ⟨hnn, hr1⟩ := hm; subst hnn; have KS5 := Aside0.mk (SN_call (w1 := w5) KS4.out hg hsg hR hO5); clear hR hO5) | (go_at_call 79; refine (room_any (SN_rd KS5.out) n0 at_ hn0 (by omega) hs hsm (by omega)).mono ?_; rintro e w6 ⟨hO6, h7⟩; have h7 := h7.resolve_right (by rintro ⟨h, -⟩; omega); obtain ⟨-, rfl, hR6⟩ := h7; have KS6 := Aside0.mk (SN_call (w1 := w6) KS5.out hg hsg hR6 hO6); clear hR6 hO6))
    obtain ⟨nn, rfl⟩ := Int.eq_ofNat_of_zero_le hn0
    clear h0 h1 h2 h3 h4 h5 f1
    obtain ⟨h0, h1, h2, h3, h4, h5⟩ := RD_cells (SN_rd KS6.out)
    have Kr1 : Aside0 (r1 = b.drop at2) := ⟨hr1⟩
    clear hr1
    have Kc3 : Aside0 ((nn : Int) ≤ most - size) := ⟨by omega⟩
    by_cases c4 : (b.length : Int) - at2 < nn
    · have Kst : Aside0 (step b.length most size (b.drop at_) = .fail 6 b.length) := ⟨by
        rw [Kdr.out]
        simp only [step, KL.out]
        have h3 := Kc3.out
        rw [if_neg (by omega), if_pos (by rw [Kr1.out, List.length_drop]; omega)]⟩
      go_quiet (fail)
      obtain ⟨W7, hW⟩ : ∃ W7, W7 = w6.drewN nq := ⟨_, rfl⟩
      rw [← hW]
      have KS7 : Aside0 (SN w0 w base g sb (some ad) b.length c most W7 at2 (size + (nn : Nat)) 0 bad (.slice none 0 0) 0 0) := ⟨by rw [hW]; exact SN_drewN KS6.out nq⟩
      clear hW h0 h1 h2 h3 h4 h5
      obtain ⟨h0, h1, h2, h3, h4, h5⟩ := RD_cells (SN_rd KS7.out)
      go_wp2
      refine start_ (n := 10) (S := fun w' => w'.heap[sb]? = some (.cells #[.slice none 0 0, .int .i64 0, .int .i64 0] 67 (0, 0)) ∧ w'.cell? ⟨g, 0, none⟩ = some (.slice (some ad) b.length c)) (ds := [8]) #[false, false, false, false, false, false, false, false, false, false] (by kernel_rfl) rfl rfl ⟨(show W7.heap[sb]? = _ from (SN_row KS7.out)), (show W7.cell? _ = _ from h0)⟩ (fun hHeld => ?_)
      refine pure_ (i := 1) (N := some 77) (v := ?_) (a' := ?_) #[false, true, false, false, false, false, false, false, false, false] rfl rfl (by kernel_rfl) (fun _ _ _ h => h) (Or.inl ⟨by rfl, ?_⟩) ?_ ?_
      rotate_left
      · intro w'
        go_simp
        with_reducible rfl
      rotate_left
      · simp only [Act.put, List.setIfInBounds_toArray, List.set_cons_zero, List.set_cons_succ, i64_w, i32_w]
        rfl
      refine pure_ (i := 2) (N := some 78) (v := ?_) (a' := ?_) #[false, true, true, false, false, false, false, false, false, false] rfl rfl (by kernel_rfl) (fun _ _ _ h => h) (Or.inl ⟨by rfl, ?_⟩) ?_ ?_
      rotate_left
      · intro w'
        go_simp
        with_reducible rfl
      rotate_left
      · simp only [Act.put, List.setIfInBounds_toArray, List.set_cons_zero, List.set_cons_succ, i64_w, i32_w]
        rfl
      refine pure_ (i := 3) (N := some 79) (v := ?_) (a' := ?_) #[false, true, true, true, false, false, false, false, false, false] rfl rfl (by kernel_rfl) (fun _ _ _ h => h) (Or.inl ⟨by rfl, ?_⟩) ?_ ?_
      rotate_left
      · intro w'
        go_simp
        with_reducible rfl
      rotate_left
      · simp only [Act.put, List.setIfInBounds_toArray, List.set_cons_zero, List.set_cons_succ, i64_w, i32_w]
        rfl
      refine pure_ (i := 4) (N := some 80) (v := ?_) (a' := ?_) #[false, true, true, true, true, false, false, false, false, false] rfl rfl (by kernel_rfl) (fun _ _ _ h => h) (Or.inl ⟨by rfl, ?_⟩) ?_ ?_
      rotate_left
      · intro w'
        go_simp
        with_reducible rfl
      rotate_left
      · simp only [Act.put, List.setIfInBounds_toArray, List.set_cons_zero, List.set_cons_succ, i64_w, i32_w]
        rfl
      refine take_ (i := 0) (N := some 76) (v := .agg #[.slice none 0 0, .int .i64 0, .int .i64 0]) (a' := ?_) #[true, true, true, true, true, false, false, false, false, false] rfl rfl (by kernel_rfl) (fun _ _ _ h => h) (Or.inl ⟨by rfl, ?_⟩) hHeld ?_ ?_
      · rintro w' ⟨s0, s1⟩
        exact Arr.exec_load_row 67 (Operand.tmp 2) (by rfl) sb (by rfl) _ _ _ _ s0 Try.underlying67 rfl seqSize
      rotate_left
      · simp only [Act.put, List.setIfInBounds_toArray, List.set_cons_zero, List.set_cons_succ, i64_w, i32_w]
        rfl
      refine take_ (i := 5) (N := some 81) (v := ?_) (a' := ?_) #[true, true, true, true, true, true, false, false, false, false] rfl rfl (by kernel_rfl) (fun _ _ _ h => h) (Or.inl ⟨by rfl, ?_⟩) hHeld ?_ ?_
      rotate_left
      · rintro w' ⟨s0, s1⟩
        go_simp
        with_reducible rfl
      rotate_left
      · simp only [Act.put, List.setIfInBounds_toArray, List.set_cons_zero, List.set_cons_succ, i64_w, i32_w]
        rfl
      refine pure_ (i := 6) (N := some 82) (v := ?_) (a' := ?_) #[true, true, true, true, true, true, true, false, false, false] rfl rfl (by kernel_rfl) (fun _ _ _ h => h) (Or.inl ⟨by rfl, ?_⟩) ?_ ?_
      rotate_left
      · intro w'
        go_simp
        with_reducible rfl
      rotate_left
      · simp only [Act.put, List.setIfInBounds_toArray, List.set_cons_zero, List.set_cons_succ, i64_w, i32_w]
        rfl
      refine one_ (i := 7) (N := some 83) #[true, true, true, true, true, true, true, true, false, false] rfl rfl (by kernel_rfl) (by decide) (fun K hK => ?_)
      refine goes_ Try.func77 (by kernel_rfl) rfl #[.pointer (some ⟨g, 0, none⟩), .int .i64 6, .int .i64 b.length] (by rfl) rfl rfl (by simp only [List.map_toArray, List.map_cons, List.map_nil]; rfl) ?_
      with_reducible refine (fail_any (SN_rd (SN_drew KS7.out)) 6 b.length).mono ?_
      rintro e w4 ⟨rfl, hR4, hO4⟩
      refine ⟨_, rfl, ?_⟩
      have KF := Aside0.mk (SN_call (w1 := w4) (SN_drew KS7.out) hg hsg hR4 hO4)
      obtain ⟨y0, y1, y2, y3, y4, y5⟩ := SN_cells KF.out
      refine hK.out _ _ ⟨SN_row KF.out, (RD_cells (SN_rd KF.out)).1⟩ (fun hHeld => ?_)
      clear hK K
      refine norm_ (a' := ?_) ?_ ?_
      rotate_left
      · show Act.put _ (some 83) _ = _
        simp only [Act.put, List.setIfInBounds_toArray, List.set_cons_zero, List.set_cons_succ, i64_w, i32_w]
        rfl
      refine last_ (i := 8) (N := none) #[true, true, true, true, true, true, true, true, true, false] rfl rfl (by kernel_rfl) (by decide) (fun K hK => ?_)
      refine skip_ (w1 := ?_) (by rfl) rfl ?_ ?_
      rotate_left
      · go_simp
        rfl
      refine hK.out _ _ ?_
      clear hK K
      refine pure_ (i := 9) (N := some 3) (v := ?_) (a' := ?_) #[true, true, true, true, true, true, true, true, true, true] rfl rfl (by kernel_rfl) (fun _ _ _ h => h) (Or.inl ⟨by rfl, ?_⟩) ?_ ?_
      rotate_left
      · intro w'
        go_simp
        with_reducible rfl
      rotate_left
      · simp only [Act.put, List.setIfInBounds_toArray, List.set_cons_zero, List.set_cons_succ, i64_w, i32_w]
        rfl
      refine done_ (by kernel_rfl) ?_
      have KE := Aside0.mk (SN_s (SN_s (SN_s KF.out hsg hsb3 hsb2 0 (.slice none 0 0) rfl) hsg hsb3 hsb2 1 (.int .i64 0) rfl) hsg hsb3 hsb2 2 (.int .i64 0) rfl)
      go_wp2
      refine bodyPost_ret (results_list (rs := [.cell 2 67, .tmp 3]) rfl (by simp) (.cell sb 67 _ _ _ rfl (SN_row KE.out) Try.underlying67 rfl seqSize (.tmp .nil))) rfl ?_
      exact next_fail KE.out Kst.out
    go_quiet (fail)
    obtain ⟨W7, hW⟩ : ∃ W7, W7 = w6.drewN nq := ⟨_, rfl⟩
    rw [← hW]
    have KS7 : Aside0 (SN w0 w base g sb (some ad) b.length c most W7 at2 (size + (nn : Nat)) 0 bad (.slice none 0 0) 0 0) := ⟨by rw [hW]; exact SN_drewN KS6.out nq⟩
    clear hW h0 h1 h2 h3 h4 h5
    obtain ⟨h0, h1, h2, h3, h4, h5⟩ := RD_cells (SN_rd KS7.out)
    go_wp2
    obtain ⟨y0, y1, y2, y3, y4, y5⟩ := SN_cells KS7.out
    have Kc4 : Aside0 ((nn : Int) ≤ (r1.length : Int)) := ⟨by rw [Kr1.out, List.length_drop]; omega⟩
    obtain ⟨ee, hw, he1, he2, he3, he4, hee⟩ := slice_bounds c4 hcap hN
    have Kee := Aside0.mk hee
    clear hee
    refine start_ (n := 17) (S := fun w' => w'.cell? ⟨g, 0, none⟩ = some (.slice (some ad) b.length c) ∧ w'.cell? ⟨g, 1, none⟩ = some (.int .i64 at2)) (ds := [16]) #[false, false, false, false, false, false, false, false, false, false, false, false, false, false, false, false, false] (by kernel_rfl) rfl rfl ⟨(show W7.cell? _ = _ from h0), (show W7.cell? _ = _ from h1)⟩ (fun hHeld => ?_)
    refine pure_ (i := 0) (N := some 84) (v := ?_) (a' := ?_) #[true, false, false, false, false, false, false, false, false, false, false, false, false, false, false, false, false] rfl rfl (by kernel_rfl) (fun _ _ _ h => h) (Or.inl ⟨by rfl, ?_⟩) ?_ ?_
    rotate_left
    · intro w'
      go_simp
      with_reducible rfl
    rotate_left
    · simp only [Act.put, List.setIfInBounds_toArray, List.set_cons_zero, List.set_cons_succ, i64_w, i32_w]
      rfl
    refine pure_ (i := 1) (N := some 85) (v := ?_) (a' := ?_) #[true, true, false, false, false, false, false, false, false, false, false, false, false, false, false, false, false] rfl rfl (by kernel_rfl) (fun _ _ _ h => h) (Or.inl ⟨by rfl, ?_⟩) ?_ ?_
    rotate_left
    · intro w'
      go_simp
      with_reducible rfl
    rotate_left
    · simp only [Act.put, List.setIfInBounds_toArray, List.set_cons_zero, List.set_cons_succ, i64_w, i32_w]
      rfl
    refine pure_ (i := 2) (N := some 86) (v := ?_) (a' := ?_) #[true, true, true, false, false, false, false, false, false, false, false, false, false, false, false, false, false] rfl rfl (by kernel_rfl) (fun _ _ _ h => h) (Or.inl ⟨by rfl, ?_⟩) ?_ ?_
    rotate_left
    · intro w'
      go_simp
      with_reducible rfl
    rotate_left
    · simp only [Act.put, List.setIfInBounds_toArray, List.set_cons_zero, List.set_cons_succ, i64_w, i32_w]
      rfl
    refine pure_ (i := 4) (N := some 88) (v := ?_) (a' := ?_) #[true, true, true, false, true, false, false, false, false, false, false, false, false, false, false, false, false] rfl rfl (by kernel_rfl) (fun _ _ _ h => h) (Or.inl ⟨by rfl, ?_⟩) ?_ ?_
    rotate_left
    · intro w'
      go_simp
      with_reducible rfl
    rotate_left
    · simp only [Act.put, List.setIfInBounds_toArray, List.set_cons_zero, List.set_cons_succ, i64_w, i32_w]
      rfl
    refine pure_ (i := 5) (N := some 89) (v := ?_) (a' := ?_) #[true, true, true, false, true, true, false, false, false, false, false, false, false, false, false, false, false] rfl rfl (by kernel_rfl) (fun _ _ _ h => h) (Or.inl ⟨by rfl, ?_⟩) ?_ ?_
    rotate_left
    · intro w'
      go_simp
      with_reducible rfl
    rotate_left
    · simp only [Act.put, List.setIfInBounds_toArray, List.set_cons_zero, List.set_cons_succ, i64_w, i32_w]
      rfl
    refine pure_ (i := 6) (N := some 90) (v := ?_) (a' := ?_) #[true, true, true, false, true, true, true, false, false, false, false, false, false, false, false, false, false] rfl rfl (by kernel_rfl) (fun _ _ _ h => h) (Or.inl ⟨by rfl, ?_⟩) ?_ ?_
    rotate_left
    · intro w'
      go_simp
      with_reducible rfl
    rotate_left
    · simp only [Act.put, List.setIfInBounds_toArray, List.set_cons_zero, List.set_cons_succ, i64_w, i32_w]
      rfl
    refine pure_ (i := 8) (N := some 92) (v := ?_) (a' := ?_) #[true, true, true, false, true, true, true, false, true, false, false, false, false, false, false, false, false] rfl rfl (by kernel_rfl) (fun _ _ _ h => h) (Or.inl ⟨by rfl, ?_⟩) ?_ ?_
    rotate_left
    · intro w'
      go_simp
      with_reducible rfl
    rotate_left
    · simp only [Act.put, List.setIfInBounds_toArray, List.set_cons_zero, List.set_cons_succ, i64_w, i32_w]
      rfl
    refine pure_ (i := 9) (N := some 93) (v := ?_) (a' := ?_) #[true, true, true, false, true, true, true, false, true, true, false, false, false, false, false, false, false] rfl rfl (by kernel_rfl) (fun _ _ _ h => h) (Or.inl ⟨by rfl, ?_⟩) ?_ ?_
    rotate_left
    · intro w'
      go_simp
      with_reducible rfl
    rotate_left
    · simp only [Act.put, List.setIfInBounds_toArray, List.set_cons_zero, List.set_cons_succ, i64_w, i32_w]
      rfl
    refine pure_ (i := 10) (N := some 94) (v := ?_) (a' := ?_) #[true, true, true, false, true, true, true, false, true, true, true, false, false, false, false, false, false] rfl rfl (by kernel_rfl) (fun _ _ _ h => h) (Or.inl ⟨by rfl, ?_⟩) ?_ ?_
    rotate_left
    · intro w'
      go_simp
      with_reducible rfl
    rotate_left
    · simp only [Act.put, List.setIfInBounds_toArray, List.set_cons_zero, List.set_cons_succ, i64_w, i32_w]
      rfl
    refine pure_ (i := 12) (N := some 96) (v := ?_) (a' := ?_) #[true, true, true, false, true, true, true, false, true, true, true, false, true, false, false, false, false] rfl rfl (by kernel_rfl) (fun _ _ _ h => h) (Or.inl ⟨by rfl, ?_⟩) ?_ ?_
    rotate_left
    · intro w'
      go_simp
      with_reducible rfl
    rotate_left
    · simp only [Act.put, List.setIfInBounds_toArray, List.set_cons_zero, List.set_cons_succ, i64_w, i32_w]
      rfl
    refine take_ (i := 3) (N := some 87) (v := ?_) (a' := ?_) #[true, true, true, true, true, true, true, false, true, true, true, false, true, false, false, false, false] rfl rfl (by kernel_rfl) (fun _ _ _ h => h) (Or.inl ⟨by rfl, ?_⟩) hHeld ?_ ?_
    rotate_left
    · rintro w' ⟨s0, s1⟩
      go_simp
      with_reducible rfl
    rotate_left
    · simp only [Act.put, List.setIfInBounds_toArray, List.set_cons_zero, List.set_cons_succ, i64_w, i32_w]
      rfl
    refine take_ (i := 7) (N := some 91) (v := ?_) (a' := ?_) #[true, true, true, true, true, true, true, true, true, true, true, false, true, false, false, false, false] rfl rfl (by kernel_rfl) (fun _ _ _ h => h) (Or.inl ⟨by rfl, ?_⟩) hHeld ?_ ?_
    rotate_left
    · rintro w' ⟨s0, s1⟩
      go_simp
      with_reducible rfl
    rotate_left
    · simp only [Act.put, List.setIfInBounds_toArray, List.set_cons_zero, List.set_cons_succ, i64_w, i32_w]
      rfl
    refine take_ (i := 11) (N := some 95) (v := ?_) (a' := ?_) #[true, true, true, true, true, true, true, true, true, true, true, true, true, false, false, false, false] rfl rfl (by kernel_rfl) (fun _ _ _ h => h) (Or.inl ⟨by rfl, ?_⟩) hHeld ?_ ?_
    rotate_left
    · rintro w' ⟨s0, s1⟩
      go_simp
      with_reducible rfl
    rotate_left
    · simp only [Act.put, List.setIfInBounds_toArray, List.set_cons_zero, List.set_cons_succ, i64_w, i32_w]
      rfl
    refine pure_ (i := 13) (N := some 97) (v := ?_) (a' := ?_) #[true, true, true, true, true, true, true, true, true, true, true, true, true, true, false, false, false] rfl rfl (by kernel_rfl) (fun _ _ _ h => h) (Or.inl ⟨by rfl, ?_⟩) ?_ ?_
    rotate_left
    · intro w'
      go_simp
      with_reducible rfl
    rotate_left
    · simp only [Act.put, List.setIfInBounds_toArray, List.set_cons_zero, List.set_cons_succ, i64_w, i32_w]
      rfl
    refine pure_ (i := 14) (N := some 98) (v := ?_) (a' := ?_) #[true, true, true, true, true, true, true, true, true, true, true, true, true, true, true, false, false] rfl rfl (by kernel_rfl) (fun _ _ _ h => h) (Or.inl ⟨by rfl, ?_⟩) ?_ ?_
    rotate_left
    · intro w'
      go_simp
      with_reducible rfl
    rotate_left
    · simp only [Act.put, List.setIfInBounds_toArray, List.set_cons_zero, List.set_cons_succ, i64_w, i32_w]
      rfl
    refine pure_ (i := 15) (N := some 99) (v := ?_) (a' := ?_) #[true, true, true, true, true, true, true, true, true, true, true, true, true, true, true, true, false] rfl rfl (by kernel_rfl) (fun _ _ _ h => h) (Or.inl ⟨by rfl, ?_⟩) ?_ ?_
    rotate_left
    · intro w'
      go_simp
      with_reducible rfl
    rotate_left
    · simp only [Act.put, List.setIfInBounds_toArray, List.set_cons_zero, List.set_cons_succ, i64_w, i32_w]
      rfl
    refine last_ (i := 16) (N := none) #[true, true, true, true, true, true, true, true, true, true, true, true, true, true, true, true, true] rfl rfl (by kernel_rfl) (by decide) (fun K hK => ?_)
    refine skip_ (w1 := ?_) (by rfl) rfl ?_ ?_
    rotate_left
    · go_simp
      rfl
    refine hK.out _ _ ?_
    clear hK K
    refine done_ (by kernel_rfl) ?_
    obtain ⟨A8, c8, hA8, hsl⟩ : ∃ A8 c8, A8 = (if c = at2 then some ad else some (ad.add at2)) ∧ c8 = c - at2 := ⟨_, _, rfl, rfl⟩
    rw [← hA8, ← hsl]
    have KS8' := Aside0.mk (SN_drew (SN_s (sl2 := .slice A8 nn c8) (so2 := 0) (sn2 := 0) KS7.out hsg hsb3 hsb2 0 (.slice A8 nn c8) rfl))
    obtain ⟨W8, hW8⟩ : ∃ W8, W8 = (W7.setCell ⟨sb, 0, none⟩ (.slice A8 nn c8)).drew := ⟨_, rfl⟩
    rw [← hW8] at KS8' ⊢
    have Klit : Aside0 ((r1.take nn).length = nn ∧ nn ≤ c8 ∧ ∀ w1, Below base w0 w1 → Kd.C (Kd.int .u8) w1 A8 (r1.take nn).length (r1.take nn)) := ⟨lit_reads hA8 hsl Kr1.out hat2 Kee.out he4 hcap KC.out⟩
    clear hA8 hsl hW8 h0 h1 h2 h3 h4 h5 y0 y1 y2 y3 y4 y5 hHeld
    obtain ⟨h0, h1, h2, h3, h4, h5⟩ := RD_cells (SN_rd KS8'.out)
    have f1 := RD_frz (SN_rd KS8'.out) 1
    have Kdd : Aside0 (r1.drop nn = b.drop ee) := ⟨by rw [Kr1.out, List.drop_drop, Kee.out]⟩
    go_wp2
    obtain ⟨W9, hW9⟩ : ∃ W9, W9 = W8.setCell ⟨g, 1, none⟩ (.int .i64 ((at2 : Int) + (nn : Int))) := ⟨_, rfl⟩
    rw [← hW9]
    have KS9' : Aside0 (SN w0 w base g sb (some ad) b.length c most W9 ee (size + (nn : Nat)) 0 bad (.slice A8 nn c8) 0 0) := ⟨by rw [hW9, add_cast Kee.out]; exact SN_set (at2 := (ee : Int)) (size2 := size + (nn : Nat)) KS8'.out hg hsg 1 (ee : Int) rfl⟩
    clear hW9 h0 h1 h2 h3 h4 h5 f1
    obtain ⟨h0, h1, h2, h3, h4, h5⟩ := RD_cells (SN_rd KS9'.out)
    by_cases c5 : ee = b.length
    · have heq : ((ee : Int) == (b.length : Int)) = true := by rw [c5]; simp
      have Kst : Aside0 (step b.length most size (b.drop at_) = .last (r1.take nn)) := ⟨by
        rw [Kdr.out, step_d KL.out Kc3.out Kc4.out, Kdd.out, c5, List.drop_length]
        rfl⟩
      go_quiet (fail)
      obtain ⟨W10, hW⟩ : ∃ W10, W10 = W9.drewN nq := ⟨_, rfl⟩
      rw [← hW]
      have KF : Aside0 (SN w0 w base g sb (some ad) b.length c most W10 ee (size + (nn : Nat)) 0 bad (.slice A8 nn c8) 0 0) := ⟨by rw [hW]; exact SN_drewN KS9'.out nq⟩
      clear hW h0 h1 h2 h3 h4 h5
      obtain ⟨h0, h1, h2, h3, h4, h5⟩ := RD_cells (SN_rd KF.out)
      obtain ⟨y0, y1, y2, y3, y4, y5⟩ := SN_cells KF.out
      go_wp2
      have KE := Aside0.mk (SN_s (SN_s (SN_s KF.out hsg hsb3 hsb2 0 (.slice A8 nn c8) rfl) hsg hsb3 hsb2 1 (.int .i64 0) rfl) hsg hsb3 hsb2 2 (.int .i64 0) rfl)
      refine bodyPost_ret (results_list (rs := [.cell 2 67, .tmp 3]) rfl (by simp) (.cell sb 67 _ _ _ rfl (SN_row KE.out) Try.underlying67 rfl seqSize (.tmp .nil))) rfl ?_
      exact next_last KE.out Kst.out Klit.out c5
    have heq : ((ee : Int) == (b.length : Int)) = false := by simp; omega
    go_quiet (fail)
    obtain ⟨W10, hW⟩ : ∃ W10, W10 = W9.drewN nq := ⟨_, rfl⟩
    rw [← hW]
    have KS10 : Aside0 (SN w0 w base g sb (some ad) b.length c most W10 ee (size + (nn : Nat)) 0 bad (.slice A8 nn c8) 0 0) := ⟨by rw [hW]; exact SN_drewN KS9'.out nq⟩
    clear hW h0 h1 h2 h3 h4 h5
    obtain ⟨h0, h1, h2, h3, h4, h5⟩ := RD_cells (SN_rd KS10.out)
    clear heq
    go_wp2
    by_cases c6 : (b.length : Int) - ee < 2
    · have Kst : Aside0 (step b.length most size (b.drop at_) = .fail 6 b.length) := ⟨by
        obtain ⟨x, hx⟩ := drop_one he4 c5 c6
        rw [Kdr.out, step_d KL.out Kc3.out Kc4.out, Kdd.out, hx]
        rfl⟩
      go_quiet (fail)
      obtain ⟨W11, hW⟩ : ∃ W11, W11 = W10.drewN nq := ⟨_, rfl⟩
      rw [← hW]
      have KS11 : Aside0 (SN w0 w base g sb (some ad) b.length c most W11 ee (size + (nn : Nat)) 0 bad (.slice A8 nn c8) 0 0) := ⟨by rw [hW]; exact SN_drewN KS10.out nq⟩
      clear hW h0 h1 h2 h3 h4 h5
      obtain ⟨h0, h1, h2, h3, h4, h5⟩ := RD_cells (SN_rd KS11.out)
      go_wp2
      refine start_ (n := 10) (S := fun w' => w'.heap[sb]? = some (.cells #[.slice A8 nn c8, .int .i64 0, .int .i64 0] 67 (0, 0)) ∧ w'.cell? ⟨g, 0, none⟩ = some (.slice (some ad) b.length c)) (ds := [8]) #[false, false, false, false, false, false, false, false, false, false] (by kernel_rfl) rfl rfl ⟨(show W11.heap[sb]? = _ from (SN_row KS11.out)), (show W11.cell? _ = _ from h0)⟩ (fun hHeld => ?_)
      refine pure_ (i := 1) (N := some 131) (v := ?_) (a' := ?_) #[false, true, false, false, false, false, false, false, false, false] rfl rfl (by kernel_rfl) (fun _ _ _ h => h) (Or.inl ⟨by rfl, ?_⟩) ?_ ?_
      rotate_left
      · intro w'
        go_simp
        with_reducible rfl
      rotate_left
      · simp only [Act.put, List.setIfInBounds_toArray, List.set_cons_zero, List.set_cons_succ, i64_w, i32_w]
        rfl
      refine pure_ (i := 2) (N := some 132) (v := ?_) (a' := ?_) #[false, true, true, false, false, false, false, false, false, false] rfl rfl (by kernel_rfl) (fun _ _ _ h => h) (Or.inl ⟨by rfl, ?_⟩) ?_ ?_
      rotate_left
      · intro w'
        go_simp
        with_reducible rfl
      rotate_left
      · simp only [Act.put, List.setIfInBounds_toArray, List.set_cons_zero, List.set_cons_succ, i64_w, i32_w]
        rfl
      refine pure_ (i := 3) (N := some 133) (v := ?_) (a' := ?_) #[false, true, true, true, false, false, false, false, false, false] rfl rfl (by kernel_rfl) (fun _ _ _ h => h) (Or.inl ⟨by rfl, ?_⟩) ?_ ?_
      rotate_left
      · intro w'
        go_simp
        with_reducible rfl
      rotate_left
      · simp only [Act.put, List.setIfInBounds_toArray, List.set_cons_zero, List.set_cons_succ, i64_w, i32_w]
        rfl
      refine pure_ (i := 4) (N := some 134) (v := ?_) (a' := ?_) #[false, true, true, true, true, false, false, false, false, false] rfl rfl (by kernel_rfl) (fun _ _ _ h => h) (Or.inl ⟨by rfl, ?_⟩) ?_ ?_
      rotate_left
      · intro w'
        go_simp
        with_reducible rfl
      rotate_left
      · simp only [Act.put, List.setIfInBounds_toArray, List.set_cons_zero, List.set_cons_succ, i64_w, i32_w]
        rfl
      refine take_ (i := 0) (N := some 130) (v := .agg #[.slice A8 nn c8, .int .i64 0, .int .i64 0]) (a' := ?_) #[true, true, true, true, true, false, false, false, false, false] rfl rfl (by kernel_rfl) (fun _ _ _ h => h) (Or.inl ⟨by rfl, ?_⟩) hHeld ?_ ?_
      · rintro w' ⟨s0, s1⟩
        exact Arr.exec_load_row 67 (Operand.tmp 2) (by rfl) sb (by rfl) _ _ _ _ s0 Try.underlying67 rfl seqSize
      rotate_left
      · simp only [Act.put, List.setIfInBounds_toArray, List.set_cons_zero, List.set_cons_succ, i64_w, i32_w]
        rfl
      refine take_ (i := 5) (N := some 135) (v := ?_) (a' := ?_) #[true, true, true, true, true, true, false, false, false, false] rfl rfl (by kernel_rfl) (fun _ _ _ h => h) (Or.inl ⟨by rfl, ?_⟩) hHeld ?_ ?_
      rotate_left
      · rintro w' ⟨s0, s1⟩
        go_simp
        with_reducible rfl
      rotate_left
      · simp only [Act.put, List.setIfInBounds_toArray, List.set_cons_zero, List.set_cons_succ, i64_w, i32_w]
        rfl
      refine pure_ (i := 6) (N := some 136) (v := ?_) (a' := ?_) #[true, true, true, true, true, true, true, false, false, false] rfl rfl (by kernel_rfl) (fun _ _ _ h => h) (Or.inl ⟨by rfl, ?_⟩) ?_ ?_
      rotate_left
      · intro w'
        go_simp
        with_reducible rfl
      rotate_left
      · simp only [Act.put, List.setIfInBounds_toArray, List.set_cons_zero, List.set_cons_succ, i64_w, i32_w]
        rfl
      refine one_ (i := 7) (N := some 137) #[true, true, true, true, true, true, true, true, false, false] rfl rfl (by kernel_rfl) (by decide) (fun K hK => ?_)
      refine goes_ Try.func77 (by kernel_rfl) rfl #[.pointer (some ⟨g, 0, none⟩), .int .i64 6, .int .i64 b.length] (by rfl) rfl rfl (by simp only [List.map_toArray, List.map_cons, List.map_nil]; rfl) ?_
      with_reducible refine (fail_any (SN_rd (SN_drew KS11.out)) 6 b.length).mono ?_
      rintro e w4 ⟨rfl, hR4, hO4⟩
      refine ⟨_, rfl, ?_⟩
      have KF := Aside0.mk (SN_call (w1 := w4) (SN_drew KS11.out) hg hsg hR4 hO4)
      obtain ⟨y0, y1, y2, y3, y4, y5⟩ := SN_cells KF.out
      refine hK.out _ _ ⟨SN_row KF.out, (RD_cells (SN_rd KF.out)).1⟩ (fun hHeld => ?_)
      clear hK K
      refine norm_ (a' := ?_) ?_ ?_
      rotate_left
      · show Act.put _ (some 137) _ = _
        simp only [Act.put, List.setIfInBounds_toArray, List.set_cons_zero, List.set_cons_succ, i64_w, i32_w]
        rfl
      refine last_ (i := 8) (N := none) #[true, true, true, true, true, true, true, true, true, false] rfl rfl (by kernel_rfl) (by decide) (fun K hK => ?_)
      refine skip_ (w1 := ?_) (by rfl) rfl ?_ ?_
      rotate_left
      · go_simp
        rfl
      refine hK.out _ _ ?_
      clear hK K
      refine pure_ (i := 9) (N := some 3) (v := ?_) (a' := ?_) #[true, true, true, true, true, true, true, true, true, true] rfl rfl (by kernel_rfl) (fun _ _ _ h => h) (Or.inl ⟨by rfl, ?_⟩) ?_ ?_
      rotate_left
      · intro w'
        go_simp
        with_reducible rfl
      rotate_left
      · simp only [Act.put, List.setIfInBounds_toArray, List.set_cons_zero, List.set_cons_succ, i64_w, i32_w]
        rfl
      refine done_ (by kernel_rfl) ?_
      have KE := Aside0.mk (SN_s (SN_s (SN_s KF.out hsg hsb3 hsb2 0 (.slice A8 nn c8) rfl) hsg hsb3 hsb2 1 (.int .i64 0) rfl) hsg hsb3 hsb2 2 (.int .i64 0) rfl)
      go_wp2
      refine bodyPost_ret (results_list (rs := [.cell 2 67, .tmp 3]) rfl (by simp) (.cell sb 67 _ _ _ rfl (SN_row KE.out) Try.underlying67 rfl seqSize (.tmp .nil))) rfl ?_
      exact next_fail KE.out Kst.out
    go_quiet (fail)
    obtain ⟨W11, hW⟩ : ∃ W11, W11 = W10.drewN nq := ⟨_, rfl⟩
    rw [← hW]
    have KS11 : Aside0 (SN w0 w base g sb (some ad) b.length c most W11 ee (size + (nn : Nat)) 0 bad (.slice A8 nn c8) 0 0) := ⟨by rw [hW]; exact SN_drewN KS10.out nq⟩
    clear hW h0 h1 h2 h3 h4 h5
    obtain ⟨h0, h1, h2, h3, h4, h5⟩ := RD_cells (SN_rd KS11.out)
    obtain ⟨x, y, hdx, hxb, hyb, hrx, hry, he5, he6, he7⟩ := drop_two Kb.out he4 (by first | exact c6 | exact Int.not_lt.1 c6)
    obtain ⟨ef, hw1, hef, hefe⟩ := next_idx he7 hN
    have Kdx := Aside0.mk hdx
    have Kef := Aside0.mk hefe
    rw [← hefe] at hry
    clear hdx hefe he7
    obtain ⟨ad', hA, hx⟩ := Kd.at_int (KC.out W11 (SN_base KS11.out)) (ee : Int) (Int.natCast_nonneg _) (idx_lt he5)
    injection hA with hA
    subst hA
    rw [hrx, Int.toNat_natCast] at hx
    obtain ⟨ad', hA, hy⟩ := Kd.at_int (KC.out W11 (SN_base KS11.out)) (ef : Int) (Int.natCast_nonneg _) (Int.ofNat_lt.2 hef)
    injection hA with hA
    subst hA
    rw [hry, Int.toNat_natCast] at hy
    clear hrx hry
    go_wp2
    obtain ⟨y0, y1, y2, y3, y4, y5⟩ := SN_cells KS11.out
    refine start_ (n := 27) (S := fun w' => w'.cell? ⟨g, 0, none⟩ = some (.slice (some ad) b.length c) ∧ w'.cell? ⟨g, 1, none⟩ = some (.int .i64 ee) ∧ w'.cell? (ad.add ee) = some (.int .u8 x) ∧ w'.cell? (ad.add ef) = some (.int .u8 y)) (ds := [26]) #[false, false, false, false, false, false, false, false, false, false, false, false, false, false, false, false, false, false, false, false, false, false, false, false, false, false, false] (by kernel_rfl) rfl rfl ⟨(show W11.cell? _ = _ from h0), (show W11.cell? _ = _ from h1), (show W11.cell? _ = _ from hx), (show W11.cell? _ = _ from hy)⟩ (fun hHeld => ?_)
    refine pure_ (i := 0) (N := some 138) (v := ?_) (a' := ?_) #[true, false, false, false, false, false, false, false, false, false, false, false, false, false, false, false, false, false, false, false, false, false, false, false, false, false, false] rfl rfl (by kernel_rfl) (fun _ _ _ h => h) (Or.inl ⟨by rfl, ?_⟩) ?_ ?_
    rotate_left
    · intro w'
      go_simp
      with_reducible rfl
    rotate_left
    · simp only [Act.put, List.setIfInBounds_toArray, List.set_cons_zero, List.set_cons_succ, i64_w, i32_w]
      rfl
    refine pure_ (i := 1) (N := some 139) (v := ?_) (a' := ?_) #[true, true, false, false, false, false, false, false, false, false, false, false, false, false, false, false, false, false, false, false, false, false, false, false, false, false, false] rfl rfl (by kernel_rfl) (fun _ _ _ h => h) (Or.inl ⟨by rfl, ?_⟩) ?_ ?_
    rotate_left
    · intro w'
      go_simp
      with_reducible rfl
    rotate_left
    · simp only [Act.put, List.setIfInBounds_toArray, List.set_cons_zero, List.set_cons_succ, i64_w, i32_w]
      rfl
    refine pure_ (i := 2) (N := some 140) (v := ?_) (a' := ?_) #[true, true, true, false, false, false, false, false, false, false, false, false, false, false, false, false, false, false, false, false, false, false, false, false, false, false, false] rfl rfl (by kernel_rfl) (fun _ _ _ h => h) (Or.inl ⟨by rfl, ?_⟩) ?_ ?_
    rotate_left
    · intro w'
      go_simp
      with_reducible rfl
    rotate_left
    · simp only [Act.put, List.setIfInBounds_toArray, List.set_cons_zero, List.set_cons_succ, i64_w, i32_w]
      rfl
    refine pure_ (i := 4) (N := some 142) (v := ?_) (a' := ?_) #[true, true, true, false, true, false, false, false, false, false, false, false, false, false, false, false, false, false, false, false, false, false, false, false, false, false, false] rfl rfl (by kernel_rfl) (fun _ _ _ h => h) (Or.inl ⟨by rfl, ?_⟩) ?_ ?_
    rotate_left
    · intro w'
      go_simp
      with_reducible rfl
    rotate_left
    · simp only [Act.put, List.setIfInBounds_toArray, List.set_cons_zero, List.set_cons_succ, i64_w, i32_w]
      rfl
    refine pure_ (i := 5) (N := some 143) (v := ?_) (a' := ?_) #[true, true, true, false, true, true, false, false, false, false, false, false, false, false, false, false, false, false, false, false, false, false, false, false, false, false, false] rfl rfl (by kernel_rfl) (fun _ _ _ h => h) (Or.inl ⟨by rfl, ?_⟩) ?_ ?_
    rotate_left
    · intro w'
      go_simp
      with_reducible rfl
    rotate_left
    · simp only [Act.put, List.setIfInBounds_toArray, List.set_cons_zero, List.set_cons_succ, i64_w, i32_w]
      rfl
    refine pure_ (i := 6) (N := some 144) (v := ?_) (a' := ?_) #[true, true, true, false, true, true, true, false, false, false, false, false, false, false, false, false, false, false, false, false, false, false, false, false, false, false, false] rfl rfl (by kernel_rfl) (fun _ _ _ h => h) (Or.inl ⟨by rfl, ?_⟩) ?_ ?_
    rotate_left
    · intro w'
      go_simp
      with_reducible rfl
    rotate_left
    · simp only [Act.put, List.setIfInBounds_toArray, List.set_cons_zero, List.set_cons_succ, i64_w, i32_w]
      rfl
    refine pure_ (i := 11) (N := some 149) (v := ?_) (a' := ?_) #[true, true, true, false, true, true, true, false, false, false, false, true, false, false, false, false, false, false, false, false, false, false, false, false, false, false, false] rfl rfl (by kernel_rfl) (fun _ _ _ h => h) (Or.inl ⟨by rfl, ?_⟩) ?_ ?_
    rotate_left
    · intro w'
      go_simp
      with_reducible rfl
    rotate_left
    · simp only [Act.put, List.setIfInBounds_toArray, List.set_cons_zero, List.set_cons_succ, i64_w, i32_w]
      rfl
    refine pure_ (i := 12) (N := some 150) (v := ?_) (a' := ?_) #[true, true, true, false, true, true, true, false, false, false, false, true, true, false, false, false, false, false, false, false, false, false, false, false, false, false, false] rfl rfl (by kernel_rfl) (fun _ _ _ h => h) (Or.inl ⟨by rfl, ?_⟩) ?_ ?_
    rotate_left
    · intro w'
      go_simp
      with_reducible rfl
    rotate_left
    · simp only [Act.put, List.setIfInBounds_toArray, List.set_cons_zero, List.set_cons_succ, i64_w, i32_w]
      rfl
    refine pure_ (i := 13) (N := some 151) (v := ?_) (a' := ?_) #[true, true, true, false, true, true, true, false, false, false, false, true, true, true, false, false, false, false, false, false, false, false, false, false, false, false, false] rfl rfl (by kernel_rfl) (fun _ _ _ h => h) (Or.inl ⟨by rfl, ?_⟩) ?_ ?_
    rotate_left
    · intro w'
      go_simp
      with_reducible rfl
    rotate_left
    · simp only [Act.put, List.setIfInBounds_toArray, List.set_cons_zero, List.set_cons_succ, i64_w, i32_w]
      rfl
    refine pure_ (i := 15) (N := some 153) (v := ?_) (a' := ?_) #[true, true, true, false, true, true, true, false, false, false, false, true, true, true, false, true, false, false, false, false, false, false, false, false, false, false, false] rfl rfl (by kernel_rfl) (fun _ _ _ h => h) (Or.inl ⟨by rfl, ?_⟩) ?_ ?_
    rotate_left
    · intro w'
      go_simp
      with_reducible rfl
    rotate_left
    · simp only [Act.put, List.setIfInBounds_toArray, List.set_cons_zero, List.set_cons_succ, i64_w, i32_w]
      rfl
    refine pure_ (i := 16) (N := some 154) (v := ?_) (a' := ?_) #[true, true, true, false, true, true, true, false, false, false, false, true, true, true, false, true, true, false, false, false, false, false, false, false, false, false, false] rfl rfl (by kernel_rfl) (fun _ _ _ h => h) (Or.inl ⟨by rfl, ?_⟩) ?_ ?_
    rotate_left
    · intro w'
      go_simp
      with_reducible rfl
    rotate_left
    · simp only [Act.put, List.setIfInBounds_toArray, List.set_cons_zero, List.set_cons_succ, i64_w, i32_w]
      rfl
    refine pure_ (i := 17) (N := some 155) (v := ?_) (a' := ?_) #[true, true, true, false, true, true, true, false, false, false, false, true, true, true, false, true, true, true, false, false, false, false, false, false, false, false, false] rfl rfl (by kernel_rfl) (fun _ _ _ h => h) (Or.inl ⟨by rfl, ?_⟩) ?_ ?_
    rotate_left
    · intro w'
      go_simp
      with_reducible rfl
    rotate_left
    · simp only [Act.put, List.setIfInBounds_toArray, List.set_cons_zero, List.set_cons_succ, i64_w, i32_w]
      rfl
    refine take_ (i := 3) (N := some 141) (v := ?_) (a' := ?_) #[true, true, true, true, true, true, true, false, false, false, false, true, true, true, false, true, true, true, false, false, false, false, false, false, false, false, false] rfl rfl (by kernel_rfl) (fun _ _ _ h => h) (Or.inl ⟨by rfl, ?_⟩) hHeld ?_ ?_
    rotate_left
    · rintro w' ⟨s0, s1, s2, s3⟩
      go_simp
      with_reducible rfl
    rotate_left
    · simp only [Act.put, List.setIfInBounds_toArray, List.set_cons_zero, List.set_cons_succ, i64_w, i32_w]
      rfl
    refine take_ (i := 7) (N := some 145) (v := ?_) (a' := ?_) #[true, true, true, true, true, true, true, true, false, false, false, true, true, true, false, true, true, true, false, false, false, false, false, false, false, false, false] rfl rfl (by kernel_rfl) (fun _ _ _ h => h) (Or.inl ⟨by rfl, ?_⟩) hHeld ?_ ?_
    rotate_left
    · rintro w' ⟨s0, s1, s2, s3⟩
      go_simp
      with_reducible rfl
    rotate_left
    · simp only [Act.put, List.setIfInBounds_toArray, List.set_cons_zero, List.set_cons_succ, i64_w, i32_w]
      rfl
    refine pure_ (i := 8) (N := some 146) (v := ?_) (a' := ?_) #[true, true, true, true, true, true, true, true, true, false, false, true, true, true, false, true, true, true, false, false, false, false, false, false, false, false, false] rfl rfl (by kernel_rfl) (fun _ _ _ h => h) (Or.inl ⟨by rfl, ?_⟩) ?_ ?_
    rotate_left
    · intro w'
      go_simp
      with_reducible rfl
    rotate_left
    · simp only [Act.put, List.setIfInBounds_toArray, List.set_cons_zero, List.set_cons_succ, i64_w, i32_w]
      rfl
    refine take_ (i := 9) (N := some 147) (v := ?_) (a' := ?_) #[true, true, true, true, true, true, true, true, true, true, false, true, true, true, false, true, true, true, false, false, false, false, false, false, false, false, false] rfl rfl (by kernel_rfl) (fun _ _ _ h => h) (Or.inl ⟨by rfl, ?_⟩) hHeld ?_ ?_
    rotate_left
    · rintro w' ⟨s0, s1, s2, s3⟩
      go_simp
      with_reducible rfl
    rotate_left
    · simp only [Act.put, List.setIfInBounds_toArray, List.set_cons_zero, List.set_cons_succ, i64_w, i32_w]
      rfl
    refine pure_ (i := 10) (N := some 148) (v := ?_) (a' := ?_) #[true, true, true, true, true, true, true, true, true, true, true, true, true, true, false, true, true, true, false, false, false, false, false, false, false, false, false] rfl rfl (by kernel_rfl) (fun _ _ _ h => h) (Or.inl ⟨by rfl, ?_⟩) ?_ ?_
    rotate_left
    · intro w'
      go_simp
      with_reducible rfl
    rotate_left
    · simp only [Act.put, List.setIfInBounds_toArray, List.set_cons_zero, List.set_cons_succ, i64_w, i32_w]
      rfl
    refine take_ (i := 14) (N := some 152) (v := ?_) (a' := ?_) #[true, true, true, true, true, true, true, true, true, true, true, true, true, true, true, true, true, true, false, false, false, false, false, false, false, false, false] rfl rfl (by kernel_rfl) (fun _ _ _ h => h) (Or.inl ⟨by rfl, ?_⟩) hHeld ?_ ?_
    rotate_left
    · rintro w' ⟨s0, s1, s2, s3⟩
      go_simp
      with_reducible rfl
    rotate_left
    · simp only [Act.put, List.setIfInBounds_toArray, List.set_cons_zero, List.set_cons_succ, i64_w, i32_w]
      rfl
    refine take_ (i := 18) (N := some 156) (v := ?_) (a' := ?_) #[true, true, true, true, true, true, true, true, true, true, true, true, true, true, true, true, true, true, true, false, false, false, false, false, false, false, false] rfl rfl (by kernel_rfl) (fun _ _ _ h => h) (Or.inl ⟨by rfl, ?_⟩) hHeld ?_ ?_
    rotate_left
    · rintro w' ⟨s0, s1, s2, s3⟩
      go_simp
      with_reducible rfl
    rotate_left
    · simp only [Act.put, List.setIfInBounds_toArray, List.set_cons_zero, List.set_cons_succ, i64_w, i32_w]
      rfl
    refine pure_ (i := 19) (N := some 157) (v := ?_) (a' := ?_) #[true, true, true, true, true, true, true, true, true, true, true, true, true, true, true, true, true, true, true, true, false, false, false, false, false, false, false] rfl rfl (by kernel_rfl) (fun _ _ _ h => h) (Or.inl ⟨by rfl, ?_⟩) ?_ ?_
    rotate_left
    · intro w'
      go_simp
      with_reducible rfl
    rotate_left
    · simp only [Act.put, List.setIfInBounds_toArray, List.set_cons_zero, List.set_cons_succ, i64_w, i32_w]
      rfl
    refine pure_ (i := 20) (N := some 158) (v := ?_) (a' := ?_) #[true, true, true, true, true, true, true, true, true, true, true, true, true, true, true, true, true, true, true, true, true, false, false, false, false, false, false] rfl rfl (by kernel_rfl) (fun _ _ _ h => h) (Or.inl ⟨by rfl, ?_⟩) ?_ ?_
    rotate_left
    · intro w'
      go_simp
      with_reducible rfl
    rotate_left
    · simp only [Act.put, List.setIfInBounds_toArray, List.set_cons_zero, List.set_cons_succ, i64_w, i32_w]
      rfl
    refine take_ (i := 21) (N := some 159) (v := ?_) (a' := ?_) #[true, true, true, true, true, true, true, true, true, true, true, true, true, true, true, true, true, true, true, true, true, true, false, false, false, false, false] rfl rfl (by kernel_rfl) (fun _ _ _ h => h) (Or.inl ⟨by rfl, ?_⟩) hHeld ?_ ?_
    rotate_left
    · rintro w' ⟨s0, s1, s2, s3⟩
      go_simp
      with_reducible rfl
    rotate_left
    · simp only [Act.put, List.setIfInBounds_toArray, List.set_cons_zero, List.set_cons_succ, i64_w, i32_w]
      rfl
    refine pure_ (i := 22) (N := some 160) (v := ?_) (a' := ?_) #[true, true, true, true, true, true, true, true, true, true, true, true, true, true, true, true, true, true, true, true, true, true, true, false, false, false, false] rfl rfl (by kernel_rfl) (fun _ _ _ h => h) (Or.inl ⟨by rfl, ?_⟩) ?_ ?_
    rotate_left
    · intro w'
      go_simp
      with_reducible rfl
    rotate_left
    · simp only [Act.put, List.setIfInBounds_toArray, List.set_cons_zero, List.set_cons_succ, i64_w, i32_w]
      rfl
    refine pure_ (i := 23) (N := some 161) (v := ?_) (a' := ?_) #[true, true, true, true, true, true, true, true, true, true, true, true, true, true, true, true, true, true, true, true, true, true, true, true, false, false, false] rfl rfl (by kernel_rfl) (fun _ _ _ h => h) (Or.inl ⟨by rfl, ?_⟩) ?_ ?_
    rotate_left
    · intro w'
      go_simp
      with_reducible rfl
    rotate_left
    · simp only [Act.put, List.setIfInBounds_toArray, List.set_cons_zero, List.set_cons_succ, i64_w, i32_w]
      rfl
    refine pure_ (i := 24) (N := some 162) (v := ?_) (a' := ?_) #[true, true, true, true, true, true, true, true, true, true, true, true, true, true, true, true, true, true, true, true, true, true, true, true, true, false, false] rfl rfl (by kernel_rfl) (fun _ _ _ h => h) (Or.inl ⟨by rfl, ?_⟩) ?_ ?_
    rotate_left
    · intro w'
      go_simp
      with_reducible rfl
    rotate_left
    · simp only [Act.put, List.setIfInBounds_toArray, List.set_cons_zero, List.set_cons_succ, i64_w, i32_w]
      rfl
    refine pure_ (i := 25) (N := some 163) (v := ?_) (a' := ?_) #[true, true, true, true, true, true, true, true, true, true, true, true, true, true, true, true, true, true, true, true, true, true, true, true, true, true, false] rfl rfl (by kernel_rfl) (fun _ _ _ h => h) (Or.inl ⟨by rfl, ?_⟩) ?_ ?_
    rotate_left
    · intro w'
      go_simp
      with_reducible rfl
    rotate_left
    · simp only [Act.put, List.setIfInBounds_toArray, List.set_cons_zero, List.set_cons_succ, i64_w, i32_w]
      rfl
    refine last_ (i := 26) (N := none) #[true, true, true, true, true, true, true, true, true, true, true, true, true, true, true, true, true, true, true, true, true, true, true, true, true, true, true] rfl rfl (by kernel_rfl) (by decide) (fun K hK => ?_)
    refine skip_ (w1 := ?_) (by rfl) rfl ?_ ?_
    rotate_left
    · go_simp
      rfl
    refine hK.out _ _ ?_
    clear hK K
    refine done_ (by kernel_rfl) ?_
    obtain ⟨off, hoff, hoff0, hoff1⟩ : ∃ off, off = x + y * 256 ∧ 0 ≤ off ∧ off < 65536 := ⟨_, rfl, off_bounds hxb hyb⟩
    rw [or_bytes x y hxb hyb, ← hoff]
    have KS12 := Aside0.mk (SN_drew (SN_s (sl2 := .slice A8 nn c8) (so2 := off) (sn2 := 0) KS11.out hsg hsb3 hsb2 1 (.int .i64 off) rfl))
    obtain ⟨W12, hW12⟩ : ∃ W12, W12 = (W11.setCell ⟨sb, 1, none⟩ (.int .i64 off)).drew := ⟨_, rfl⟩
    rw [← hW12] at KS12 ⊢
    have Koff := Aside0.mk hoff
    clear hW12 hoff h0 h1 h2 h3 h4 h5 y0 y1 y2 y3 y4 y5 hHeld hx hy
    obtain ⟨h0, h1, h2, h3, h4, h5⟩ := RD_cells (SN_rd KS12.out)
    obtain ⟨y0, y1, y2, y3, y4, y5⟩ := SN_cells KS12.out
    go_wp2
    by_cases c7 : off = 0
    · have hq : (off == 0) = true := by rw [c7]; rfl
      have Kst : Aside0 (step b.length most size (b.drop at_) = .fail 9 ee) := ⟨by
        rw [Kdr.out, step_d KL.out Kc3.out Kc4.out, Kdd.out, Kdx.out]
        exact tail_range (by rw [← Koff.out]; exact Or.inl c7) he5⟩
      clear c7
      go_quiet (fail)
      obtain ⟨W13, hW⟩ : ∃ W13, W13 = W12.drewN nq := ⟨_, rfl⟩
      rw [← hW]
      have KS13 : Aside0 (SN w0 w base g sb (some ad) b.length c most W13 ee (size + (nn : Nat)) 0 bad (.slice A8 nn c8) off 0) := ⟨by rw [hW]; exact SN_drewN KS12.out nq⟩
      clear hW h0 h1 h2 h3 h4 h5
      obtain ⟨h0, h1, h2, h3, h4, h5⟩ := RD_cells (SN_rd KS13.out)
      go_wp2
      refine start_ (n := 9) (S := fun w' => w'.heap[sb]? = some (.cells #[.slice A8 nn c8, .int .i64 off, .int .i64 0] 67 (0, 0)) ∧ w'.cell? ⟨g, 0, none⟩ = some (.slice (some ad) b.length c) ∧ w'.cell? ⟨g, 1, none⟩ = some (.int .i64 ee)) (ds := [7]) #[false, false, false, false, false, false, false, false, false] (by kernel_rfl) rfl rfl ⟨(show W13.heap[sb]? = _ from (SN_row KS13.out)), (show W13.cell? _ = _ from h0), (show W13.cell? _ = _ from h1)⟩ (fun hHeld => ?_)
      refine pure_ (i := 1) (N := some 177) (v := ?_) (a' := ?_) #[false, true, false, false, false, false, false, false, false] rfl rfl (by kernel_rfl) (fun _ _ _ h => h) (Or.inl ⟨by rfl, ?_⟩) ?_ ?_
      rotate_left
      · intro w'
        go_simp
        with_reducible rfl
      rotate_left
      · simp only [Act.put, List.setIfInBounds_toArray, List.set_cons_zero, List.set_cons_succ, i64_w, i32_w]
        rfl
      refine pure_ (i := 2) (N := some 178) (v := ?_) (a' := ?_) #[false, true, true, false, false, false, false, false, false] rfl rfl (by kernel_rfl) (fun _ _ _ h => h) (Or.inl ⟨by rfl, ?_⟩) ?_ ?_
      rotate_left
      · intro w'
        go_simp
        with_reducible rfl
      rotate_left
      · simp only [Act.put, List.setIfInBounds_toArray, List.set_cons_zero, List.set_cons_succ, i64_w, i32_w]
        rfl
      refine pure_ (i := 3) (N := some 179) (v := ?_) (a' := ?_) #[false, true, true, true, false, false, false, false, false] rfl rfl (by kernel_rfl) (fun _ _ _ h => h) (Or.inl ⟨by rfl, ?_⟩) ?_ ?_
      rotate_left
      · intro w'
        go_simp
        with_reducible rfl
      rotate_left
      · simp only [Act.put, List.setIfInBounds_toArray, List.set_cons_zero, List.set_cons_succ, i64_w, i32_w]
        rfl
      refine pure_ (i := 4) (N := some 180) (v := ?_) (a' := ?_) #[false, true, true, true, true, false, false, false, false] rfl rfl (by kernel_rfl) (fun _ _ _ h => h) (Or.inl ⟨by rfl, ?_⟩) ?_ ?_
      rotate_left
      · intro w'
        go_simp
        with_reducible rfl
      rotate_left
      · simp only [Act.put, List.setIfInBounds_toArray, List.set_cons_zero, List.set_cons_succ, i64_w, i32_w]
        rfl
      refine take_ (i := 0) (N := some 176) (v := .agg #[.slice A8 nn c8, .int .i64 off, .int .i64 0]) (a' := ?_) #[true, true, true, true, true, false, false, false, false] rfl rfl (by kernel_rfl) (fun _ _ _ h => h) (Or.inl ⟨by rfl, ?_⟩) hHeld ?_ ?_
      · rintro w' ⟨s0, s1, s2⟩
        exact Arr.exec_load_row 67 (Operand.tmp 2) (by rfl) sb (by rfl) _ _ _ _ s0 Try.underlying67 rfl seqSize
      rotate_left
      · simp only [Act.put, List.setIfInBounds_toArray, List.set_cons_zero, List.set_cons_succ, i64_w, i32_w]
        rfl
      refine take_ (i := 5) (N := some 181) (v := ?_) (a' := ?_) #[true, true, true, true, true, true, false, false, false] rfl rfl (by kernel_rfl) (fun _ _ _ h => h) (Or.inl ⟨by rfl, ?_⟩) hHeld ?_ ?_
      rotate_left
      · rintro w' ⟨s0, s1, s2⟩
        go_simp
        with_reducible rfl
      rotate_left
      · simp only [Act.put, List.setIfInBounds_toArray, List.set_cons_zero, List.set_cons_succ, i64_w, i32_w]
        rfl
      refine one_ (i := 6) (N := some 182) #[true, true, true, true, true, true, true, false, false] rfl rfl (by kernel_rfl) (by decide) (fun K hK => ?_)
      refine goes_ Try.func77 (by kernel_rfl) rfl #[.pointer (some ⟨g, 0, none⟩), .int .i64 9, .int .i64 ee] (by rfl) rfl rfl (by simp only [List.map_toArray, List.map_cons, List.map_nil]; rfl) ?_
      with_reducible refine (fail_any (SN_rd (SN_drew KS13.out)) 9 ee).mono ?_
      rintro e w4 ⟨rfl, hR4, hO4⟩
      refine ⟨_, rfl, ?_⟩
      have KF := Aside0.mk (SN_call (w1 := w4) (SN_drew KS13.out) hg hsg hR4 hO4)
      obtain ⟨y0, y1, y2, y3, y4, y5⟩ := SN_cells KF.out
      refine hK.out _ _ ⟨SN_row KF.out, (RD_cells (SN_rd KF.out)).1, (RD_cells (SN_rd KF.out)).2.1⟩ (fun hHeld => ?_)
      clear hK K
      refine norm_ (a' := ?_) ?_ ?_
      rotate_left
      · show Act.put _ (some 182) _ = _
        simp only [Act.put, List.setIfInBounds_toArray, List.set_cons_zero, List.set_cons_succ, i64_w, i32_w]
        rfl
      refine last_ (i := 7) (N := none) #[true, true, true, true, true, true, true, true, false] rfl rfl (by kernel_rfl) (by decide) (fun K hK => ?_)
      refine skip_ (w1 := ?_) (by rfl) rfl ?_ ?_
      rotate_left
      · go_simp
        rfl
      refine hK.out _ _ ?_
      clear hK K
      refine pure_ (i := 8) (N := some 3) (v := ?_) (a' := ?_) #[true, true, true, true, true, true, true, true, true] rfl rfl (by kernel_rfl) (fun _ _ _ h => h) (Or.inl ⟨by rfl, ?_⟩) ?_ ?_
      rotate_left
      · intro w'
        go_simp
        with_reducible rfl
      rotate_left
      · simp only [Act.put, List.setIfInBounds_toArray, List.set_cons_zero, List.set_cons_succ, i64_w, i32_w]
        rfl
      refine done_ (by kernel_rfl) ?_
      have KE := Aside0.mk (SN_s (SN_s (SN_s KF.out hsg hsb3 hsb2 0 (.slice A8 nn c8) rfl) hsg hsb3 hsb2 1 (.int .i64 off) rfl) hsg hsb3 hsb2 2 (.int .i64 0) rfl)
      go_wp2
      refine bodyPost_ret (results_list (rs := [.cell 2 67, .tmp 3]) rfl (by simp) (.cell sb 67 _ _ _ rfl (SN_row KE.out) Try.underlying67 rfl seqSize (.tmp .nil))) rfl ?_
      exact next_fail KE.out Kst.out
    have hq : (off == 0) = false := by simpa using c7
    by_cases c8' : size + (nn : Int) < off
    · have Kst : Aside0 (step b.length most size (b.drop at_) = .fail 9 ee) := ⟨by
        rw [Kdr.out, step_d KL.out Kc3.out Kc4.out, Kdd.out, Kdx.out]
        exact tail_range (by rw [← Koff.out]; exact Or.inr c8') he5⟩
      go_quiet (fail)
      obtain ⟨W13, hW⟩ : ∃ W13, W13 = W12.drewN nq := ⟨_, rfl⟩
      rw [← hW]
      have KS13 : Aside0 (SN w0 w base g sb (some ad) b.length c most W13 ee (size + (nn : Nat)) 0 bad (.slice A8 nn c8) off 0) := ⟨by rw [hW]; exact SN_drewN KS12.out nq⟩
      clear hW h0 h1 h2 h3 h4 h5
      obtain ⟨h0, h1, h2, h3, h4, h5⟩ := RD_cells (SN_rd KS13.out)
      go_wp2
      refine start_ (n := 9) (S := fun w' => w'.heap[sb]? = some (.cells #[.slice A8 nn c8, .int .i64 off, .int .i64 0] 67 (0, 0)) ∧ w'.cell? ⟨g, 0, none⟩ = some (.slice (some ad) b.length c) ∧ w'.cell? ⟨g, 1, none⟩ = some (.int .i64 ee)) (ds := [7]) #[false, false, false, false, false, false, false, false, false] (by kernel_rfl) rfl rfl ⟨(show W13.heap[sb]? = _ from (SN_row KS13.out)), (show W13.cell? _ = _ from h0), (show W13.cell? _ = _ from h1)⟩ (fun hHeld => ?_)
      refine pure_ (i := 1) (N := some 177) (v := ?_) (a' := ?_) #[false, true, false, false, false, false, false, false, false] rfl rfl (by kernel_rfl) (fun _ _ _ h => h) (Or.inl ⟨by rfl, ?_⟩) ?_ ?_
      rotate_left
      · intro w'
        go_simp
        with_reducible rfl
      rotate_left
      · simp only [Act.put, List.setIfInBounds_toArray, List.set_cons_zero, List.set_cons_succ, i64_w, i32_w]
        rfl
      refine pure_ (i := 2) (N := some 178) (v := ?_) (a' := ?_) #[false, true, true, false, false, false, false, false, false] rfl rfl (by kernel_rfl) (fun _ _ _ h => h) (Or.inl ⟨by rfl, ?_⟩) ?_ ?_
      rotate_left
      · intro w'
        go_simp
        with_reducible rfl
      rotate_left
      · simp only [Act.put, List.setIfInBounds_toArray, List.set_cons_zero, List.set_cons_succ, i64_w, i32_w]
        rfl
      refine pure_ (i := 3) (N := some 179) (v := ?_) (a' := ?_) #[false, true, true, true, false, false, false, false, false] rfl rfl (by kernel_rfl) (fun _ _ _ h => h) (Or.inl ⟨by rfl, ?_⟩) ?_ ?_
      rotate_left
      · intro w'
        go_simp
        with_reducible rfl
      rotate_left
      · simp only [Act.put, List.setIfInBounds_toArray, List.set_cons_zero, List.set_cons_succ, i64_w, i32_w]
        rfl
      refine pure_ (i := 4) (N := some 180) (v := ?_) (a' := ?_) #[false, true, true, true, true, false, false, false, false] rfl rfl (by kernel_rfl) (fun _ _ _ h => h) (Or.inl ⟨by rfl, ?_⟩) ?_ ?_
      rotate_left
      · intro w'
        go_simp
        with_reducible rfl
      rotate_left
      · simp only [Act.put, List.setIfInBounds_toArray, List.set_cons_zero, List.set_cons_succ, i64_w, i32_w]
        rfl
      refine take_ (i := 0) (N := some 176) (v := .agg #[.slice A8 nn c8, .int .i64 off, .int .i64 0]) (a' := ?_) #[true, true, true, true, true, false, false, false, false] rfl rfl (by kernel_rfl) (fun _ _ _ h => h) (Or.inl ⟨by rfl, ?_⟩) hHeld ?_ ?_
      · rintro w' ⟨s0, s1, s2⟩
        exact Arr.exec_load_row 67 (Operand.tmp 2) (by rfl) sb (by rfl) _ _ _ _ s0 Try.underlying67 rfl seqSize
      rotate_left
      · simp only [Act.put, List.setIfInBounds_toArray, List.set_cons_zero, List.set_cons_succ, i64_w, i32_w]
        rfl
      refine take_ (i := 5) (N := some 181) (v := ?_) (a' := ?_) #[true, true, true, true, true, true, false, false, false] rfl rfl (by kernel_rfl) (fun _ _ _ h => h) (Or.inl ⟨by rfl, ?_⟩) hHeld ?_ ?_
      rotate_left
      · rintro w' ⟨s0, s1, s2⟩
        go_simp
        with_reducible rfl
      rotate_left
      · simp only [Act.put, List.setIfInBounds_toArray, List.set_cons_zero, List.set_cons_succ, i64_w, i32_w]
        rfl
      refine one_ (i := 6) (N := some 182) #[true, true, true, true, true, true, true, false, false] rfl rfl (by kernel_rfl) (by decide) (fun K hK => ?_)
      refine goes_ Try.func77 (by kernel_rfl) rfl #[.pointer (some ⟨g, 0, none⟩), .int .i64 9, .int .i64 ee] (by rfl) rfl rfl (by simp only [List.map_toArray, List.map_cons, List.map_nil]; rfl) ?_
      with_reducible refine (fail_any (SN_rd (SN_drew KS13.out)) 9 ee).mono ?_
      rintro e w4 ⟨rfl, hR4, hO4⟩
      refine ⟨_, rfl, ?_⟩
      have KF := Aside0.mk (SN_call (w1 := w4) (SN_drew KS13.out) hg hsg hR4 hO4)
      obtain ⟨y0, y1, y2, y3, y4, y5⟩ := SN_cells KF.out
      refine hK.out _ _ ⟨SN_row KF.out, (RD_cells (SN_rd KF.out)).1, (RD_cells (SN_rd KF.out)).2.1⟩ (fun hHeld => ?_)
      clear hK K
      refine norm_ (a' := ?_) ?_ ?_
      rotate_left
      · show Act.put _ (some 182) _ = _
        simp only [Act.put, List.setIfInBounds_toArray, List.set_cons_zero, List.set_cons_succ, i64_w, i32_w]
        rfl
      refine last_ (i := 7) (N := none) #[true, true, true, true, true, true, true, true, false] rfl rfl (by kernel_rfl) (by decide) (fun K hK => ?_)
      refine skip_ (w1 := ?_) (by rfl) rfl ?_ ?_
      rotate_left
      · go_simp
        rfl
      refine hK.out _ _ ?_
      clear hK K
      refine pure_ (i := 8) (N := some 3) (v := ?_) (a' := ?_) #[true, true, true, true, true, true, true, true, true] rfl rfl (by kernel_rfl) (fun _ _ _ h => h) (Or.inl ⟨by rfl, ?_⟩) ?_ ?_
      rotate_left
      · intro w'
        go_simp
        with_reducible rfl
      rotate_left
      · simp only [Act.put, List.setIfInBounds_toArray, List.set_cons_zero, List.set_cons_succ, i64_w, i32_w]
        rfl
      refine done_ (by kernel_rfl) ?_
      have KE := Aside0.mk (SN_s (SN_s (SN_s KF.out hsg hsb3 hsb2 0 (.slice A8 nn c8) rfl) hsg hsb3 hsb2 1 (.int .i64 off) rfl) hsg hsb3 hsb2 2 (.int .i64 0) rfl)
      go_wp2
      refine bodyPost_ret (results_list (rs := [.cell 2 67, .tmp 3]) rfl (by simp) (.cell sb 67 _ _ _ rfl (SN_row KE.out) Try.underlying67 rfl seqSize (.tmp .nil))) rfl ?_
      exact next_fail KE.out Kst.out
    go_quiet (fail)
    obtain ⟨W13, hW⟩ : ∃ W13, W13 = W12.drewN nq := ⟨_, rfl⟩
    rw [← hW]
    have KS13 : Aside0 (SN w0 w base g sb (some ad) b.length c most W13 ee (size + (nn : Nat)) 0 bad (.slice A8 nn c8) off 0) := ⟨by rw [hW]; exact SN_drewN KS12.out nq⟩
    clear hW h0 h1 h2 h3 h4 h5
    obtain ⟨h0, h1, h2, h3, h4, h5⟩ := RD_cells (SN_rd KS13.out)
    have f1 := RD_frz (SN_rd KS13.out) 1
    have Krng : Aside0 (¬ (x + y * 256 = 0 ∨ size + (nn : Int) < x + y * 256)) := ⟨by rw [← Koff.out]; exact fun h => h.elim c7 c8'⟩
    have hee2 : ee + 2 ≤ b.length := he5
    have hand := and15 htb
    cases hL2 : lenH (t % 16) (b.drop (ee + 2)) with
    | none =>
      have KL2 := Aside0.mk hL2
      clear hL2
      have Kst : Aside0 (step b.length most size (b.drop at_) = .fail 6 b.length) := ⟨by
        rw [Kdr.out, step_d KL.out Kc3.out Kc4.out, Kdd.out, Kdx.out]
        exact tail_none Krng.out KL2.out⟩
      go_wp2_with (go_at_call 78; obtain ⟨W14, hW14⟩ : ∃ W14, W14 = W13.setCell ⟨g, 1, none⟩ (.int .i64 ((ee : Int) + 2)) := ⟨_, rfl⟩; rw [← hW14]; have KS14 : Aside0 (SN w0 w base g sb (some ad) b.length c most W14 ((ee + 2 : Nat) : Int) (size + (nn : Nat)) 0 bad (.slice A8 nn c8) off 0) := ⟨(by rw [hW14, two_cast]; exact SN_set (at2 := (ee : Int) + 2) (size2 := size + (nn : Nat)) KS13.out hg hsg 1 ((ee : Int) + 2) rfl)⟩; clear hW14; refine (length_any (SN_rd KS14.out) (SN_base KS14.out) hg KC.out Kb.out (Nat.le_trans hN (by decide)) hee2 (t % 16) (Int.emod_nonneg _ (by decide)) (mod16 t)).mono ?_; rintro e w15 ⟨hO15, h16⟩; have h16 := h16.resolve_right (by rintro ⟨m, at3, hm, -⟩; rw [KL2.out] at hm; cases hm); obtain ⟨-, rfl, at3, hR⟩ := h16; have KF1 := Aside0.mk (SN_call (w1 := w15) KS14.out hg hsg hR hO15); obtain ⟨y0, y1, y2, y3, y4, y5⟩ := SN_cells KF1.out; clear hR hO15)
      have KF := Aside0.mk (SN_s (sl2 := .slice A8 nn c8) (so2 := off) (sn2 := 0) KF1.out hsg hsb3 hsb2 2 (.int .i64 0) rfl)
      have KE := Aside0.mk (SN_s (SN_s (SN_s KF.out hsg hsb3 hsb2 0 (.slice A8 nn c8) rfl) hsg hsb3 hsb2 1 (.int .i64 off) rfl) hsg hsb3 hsb2 2 (.int .i64 0) rfl)
      refine bodyPost_ret (results_list (rs := [.cell 2 67, .tmp 3]) rfl (by simp) (.cell sb 67 _ _ _ rfl (SN_row KE.out) Try.underlying67 rfl seqSize (.tmp .nil))) rfl ?_
      exact next_fail KE.out Kst.out
    | some p2 =>
      obtain ⟨m, r4⟩ := p2
      have KL2 := Aside0.mk hL2
      clear hL2
      go_wp2_with (go_at_call 78; obtain ⟨W14, hW14⟩ : ∃ W14, W14 = W13.setCell ⟨g, 1, none⟩ (.int .i64 ((ee : Int) + 2)) := ⟨_, rfl⟩; rw [← hW14]; have KS14 : Aside0 (SN w0 w base g sb (some ad) b.length c most W14 ((ee + 2 : Nat) : Int) (size + (nn : Nat)) 0 bad (.slice A8 nn c8) off 0) := ⟨(by rw [hW14, two_cast]; exact SN_set (at2 := (ee : Int) + 2) (size2 := size + (nn : Nat)) KS13.out hg hsg 1 ((ee : Int) + 2) rfl)⟩; clear hW14; refine (length_any (SN_rd KS14.out) (SN_base KS14.out) hg KC.out Kb.out (Nat.le_trans hN (by decide)) hee2 (t % 16) (Int.emod_nonneg _ (by decide)) (mod16 t)).mono ?_; rintro e w15 ⟨hO15, h16⟩; have h16 := h16.resolve_left (by rintro ⟨h, -⟩; rw [KL2.out] at h; cases h); obtain ⟨m1, at3, hm, hat3, hat4, hm0, hm1, rfl, hR⟩ := h16; rw [KL2.out] at hm; simp only [Option.some.injEq, Prod.mk.injEq] at hm; obtain ⟨hmm, hr4⟩ := hm; subst hmm; have KS15 := Aside0.mk (SN_call (w1 := w15) KS14.out hg hsg hR hO15); obtain ⟨y0, y1, y2, y3, y4, y5⟩ := SN_cells KS15.out; clear hR hO15)
      have Kr4 : Aside0 (r4 = b.drop at3) := ⟨hr4⟩
      clear hr4
      have hm2k : m ≤ 300000000 := Int.le_trans hm1 (big_m hN)
      have hs2 : 0 ≤ size + (nn : Int) := Int.add_nonneg hs (Int.natCast_nonneg _)
      have hs3 : size + (nn : Int) ≤ most := room_le Kc3.out
      have KS16 := Aside0.mk (SN_s (sl2 := .slice A8 nn c8) (so2 := off) (sn2 := m + 4) (SN_s (sl2 := .slice A8 nn c8) (so2 := off) (sn2 := m) KS15.out hsg hsb3 hsb2 2 (.int .i64 m) rfl) hsg hsb3 hsb2 2 (.int .i64 (m + 4)) rfl)
      obtain ⟨W16, hW16⟩ : ∃ W16, W16 = (w15.setCell ⟨sb, 2, none⟩ (.int .i64 m)).setCell ⟨sb, 2, none⟩ (.int .i64 (m + 4)) := ⟨_, rfl⟩
      rw [← hW16] at KS16 ⊢
      clear hW16 y0 y1 y2 y3 y4 y5
      obtain ⟨y0, y1, y2, y3, y4, y5⟩ := SN_cells KS16.out
      have hm4 : 0 ≤ m + 4 := Int.add_nonneg hm0 (by decide)
      have hm5 : m + 4 ≤ 4000000000 := m4_le hm2k
      have hm6 : most ≤ 4000000000 := Int.le_trans hm2 (by decide)
      by_cases c9 : most - (size + (nn : Int)) < m + 4
      · have Kst : Aside0 (step b.length most size (b.drop at_) = .fail 2 at_) := ⟨by
          rw [Kdr.out, step_d KL.out Kc3.out Kc4.out, Kdd.out, Kdx.out, tail_some Krng.out KL2.out, if_pos c9]
          exact congrArg _ (tok_place hlt)⟩
        refine start_ (n := 8) (S := fun w' => w'.heap[sb]? = some (.cells #[.slice A8 nn c8, .int .i64 off, .int .i64 (m + 4)] 67 (0, 0)) ∧ w'.cell? ⟨sb, 2, none⟩ = some (.int .i64 (m + 4))) (ds := [6]) #[false, false, false, false, false, false, false, false] (by kernel_rfl) rfl rfl ⟨(show W16.heap[sb]? = _ from (SN_row KS16.out)), (show W16.cell? _ = _ from y2)⟩ (fun hHeld => ?_)
        refine pure_ (i := 1) (N := some 206) (v := ?_) (a' := ?_) #[false, true, false, false, false, false, false, false] rfl rfl (by kernel_rfl) (fun _ _ _ h => h) (Or.inl ⟨by rfl, ?_⟩) ?_ ?_
        rotate_left
        · intro w'
          go_simp
          with_reducible rfl
        rotate_left
        · simp only [Act.put, List.setIfInBounds_toArray, List.set_cons_zero, List.set_cons_succ, i64_w, i32_w]
          rfl
        refine pure_ (i := 2) (N := some 207) (v := ?_) (a' := ?_) #[false, true, true, false, false, false, false, false] rfl rfl (by kernel_rfl) (fun _ _ _ h => h) (Or.inl ⟨by rfl, ?_⟩) ?_ ?_
        rotate_left
        · intro w'
          go_simp
          with_reducible rfl
        rotate_left
        · simp only [Act.put, List.setIfInBounds_toArray, List.set_cons_zero, List.set_cons_succ, i64_w, i32_w]
          rfl
        refine pure_ (i := 4) (N := some 209) (v := ?_) (a' := ?_) #[false, true, true, false, true, false, false, false] rfl rfl (by kernel_rfl) (fun _ _ _ h => h) (Or.inl ⟨by rfl, ?_⟩) ?_ ?_
        rotate_left
        · intro w'
          go_simp
          with_reducible rfl
        rotate_left
        · simp only [Act.put, List.setIfInBounds_toArray, List.set_cons_zero, List.set_cons_succ, i64_w, i32_w]
          rfl
        refine take_ (i := 0) (N := some 205) (v := .agg #[.slice A8 nn c8, .int .i64 off, .int .i64 (m + 4)]) (a' := ?_) #[true, true, true, false, true, false, false, false] rfl rfl (by kernel_rfl) (fun _ _ _ h => h) (Or.inl ⟨by rfl, ?_⟩) hHeld ?_ ?_
        · rintro w' ⟨s0, s1⟩
          exact Arr.exec_load_row 67 (Operand.tmp 2) (by rfl) sb (by rfl) _ _ _ _ s0 Try.underlying67 rfl seqSize
        rotate_left
        · simp only [Act.put, List.setIfInBounds_toArray, List.set_cons_zero, List.set_cons_succ, i64_w, i32_w]
          rfl
        refine take_ (i := 3) (N := some 208) (v := ?_) (a' := ?_) #[true, true, true, true, true, false, false, false] rfl rfl (by kernel_rfl) (fun _ _ _ h => h) (Or.inl ⟨by rfl, ?_⟩) hHeld ?_ ?_
        rotate_left
        · rintro w' ⟨s0, s1⟩
          go_simp
          with_reducible rfl
        rotate_left
        · simp only [Act.put, List.setIfInBounds_toArray, List.set_cons_zero, List.set_cons_succ, i64_w, i32_w]
          rfl
        refine one_ (i := 5) (N := some 210) #[true, true, true, true, true, true, false, false] rfl rfl (by kernel_rfl) (by decide) (fun K hK => ?_)
        refine goes_ Try.func79 (by kernel_rfl) rfl #[.pointer (some ⟨g, 0, none⟩), .int .i64 (m + 4), .int .i64 at_] (by rfl) rfl rfl (by simp only [List.map_toArray, List.map_cons, List.map_nil]; rfl) ?_
        with_reducible refine (room_any (SN_rd (SN_drew KS16.out)) (m + 4) at_ hm4 hm5 hs2 hs3 hm6).mono ?_
        rintro e w17 ⟨hO17, h18⟩
        have h18 := h18.resolve_left (fun h => absurd h.1 (Int.not_le.2 c9))
        obtain ⟨-, rfl, hR17⟩ := h18
        have KF := Aside0.mk (SN_call (w1 := w17) (SN_drew KS16.out) hg hsg hR17 hO17)
        obtain ⟨z0, z1, z2, z3, z4, z5⟩ := SN_cells KF.out
        refine ⟨_, rfl, ?_⟩
        refine hK.out _ _ ⟨SN_row KF.out, (SN_cells KF.out).2.2.1⟩ (fun hHeld => ?_)
        clear hK K
        refine norm_ (a' := ?_) ?_ ?_
        rotate_left
        · show Act.put _ (some 210) _ = _
          simp only [Act.put, List.setIfInBounds_toArray, List.set_cons_zero, List.set_cons_succ, i64_w, i32_w]
          rfl
        refine last_ (i := 6) (N := none) #[true, true, true, true, true, true, true, false] rfl rfl (by kernel_rfl) (by decide) (fun K hK => ?_)
        refine skip_ (w1 := ?_) (by rfl) rfl ?_ ?_
        rotate_left
        · go_simp
          rfl
        refine hK.out _ _ ?_
        clear hK K
        refine pure_ (i := 7) (N := some 3) (v := ?_) (a' := ?_) #[true, true, true, true, true, true, true, true] rfl rfl (by kernel_rfl) (fun _ _ _ h => h) (Or.inl ⟨by rfl, ?_⟩) ?_ ?_
        rotate_left
        · intro w'
          go_simp
          with_reducible rfl
        rotate_left
        · simp only [Act.put, List.setIfInBounds_toArray, List.set_cons_zero, List.set_cons_succ, i64_w, i32_w]
          rfl
        refine done_ (by kernel_rfl) ?_
        go_wp2
        have KE := Aside0.mk (SN_s (SN_s (SN_s KF.out hsg hsb3 hsb2 0 (.slice A8 nn c8) rfl) hsg hsb3 hsb2 1 (.int .i64 off) rfl) hsg hsb3 hsb2 2 (.int .i64 (m + 4)) rfl)
        refine bodyPost_ret (results_list (rs := [.cell 2 67, .tmp 3]) rfl (by simp) (.cell sb 67 _ _ _ rfl (SN_row KE.out) Try.underlying67 rfl seqSize (.tmp .nil))) rfl ?_
        exact next_fail KE.out Kst.out
      have Kst : Aside0 (step b.length most size (b.drop at_) = .seq (r1.take nn) off (m + 4) r4) := ⟨by
        rw [Kdr.out, step_d KL.out Kc3.out Kc4.out, Kdd.out, Kdx.out, tail_some Krng.out KL2.out, if_neg c9, ← Koff.out]⟩
      refine start_ (n := 8) (S := fun w' => w'.heap[sb]? = some (.cells #[.slice A8 nn c8, .int .i64 off, .int .i64 (m + 4)] 67 (0, 0)) ∧ w'.cell? ⟨sb, 2, none⟩ = some (.int .i64 (m + 4))) (ds := [6]) #[false, false, false, false, false, false, false, false] (by kernel_rfl) rfl rfl ⟨(show W16.heap[sb]? = _ from (SN_row KS16.out)), (show W16.cell? _ = _ from y2)⟩ (fun hHeld => ?_)
      refine pure_ (i := 1) (N := some 206) (v := ?_) (a' := ?_) #[false, true, false, false, false, false, false, false] rfl rfl (by kernel_rfl) (fun _ _ _ h => h) (Or.inl ⟨by rfl, ?_⟩) ?_ ?_
      rotate_left
      · intro w'
        go_simp
        with_reducible rfl
      rotate_left
      · simp only [Act.put, List.setIfInBounds_toArray, List.set_cons_zero, List.set_cons_succ, i64_w, i32_w]
        rfl
      refine pure_ (i := 2) (N := some 207) (v := ?_) (a' := ?_) #[false, true, true, false, false, false, false, false] rfl rfl (by kernel_rfl) (fun _ _ _ h => h) (Or.inl ⟨by rfl, ?_⟩) ?_ ?_
      rotate_left
      · intro w'
        go_simp
        with_reducible rfl
      rotate_left
      · simp only [Act.put, List.setIfInBounds_toArray, List.set_cons_zero, List.set_cons_succ, i64_w, i32_w]
        rfl
      refine pure_ (i := 4) (N := some 209) (v := ?_) (a' := ?_) #[false, true, true, false, true, false, false, false] rfl rfl (by kernel_rfl) (fun _ _ _ h => h) (Or.inl ⟨by rfl, ?_⟩) ?_ ?_
      rotate_left
      · intro w'
        go_simp
        with_reducible rfl
      rotate_left
      · simp only [Act.put, List.setIfInBounds_toArray, List.set_cons_zero, List.set_cons_succ, i64_w, i32_w]
        rfl
      refine take_ (i := 0) (N := some 205) (v := .agg #[.slice A8 nn c8, .int .i64 off, .int .i64 (m + 4)]) (a' := ?_) #[true, true, true, false, true, false, false, false] rfl rfl (by kernel_rfl) (fun _ _ _ h => h) (Or.inl ⟨by rfl, ?_⟩) hHeld ?_ ?_
      · rintro w' ⟨s0, s1⟩
        exact Arr.exec_load_row 67 (Operand.tmp 2) (by rfl) sb (by rfl) _ _ _ _ s0 Try.underlying67 rfl seqSize
      rotate_left
      · simp only [Act.put, List.setIfInBounds_toArray, List.set_cons_zero, List.set_cons_succ, i64_w, i32_w]
        rfl
      refine take_ (i := 3) (N := some 208) (v := ?_) (a' := ?_) #[true, true, true, true, true, false, false, false] rfl rfl (by kernel_rfl) (fun _ _ _ h => h) (Or.inl ⟨by rfl, ?_⟩) hHeld ?_ ?_
      rotate_left
      · rintro w' ⟨s0, s1⟩
        go_simp
        with_reducible rfl
      rotate_left
      · simp only [Act.put, List.setIfInBounds_toArray, List.set_cons_zero, List.set_cons_succ, i64_w, i32_w]
        rfl
      refine one_ (i := 5) (N := some 210) #[true, true, true, true, true, true, false, false] rfl rfl (by kernel_rfl) (by decide) (fun K hK => ?_)
      refine goes_ Try.func79 (by kernel_rfl) rfl #[.pointer (some ⟨g, 0, none⟩), .int .i64 (m + 4), .int .i64 at_] (by rfl) rfl rfl (by simp only [List.map_toArray, List.map_cons, List.map_nil]; rfl) ?_
      with_reducible refine (room_any (SN_rd (SN_drew KS16.out)) (m + 4) at_ hm4 hm5 hs2 hs3 hm6).mono ?_
      rintro e w17 ⟨hO17, h18⟩
      have h18 := h18.resolve_right (fun h => c9 h.1)
      obtain ⟨-, rfl, hR17⟩ := h18
      have KF := Aside0.mk (SN_call (w1 := w17) (SN_drew KS16.out) hg hsg hR17 hO17)
      obtain ⟨z0, z1, z2, z3, z4, z5⟩ := SN_cells KF.out
      refine ⟨_, rfl, ?_⟩
      refine hK.out _ _ ⟨SN_row KF.out, (SN_cells KF.out).2.2.1⟩ (fun hHeld => ?_)
      clear hK K
      refine norm_ (a' := ?_) ?_ ?_
      rotate_left
      · show Act.put _ (some 210) _ = _
        simp only [Act.put, List.setIfInBounds_toArray, List.set_cons_zero, List.set_cons_succ, i64_w, i32_w]
        rfl
      refine last_ (i := 6) (N := none) #[true, true, true, true, true, true, true, false] rfl rfl (by kernel_rfl) (by decide) (fun K hK => ?_)
      refine skip_ (w1 := ?_) (by rfl) rfl ?_ ?_
      rotate_left
      · go_simp
        rfl
      refine hK.out _ _ ?_
      clear hK K
      refine pure_ (i := 7) (N := some 3) (v := ?_) (a' := ?_) #[true, true, true, true, true, true, true, true] rfl rfl (by kernel_rfl) (fun _ _ _ h => h) (Or.inl ⟨by rfl, ?_⟩) ?_ ?_
      rotate_left
      · intro w'
        go_simp
        with_reducible rfl
      rotate_left
      · simp only [Act.put, List.setIfInBounds_toArray, List.set_cons_zero, List.set_cons_succ, i64_w, i32_w]
        rfl
      refine done_ (by kernel_rfl) ?_
      go_wp2
      have KE := Aside0.mk (SN_s (SN_s (SN_s KF.out hsg hsb3 hsb2 0 (.slice A8 nn c8) rfl) hsg hsb3 hsb2 1 (.int .i64 off) rfl) hsg hsb3 hsb2 2 (.int .i64 (m + 4)) rfl)
      refine bodyPost_ret (results_list (rs := [.cell 2 67, .tmp 3]) rfl (by simp) (.cell sb 67 _ _ _ rfl (SN_row KE.out) Try.underlying67 rfl seqSize (.tmp .nil))) rfl ?_
      exact next_seq KE.out Kst.out Klit.out Kr4.out hat4
end Go.Proofs.Ytgplpcjlemjabaa.Lz
