/- An image's head out of bytes: the program's Decode: walks. -/
import Derived.Test.YtepmgkmbmejkjaaSu3
import Derived.Test.YtepmgkmbmejkjaaEqb
import Derived.Deep.QuietTactic
import Derived.BigQuiet
set_option linter.unusedVariables false
set_option linter.unusedSimpArgs false
namespace Go.Proofs.Ytepmgkmbmejkjaa.Su
open Go.RowKit Go.Proofs.Ytepmgkmbmejkjaa.Fd Go.Proofs.YtepmgkmbmejkjaaW.PrintWords Go.Proofs.YtepmgkmbmejkjaaW.PrintLast Go.Proofs.YtepmgkmbmejkjaaW.PrintMore
/-- A number at a place. -/
def rdN (l : List Int) (p n : Nat) : Nat := val ((l.drop p).take n)
theorem rdN_lt {l : List Int} (h : ∀ x ∈ l, 0 ≤ x ∧ x < 256) (p n : Nat) (hp : p + n ≤ l.length) : rdN l p n < 2 ^ (8 * n) := by
  have h2 := val_lt ((l.drop p).take n) (fun x hx => h x (List.mem_of_mem_drop (List.mem_of_mem_take hx)))
  have e : ((l.drop p).take n).length = n := by rw [List.length_take, List.length_drop]; omega
  rwa [e] at h2
theorem rd16 {l : List Int} (h : ∀ x ∈ l, 0 ≤ x ∧ x < 256) (p : Nat) (hp : p + 2 ≤ l.length) : rdN l p 2 < 65536 := rdN_lt h p 2 hp
theorem rd32 {l : List Int} (h : ∀ x ∈ l, 0 ≤ x ∧ x < 256) (p : Nat) (hp : p + 4 ≤ l.length) : rdN l p 4 < 4294967296 := rdN_lt h p 4 hp
/-- A number read. -/
theorem rnum_ok {w0 w : World} {base g : Nat} {v : Value} {l : List Int} (p k q : Nat) (h : FR w0 base g w v l ⟨p, false⟩) (hl : ∀ x ∈ l, 0 ≤ x ∧ x < 256) (hm : l.length ≤ 140737488355328) (hk : wid k) (hp : p + k ≤ l.length) (hq : p + k = q) : Calls Try.prog 61 #[.pointer (some ⟨g, 0, none⟩), .int .i64 k] w fun e w' => e = .returned (.int .u64 (rdN l p k)) ∧ FR w0 base g w' v l ⟨q, false⟩ ∧ KeepBut w w' g none :=
  (rnum_any h hl hm k hk).mono fun e w' ⟨he, h1, h2⟩ => by
    have e1 : (⟨p, false⟩ : RS).tk l k = (l.drop p).take k := if_pos ⟨rfl, hp⟩
    have e2 : (⟨p, false⟩ : RS).next l k = ⟨q, false⟩ := by unfold RS.next; rw [if_neg (by simp), if_pos hp, hq]
    rw [e1] at he
    rw [e2] at h1
    exact ⟨he, h1, h2⟩
/-- The head that bytes tell, k streams of it. -/
def supD (l : List Int) (k : Nat) : Sup := ⟨rdN l 6 2, rdN l 8 4, rdN l 12 4, fun j => if j < k then (rdN l (16 + 8 * j) 4 : Int) else 0, fun j => if j < k then (rdN l (20 + 8 * j) 4 : Int) else 0⟩
/-- The box of the head stands. -/
def DB (wr : World) (b : Nat) (s : Sup) : Prop := wr.heap[b]? = some (.cells #[.int .i64 s.log, .int .i64 s.ino, .int .i64 s.len, .int .i64 (s.a 0), .int .i64 (s.z 0), .int .i64 (s.a 1), .int .i64 (s.z 1), .int .i64 (s.a 2), .int .i64 (s.z 2), .int .i64 (s.a 3), .int .i64 (s.z 3), .int .i64 (s.a 4), .int .i64 (s.z 4), .int .i64 (s.a 5), .int .i64 (s.z 5)] 65 (0, 0))
theorem own_keep {wr w' : World} {base g T : Nat} {v : Value} {xs : List Int} {cs : Array Value} (h : Row.OwnB wr base v xs) (hk : KeepBut wr w' g none) (hg : wr.heap[g]? = some (.cells cs T (0, 0))) (ht : T ≠ 5) : Row.OwnB w' base v xs := Kd.R_mono (Kd.R_keep (Kd.R_types h hg (fun q hq => by simp [Kd.int, Kd.scalar] at hq; omega)) hk (fun _ hk => hk.2)) (fun _ hk => hk.1)
theorem own_set {wr : World} {base g T : Nat} {v : Value} {xs : List Int} {cs : Array Value} (h : Row.OwnB wr base v xs) (hg : wr.heap[g]? = some (.cells cs T (0, 0))) (ht : T ≠ 5) (j : Nat) (u : Value) : Row.OwnB (wr.setCell ⟨g, j, none⟩ u) base v xs := Kd.R_set h hg (fun q hq => by simp [Kd.int, Kd.scalar] at hq; omega) j u
theorem FR_far {w0 wa : World} {base g b T : Nat} {v : Value} {l : List Int} {s : RS} {cs : Array Value} (h : FR w0 base g wa v l s) (hb : wa.heap[b]? = some (.cells cs T (0, 0))) (h1 : T ≠ 118) (h2 : T ≠ 5) (hbase : base ≤ b) (j : Nat) (u : Value) : FR w0 base g (wa.setCell ⟨b, j, none⟩ u) v l s :=
  ⟨(Below.heap_setCell _ _ _ _ (blk_ne h.blk hb (Ne.symm h1))).trans h.blk, Kd.R_set h.own hb (fun q hq => by simp [Kd.int, Kd.scalar] at hq; omega) j u, h.below.setCell hbase _, h.bg, h.at_⟩
theorem dec_keep {w0 wa wb : World} {base g b : Nat} {v : Value} {l : List Int} {s : RS} {o : Obj} (h : FR w0 base g wa v l s) (hk : KeepBut wa wb g none) {n : Nat} (hbr : b < n ∧ n ≤ g) (hz : wa.heap[b]? = some o) : wb.heap[b]? = some o := hk.blk hz (by omega) (by simp)
theorem eq4 {w : World} {base cF : Nat} {AF : Option Addr} {x : List Int} (ho : Row.OwnB w base (.slice AF 4 cF) x) (hx : x.length = 4) (hb : ∀ y ∈ x, 0 ≤ y ∧ y < 256) (A1 : Option Addr) (c1 : Nat) (hr : Kd.C (Kd.int .u8) w A1 4 [80, 77, 83, 49]) (hc : 4 ≤ c1 := by decide) :
    Calls Try.prog 63 #[.slice AF 4 cF, .slice A1 4 c1] w fun e w' => e = .returned (.bool (decide (x = [80, 77, 83, 49]))) ∧ w = w' := by
  obtain ⟨-, hle, hC⟩ := ho.reads
  have h := Eq_.equal_any AF cF x A1 c1 [80, 77, 83, 49] w hC (by omega) hr hc hb magic_isB
  rw [hx] at h
  exact h
theorem c64 {w : World} {A : Option Addr} {l : List Int} (h68 : 68 ≤ l.length) (hC : Kd.C (Kd.int .u8) w A l.length l) : Kd.C (Kd.int .u8) w A (l.take 64).length (l.take 64) := by
  have h1 : (l.take 64).length = 64 := by rw [List.length_take]; omega
  rw [h1]
  exact Kd.C_of_reads (d := (0 : Int)) (h1 := fun _ => rfl) ((Kd.reads_of_C (d := (0 : Int)) hC).take_ 64 (by omega))
theorem crc64 {w : World} {A : Option Addr} {c : Nat} {l : List Int} (h68 : 68 ≤ l.length) (hc : l.length ≤ 1000000) (hl : ∀ x ∈ l, 0 ≤ x ∧ x < 256) (hC : Kd.C (Kd.int .u8) w A l.length l) :
    Calls Try.prog 56 #[.pointer none, .slice A 64 c] w fun e w' => e = .returned (.int .u32 (Sum.crc 0 (l.take 64) : Nat)) ∧ w = w' := by
  have h1 : (l.take 64).length = 64 := by rw [List.length_take]; omega
  have h := Sum.crc_nil A c (l.take 64) w (c64 h68 hC) (by rw [h1]; decide) (fun x hx => hl x (List.mem_of_mem_take hx))
  rw [h1] at h
  exact h
theorem dbox {wr : World} {b : Nat} {s : Sup} (h : DB wr b s) : wr.cell? ⟨b, 0, none⟩ = some (.int .i64 s.log) ∧ wr.cell? ⟨b, 1, none⟩ = some (.int .i64 s.ino) ∧ wr.cell? ⟨b, 2, none⟩ = some (.int .i64 s.len) ∧ wr.cell? ⟨b, 3, none⟩ = some (.int .i64 (s.a 0)) ∧ wr.cell? ⟨b, 4, none⟩ = some (.int .i64 (s.z 0)) ∧ wr.cell? ⟨b, 5, none⟩ = some (.int .i64 (s.a 1)) ∧ wr.cell? ⟨b, 6, none⟩ = some (.int .i64 (s.z 1)) ∧ wr.cell? ⟨b, 7, none⟩ = some (.int .i64 (s.a 2)) ∧ wr.cell? ⟨b, 8, none⟩ = some (.int .i64 (s.z 2)) ∧ wr.cell? ⟨b, 9, none⟩ = some (.int .i64 (s.a 3)) ∧ wr.cell? ⟨b, 10, none⟩ = some (.int .i64 (s.z 3)) ∧ wr.cell? ⟨b, 11, none⟩ = some (.int .i64 (s.a 4)) ∧ wr.cell? ⟨b, 12, none⟩ = some (.int .i64 (s.z 4)) ∧ wr.cell? ⟨b, 13, none⟩ = some (.int .i64 (s.a 5)) ∧ wr.cell? ⟨b, 14, none⟩ = some (.int .i64 (s.z 5)) :=
  ⟨(cell_of_row _ _ _ _ _ _ h).trans rfl, (cell_of_row _ _ _ _ _ _ h).trans rfl, (cell_of_row _ _ _ _ _ _ h).trans rfl, (cell_of_row _ _ _ _ _ _ h).trans rfl, (cell_of_row _ _ _ _ _ _ h).trans rfl, (cell_of_row _ _ _ _ _ _ h).trans rfl, (cell_of_row _ _ _ _ _ _ h).trans rfl, (cell_of_row _ _ _ _ _ _ h).trans rfl, (cell_of_row _ _ _ _ _ _ h).trans rfl, (cell_of_row _ _ _ _ _ _ h).trans rfl, (cell_of_row _ _ _ _ _ _ h).trans rfl, (cell_of_row _ _ _ _ _ _ h).trans rfl, (cell_of_row _ _ _ _ _ _ h).trans rfl, (cell_of_row _ _ _ _ _ _ h).trans rfl, (cell_of_row _ _ _ _ _ _ h).trans rfl⟩
/-- What Decode answers. -/
def DecP (w : World) (l : List Int) (e : Ending) (w' : World) : Prop :=
  Below w.heap.size w w' ∧ ((e = .returned (.tuple #[.agg #[.int .i64 0, .int .i64 0, .int .i64 0, .int .i64 0, .int .i64 0, .int .i64 0, .int .i64 0, .int .i64 0, .int .i64 0, .int .i64 0, .int .i64 0, .int .i64 0, .int .i64 0, .int .i64 0, .int .i64 0], .int .i64 6]) ∧ ((l.take 4 ≠ [80, 77, 83, 49] ∨ rdN l 4 2 ≠ 1 ∨ ¬ (12 ≤ (rdN l 6 2 : Int) ∧ (rdN l 6 2 : Int) ≤ 20)) ∨ ¬ right (supD l 6))) ∨ (e = .returned (.tuple #[.agg #[.int .i64 0, .int .i64 0, .int .i64 0, .int .i64 0, .int .i64 0, .int .i64 0, .int .i64 0, .int .i64 0, .int .i64 0, .int .i64 0, .int .i64 0, .int .i64 0, .int .i64 0, .int .i64 0, .int .i64 0], .int .i64 140]) ∧ Sum.crc 0 (l.take 64) ≠ rdN l 64 4) ∨ (e = .returned (.tuple #[.agg #[.int .i64 (supD l 6).log, .int .i64 (supD l 6).ino, .int .i64 (supD l 6).len, .int .i64 ((supD l 6).a 0), .int .i64 ((supD l 6).z 0), .int .i64 ((supD l 6).a 1), .int .i64 ((supD l 6).z 1), .int .i64 ((supD l 6).a 2), .int .i64 ((supD l 6).z 2), .int .i64 ((supD l 6).a 3), .int .i64 ((supD l 6).z 3), .int .i64 ((supD l 6).a 4), .int .i64 ((supD l 6).z 4), .int .i64 ((supD l 6).a 5), .int .i64 ((supD l 6).z 5)], .int .i64 0]) ∧ Sum.crc 0 (l.take 64) = rdN l 64 4))
theorem szSuper : (Try.prog.info? 65).map (·.size) = some 15 := by kernel_rfl
theorem store_super {ops : Array Oper} {rest : List Oper} {o : Oper} {a : Act} {w : World} {Q : Exit → Act → World → Prop} (hgd : o.guard = none) (x y : Operand) (ho : o.op = .store 65 x y) (g : Nat) (s0 : Array Value) (cells old : Array Value) (hx : a.eval x = .pointer (some ⟨g, 0, none⟩)) (hy : a.eval y = .agg cells) (hg : w.heap[g]? = some (.cells old 65 (0, 0))) (hs : cells.size = 15) (hold : old.size = 15) (h1 : cells.all (·.oneCell') = true)
    (h : ∀ w', w'.heap[g]? = some (.cells cells 65 (0, 0)) → (∀ b w0, b ≤ g → Below b w0 w → Below b w0 w') → wpList Try.prog ops Q rest (a.put o.dst undef) w') : wpList Try.prog ops Q (o :: rest) a w := by
  refine wpList_store_row hgd 65 x y ho g cells hx hy 65 old hg (by rw [hs]; exact szSuper) (by rw [hs, hold]) h1 (h _ (setRow_heap w g _ _ _ (0, 0) hg) (fun b w0 hb hB => ⟨hB.os, hB.tape, hB.output, by have := hB.size; simpa [World.setRow] using this, fun k hk => (setRow_other w g k cells (by omega)).trans (hB.block k hk)⟩))
set_option maxHeartbeats 8000000 in
set_option maxRecDepth 100000 in
theorem decode_long (w : World) (l : List Int) (A : Option Addr) (c : Nat) (hC : Kd.C (Kd.int .u8) w A l.length l) (hl : ∀ x ∈ l, 0 ≤ x ∧ x < 256) (h68 : 68 ≤ l.length) (hm : l.length ≤ 1000000) (hc : l.length ≤ c) :
    Calls Try.prog 40 #[.slice A l.length c] w (DecP w l) := by
  have KC : Aside0 (∀ w', Below w.heap.size w w' → Kd.C (Kd.int .u8) w' A l.length l) := ⟨fun w' hb => Kd.C_below hC hb⟩
  have Kl := Aside0.mk hl
  have K16 := Aside0.mk (rd16 hl)
  have K32 := Aside0.mk (rd32 hl)
  clear hC hl
  have n0 := K16.out 4 (by omega)
  have n1 := K16.out 6 (by omega)
  have n2 := K32.out 8 (by omega)
  have n3 := K32.out 12 (by omega)
  go_enter Try.func40, Try.ntmps40
  go_wp2_with (go_at_call 59; apply Aside0.out)
  refine ⟨?_⟩
  have hB0 := below_alloc (Below.refl w.heap.size w) (.cells #[.int .i64 0, .int .i64 0, .int .i64 0, .int .i64 0, .int .i64 0, .int .i64 0, .int .i64 0, .int .i64 0, .int .i64 0, .int .i64 0, .int .i64 0, .int .i64 0, .int .i64 0, .int .i64 0, .int .i64 0] 65)
  have hz0 := heap_alloc_new w (.cells #[.int .i64 0, .int .i64 0, .int .i64 0, .int .i64 0, .int .i64 0, .int .i64 0, .int .i64 0, .int .i64 0, .int .i64 0, .int .i64 0, .int .i64 0, .int .i64 0, .int .i64 0, .int .i64 0, .int .i64 0] 65)
  generalize hW : World.alloc w _ = w0 at hB0 hz0 ⊢
  have hwz : w.heap.size < w0.heap.size := blk_lt hz0
  have KB0 := Aside0.mk hB0
  have KZ00 := Aside0.mk hz0
  clear hW hB0 hz0
  refine (reader_new w0 l A c (fun w' hb => KC.out w' (below_then KB0.out KB0.out.size hb)) (by omega)).mono ?_
  rintro e w1 ⟨g, v, rfl, hR⟩
  have hbr : w.heap.size < w0.heap.size ∧ w0.heap.size ≤ g := ⟨hwz, hR.bg⟩
  have KR1 := Aside0.mk hR
  have KZ1 : Aside0 (w1.heap[w.heap.size]? = some (.cells #[.int .i64 0, .int .i64 0, .int .i64 0, .int .i64 0, .int .i64 0, .int .i64 0, .int .i64 0, .int .i64 0, .int .i64 0, .int .i64 0, .int .i64 0, .int .i64 0, .int .i64 0, .int .i64 0, .int .i64 0] 65 (0, 0))) := ⟨(hR.below.block _ hwz).trans KZ00.out⟩
  clear hR
  go_wp2_with (go_at_call 60; apply Aside0.out)
  refine ⟨?_⟩
  refine (rbytes_any KR1.out (by omega) 4 (by decide)).mono ?_
  rintro e w2 ⟨AF, cF, rfl, hcF, hOF, hR, hk⟩
  have ef : (⟨0, false⟩ : RS).tk l 4 = l.take 4 := if_pos ⟨rfl, by show 0 + 4 ≤ l.length; omega⟩
  have eg : (⟨0, false⟩ : RS).next l 4 = ⟨4, false⟩ := by unfold RS.next; rw [if_neg (by simp), if_pos (by show 0 + 4 ≤ l.length; omega)]
  rw [ef] at hOF hcF
  rw [eg] at hR
  rw [ef]
  have hl4 : (l.take 4).length = 4 := by rw [List.length_take]; omega
  rw [hl4] at hOF hcF
  rw [hl4]
  have KR2 := Aside0.mk hR
  have KZ2 : Aside0 (w2.heap[w.heap.size]? = some (.cells #[.int .i64 0, .int .i64 0, .int .i64 0, .int .i64 0, .int .i64 0, .int .i64 0, .int .i64 0, .int .i64 0, .int .i64 0, .int .i64 0, .int .i64 0, .int .i64 0, .int .i64 0, .int .i64 0, .int .i64 0] 65 (0, 0))) := ⟨dec_keep KR1.out hk hbr KZ1.out⟩
  have KO2 : Aside0 (Row.OwnB w2 w0.heap.size (.slice AF 4 cF) (l.take 4)) := ⟨hOF.lower KR1.out.below.size⟩
  clear hR hk hOF hcF ef eg
  go_wp2_with (go_at_call 61; apply Aside0.out)
  refine ⟨?_⟩
  refine (rnum_ok 4 2 6 KR2.out Kl.out (by omega) (Or.inr (Or.inl rfl)) (by omega) rfl).mono ?_
  rintro e w3 ⟨rfl, hR, hk⟩
  have KR3 := Aside0.mk hR
  have KO3 := Aside0.mk (own_keep KO2.out hk KR2.out.blk (by decide))
  have KZ3 : Aside0 (w3.heap[w.heap.size]? = some (.cells #[.int .i64 0, .int .i64 0, .int .i64 0, .int .i64 0, .int .i64 0, .int .i64 0, .int .i64 0, .int .i64 0, .int .i64 0, .int .i64 0, .int .i64 0, .int .i64 0, .int .i64 0, .int .i64 0, .int .i64 0] 65 (0, 0))) := ⟨dec_keep KR2.out hk hbr KZ2.out⟩
  clear hR hk
  go_wp2_with (go_at_call 61; apply Aside0.out)
  refine ⟨?_⟩
  refine (rnum_ok 6 2 8 KR3.out Kl.out (by omega) (Or.inr (Or.inl rfl)) (by omega) rfl).mono ?_
  rintro e w4 ⟨rfl, hR, hk⟩
  have KR4 := Aside0.mk hR
  have KO4 := Aside0.mk (own_keep KO3.out hk KR3.out.blk (by decide))
  have KZ4 : Aside0 (w4.heap[w.heap.size]? = some (.cells #[.int .i64 0, .int .i64 0, .int .i64 0, .int .i64 0, .int .i64 0, .int .i64 0, .int .i64 0, .int .i64 0, .int .i64 0, .int .i64 0, .int .i64 0, .int .i64 0, .int .i64 0, .int .i64 0, .int .i64 0] 65 (0, 0))) := ⟨dec_keep KR3.out hk hbr KZ3.out⟩
  clear hR hk
  go_wp2_with (go_at_call 61; apply Aside0.out)
  refine ⟨?_⟩
  refine (rnum_ok 8 4 12 KR4.out Kl.out (by omega) (Or.inr (Or.inr (Or.inl rfl))) (by omega) rfl).mono ?_
  rintro e w5 ⟨rfl, hR, hk⟩
  have KR5 := Aside0.mk hR
  have KO5 := Aside0.mk (own_keep KO4.out hk KR4.out.blk (by decide))
  have KZ5 : Aside0 (w5.heap[w.heap.size]? = some (.cells #[.int .i64 0, .int .i64 0, .int .i64 0, .int .i64 0, .int .i64 0, .int .i64 0, .int .i64 0, .int .i64 0, .int .i64 0, .int .i64 0, .int .i64 0, .int .i64 0, .int .i64 0, .int .i64 0, .int .i64 0] 65 (0, 0))) := ⟨dec_keep KR4.out hk hbr KZ4.out⟩
  clear hR hk
  go_wp2_with (go_at_call 61; apply Aside0.out)
  refine ⟨?_⟩
  refine (rnum_ok 12 4 16 KR5.out Kl.out (by omega) (Or.inr (Or.inr (Or.inl rfl))) (by omega) rfl).mono ?_
  rintro e w6 ⟨rfl, hR, hk⟩
  have KR6 := Aside0.mk hR
  have KO6 := Aside0.mk (own_keep KO5.out hk KR5.out.blk (by decide))
  have KZ6 : Aside0 (w6.heap[w.heap.size]? = some (.cells #[.int .i64 0, .int .i64 0, .int .i64 0, .int .i64 0, .int .i64 0, .int .i64 0, .int .i64 0, .int .i64 0, .int .i64 0, .int .i64 0, .int .i64 0, .int .i64 0, .int .i64 0, .int .i64 0, .int .i64 0] 65 (0, 0))) := ⟨dec_keep KR5.out hk hbr KZ5.out⟩
  clear hR hk
  go_wp2
  have hz8 := heap_alloc_new w6 (.cells #[.int .i64 (rdN l 6 2 : Int), .int .i64 (rdN l 8 4 : Int), .int .i64 (rdN l 12 4 : Int), .int .i64 0, .int .i64 0, .int .i64 0, .int .i64 0, .int .i64 0, .int .i64 0, .int .i64 0, .int .i64 0, .int .i64 0, .int .i64 0, .int .i64 0, .int .i64 0] 65)
  have hb8 := below_alloc (Below.refl w6.heap.size w6) (.cells #[.int .i64 (rdN l 6 2 : Int), .int .i64 (rdN l 8 4 : Int), .int .i64 (rdN l 12 4 : Int), .int .i64 0, .int .i64 0, .int .i64 0, .int .i64 0, .int .i64 0, .int .i64 0, .int .i64 0, .int .i64 0, .int .i64 0, .int .i64 0, .int .i64 0, .int .i64 0] 65)
  generalize hW : World.alloc w6 _ = w7 at hz8 hb8 ⊢
  have KD0 : Aside0 (DB w7 w6.heap.size (supD l 0)) := ⟨hz8⟩
  have KO60 := Aside0.mk (KO6.out.below hb8)
  have KR60 := Aside0.mk (KR6.out.keep hb8)
  have KZ60 : Aside0 (w7.heap[w.heap.size]? = some (.cells #[.int .i64 0, .int .i64 0, .int .i64 0, .int .i64 0, .int .i64 0, .int .i64 0, .int .i64 0, .int .i64 0, .int .i64 0, .int .i64 0, .int .i64 0, .int .i64 0, .int .i64 0, .int .i64 0, .int .i64 0] 65 (0, 0))) := ⟨blk_below KZ6.out hb8⟩
  have hg6 : g < w6.heap.size := KR6.out.lt
  have h06 : w0.heap.size ≤ w6.heap.size := KR6.out.size
  clear hW hz8 hb8
  go_loopw [30] (fun i wr => ∃ k : Nat, k ≤ 6 ∧ i = .int .i64 k ∧ Aside0 (FR w0 w0.heap.size g wr v l ⟨16 + 8 * k, false⟩) ∧ Aside0 (DB wr w6.heap.size (supD l k)) ∧ Aside0 (wr.heap[w.heap.size]? = some (.cells #[.int .i64 0, .int .i64 0, .int .i64 0, .int .i64 0, .int .i64 0, .int .i64 0, .int .i64 0, .int .i64 0, .int .i64 0, .int .i64 0, .int .i64 0, .int .i64 0, .int .i64 0, .int .i64 0, .int .i64 0] 65 (0, 0))) ∧ Aside0 (Row.OwnB wr w0.heap.size (.slice AF 4 cF) (l.take 4))) (fun i _ => 6 - (intOf i).toNat)
  case atStart => exact ⟨0, by omega, rfl, KR60, KD0, KZ60, KO60⟩
  case round =>
    obtain ⟨k, hk, rfl, KR7, KD7, KZ7, KO7⟩ := hrel
    by_cases hlt : k < 6
    · have hkc : k = 0 ∨ k = 1 ∨ k = 2 ∨ k = 3 ∨ k = 4 ∨ k = 5 := by omega
      rcases hkc with rfl | rfl | rfl | rfl | rfl | rfl
      · have fn1 := K32.out 16 (by omega)
        have fn2 := K32.out 20 (by omega)
        go_wp2_with (go_at_call 61; apply Aside0.out)
        refine ⟨?_⟩
        refine (rnum_ok 16 4 20 KR7.out Kl.out (by omega) (Or.inr (Or.inr (Or.inl rfl))) (by omega) rfl).mono ?_
        rintro e wa ⟨rfl, hR, hk⟩
        have KDa : Aside0 (DB wa w6.heap.size (supD l 0)) := ⟨hk.blk KD7.out (by omega) (by simp)⟩
        have KZa : Aside0 (wa.heap[w.heap.size]? = some (.cells #[.int .i64 0, .int .i64 0, .int .i64 0, .int .i64 0, .int .i64 0, .int .i64 0, .int .i64 0, .int .i64 0, .int .i64 0, .int .i64 0, .int .i64 0, .int .i64 0, .int .i64 0, .int .i64 0, .int .i64 0] 65 (0, 0))) := ⟨hk.blk KZ7.out (by omega) (by simp)⟩
        have KRa := Aside0.mk hR
        have KOa := Aside0.mk (own_keep KO7.out hk KR7.out.blk (by decide))
        have fz : wa.frozen? ⟨w6.heap.size, 3, none⟩ = false := blk_frozen KDa.out _
        have fc : wa.cell? ⟨w6.heap.size, 3, none⟩ = some (.int .i64 0) := (cell_of_row _ _ _ _ _ _ KDa.out).trans rfl
        clear hR hk
        go_wp2_with (go_at_call 61; apply Aside0.out)
        refine ⟨?_⟩
        have KDb : Aside0 ((wa.setCell ⟨w6.heap.size, 3, none⟩ (.int .i64 (rdN l 16 4 : Int))).heap[w6.heap.size]? = _) := ⟨blk_set KDa.out 3 _⟩
        have KRb := Aside0.mk (FR_far KRa.out KDa.out (by decide) (by decide) h06 3 (.int .i64 (rdN l 16 4 : Int)))
        have KOb := Aside0.mk (own_set KOa.out KDa.out (by decide) 3 (.int .i64 (rdN l 16 4 : Int)))
        have KZb : Aside0 ((wa.setCell ⟨w6.heap.size, 3, none⟩ (.int .i64 (rdN l 16 4 : Int))).heap[w.heap.size]? = some (.cells #[.int .i64 0, .int .i64 0, .int .i64 0, .int .i64 0, .int .i64 0, .int .i64 0, .int .i64 0, .int .i64 0, .int .i64 0, .int .i64 0, .int .i64 0, .int .i64 0, .int .i64 0, .int .i64 0, .int .i64 0] 65 (0, 0))) := ⟨(Below.heap_setCell _ ⟨w6.heap.size, 3, none⟩ _ w.heap.size (by show w.heap.size ≠ w6.heap.size; omega)).trans KZa.out⟩
        refine (rnum_ok 20 4 24 KRb.out Kl.out (by omega) (Or.inr (Or.inr (Or.inl rfl))) (by omega) rfl).mono ?_
        rintro e wb ⟨rfl, hR, hk⟩
        have KDc := Aside0.mk (hk.blk KDb.out (by omega) (by simp))
        have KZc : Aside0 (wb.heap[w.heap.size]? = some (.cells #[.int .i64 0, .int .i64 0, .int .i64 0, .int .i64 0, .int .i64 0, .int .i64 0, .int .i64 0, .int .i64 0, .int .i64 0, .int .i64 0, .int .i64 0, .int .i64 0, .int .i64 0, .int .i64 0, .int .i64 0] 65 (0, 0))) := ⟨hk.blk KZb.out (by omega) (by simp)⟩
        have KRc := Aside0.mk hR
        have KOc := Aside0.mk (own_keep KOb.out hk KRb.out.blk (by decide))
        have fz : wb.frozen? ⟨w6.heap.size, 4, none⟩ = false := blk_frozen KDc.out _
        have fc : wb.cell? ⟨w6.heap.size, 4, none⟩ = some (.int .i64 0) := (cell_of_row _ _ _ _ _ _ KDc.out).trans rfl
        clear hR hk
        go_wp2
        exact ⟨⟨1, by decide, rfl, ⟨FR_far KRc.out KDc.out (by decide) (by decide) h06 4 _⟩, ⟨blk_set KDc.out 4 _⟩, ⟨(Below.heap_setCell _ ⟨w6.heap.size, 4, none⟩ _ w.heap.size (by show w.heap.size ≠ w6.heap.size; omega)).trans KZc.out⟩, ⟨own_set KOc.out KDc.out (by decide) _ _⟩⟩, by simp [intOf]⟩
      · have fn1 := K32.out 24 (by omega)
        have fn2 := K32.out 28 (by omega)
        go_wp2_with (go_at_call 61; apply Aside0.out)
        refine ⟨?_⟩
        refine (rnum_ok 24 4 28 KR7.out Kl.out (by omega) (Or.inr (Or.inr (Or.inl rfl))) (by omega) rfl).mono ?_
        rintro e wa ⟨rfl, hR, hk⟩
        have KDa : Aside0 (DB wa w6.heap.size (supD l 1)) := ⟨hk.blk KD7.out (by omega) (by simp)⟩
        have KZa : Aside0 (wa.heap[w.heap.size]? = some (.cells #[.int .i64 0, .int .i64 0, .int .i64 0, .int .i64 0, .int .i64 0, .int .i64 0, .int .i64 0, .int .i64 0, .int .i64 0, .int .i64 0, .int .i64 0, .int .i64 0, .int .i64 0, .int .i64 0, .int .i64 0] 65 (0, 0))) := ⟨hk.blk KZ7.out (by omega) (by simp)⟩
        have KRa := Aside0.mk hR
        have KOa := Aside0.mk (own_keep KO7.out hk KR7.out.blk (by decide))
        have fz : wa.frozen? ⟨w6.heap.size, 5, none⟩ = false := blk_frozen KDa.out _
        have fc : wa.cell? ⟨w6.heap.size, 5, none⟩ = some (.int .i64 0) := (cell_of_row _ _ _ _ _ _ KDa.out).trans rfl
        clear hR hk
        go_wp2_with (go_at_call 61; apply Aside0.out)
        refine ⟨?_⟩
        have KDb : Aside0 ((wa.setCell ⟨w6.heap.size, 5, none⟩ (.int .i64 (rdN l 24 4 : Int))).heap[w6.heap.size]? = _) := ⟨blk_set KDa.out 5 _⟩
        have KRb := Aside0.mk (FR_far KRa.out KDa.out (by decide) (by decide) h06 5 (.int .i64 (rdN l 24 4 : Int)))
        have KOb := Aside0.mk (own_set KOa.out KDa.out (by decide) 5 (.int .i64 (rdN l 24 4 : Int)))
        have KZb : Aside0 ((wa.setCell ⟨w6.heap.size, 5, none⟩ (.int .i64 (rdN l 24 4 : Int))).heap[w.heap.size]? = some (.cells #[.int .i64 0, .int .i64 0, .int .i64 0, .int .i64 0, .int .i64 0, .int .i64 0, .int .i64 0, .int .i64 0, .int .i64 0, .int .i64 0, .int .i64 0, .int .i64 0, .int .i64 0, .int .i64 0, .int .i64 0] 65 (0, 0))) := ⟨(Below.heap_setCell _ ⟨w6.heap.size, 5, none⟩ _ w.heap.size (by show w.heap.size ≠ w6.heap.size; omega)).trans KZa.out⟩
        refine (rnum_ok 28 4 32 KRb.out Kl.out (by omega) (Or.inr (Or.inr (Or.inl rfl))) (by omega) rfl).mono ?_
        rintro e wb ⟨rfl, hR, hk⟩
        have KDc := Aside0.mk (hk.blk KDb.out (by omega) (by simp))
        have KZc : Aside0 (wb.heap[w.heap.size]? = some (.cells #[.int .i64 0, .int .i64 0, .int .i64 0, .int .i64 0, .int .i64 0, .int .i64 0, .int .i64 0, .int .i64 0, .int .i64 0, .int .i64 0, .int .i64 0, .int .i64 0, .int .i64 0, .int .i64 0, .int .i64 0] 65 (0, 0))) := ⟨hk.blk KZb.out (by omega) (by simp)⟩
        have KRc := Aside0.mk hR
        have KOc := Aside0.mk (own_keep KOb.out hk KRb.out.blk (by decide))
        have fz : wb.frozen? ⟨w6.heap.size, 6, none⟩ = false := blk_frozen KDc.out _
        have fc : wb.cell? ⟨w6.heap.size, 6, none⟩ = some (.int .i64 0) := (cell_of_row _ _ _ _ _ _ KDc.out).trans rfl
        clear hR hk
        go_wp2
        exact ⟨⟨2, by decide, rfl, ⟨FR_far KRc.out KDc.out (by decide) (by decide) h06 6 _⟩, ⟨blk_set KDc.out 6 _⟩, ⟨(Below.heap_setCell _ ⟨w6.heap.size, 6, none⟩ _ w.heap.size (by show w.heap.size ≠ w6.heap.size; omega)).trans KZc.out⟩, ⟨own_set KOc.out KDc.out (by decide) _ _⟩⟩, by simp [intOf]⟩
      · have fn1 := K32.out 32 (by omega)
        have fn2 := K32.out 36 (by omega)
        go_wp2_with (go_at_call 61; apply Aside0.out)
        refine ⟨?_⟩
        refine (rnum_ok 32 4 36 KR7.out Kl.out (by omega) (Or.inr (Or.inr (Or.inl rfl))) (by omega) rfl).mono ?_
        rintro e wa ⟨rfl, hR, hk⟩
        have KDa : Aside0 (DB wa w6.heap.size (supD l 2)) := ⟨hk.blk KD7.out (by omega) (by simp)⟩
        have KZa : Aside0 (wa.heap[w.heap.size]? = some (.cells #[.int .i64 0, .int .i64 0, .int .i64 0, .int .i64 0, .int .i64 0, .int .i64 0, .int .i64 0, .int .i64 0, .int .i64 0, .int .i64 0, .int .i64 0, .int .i64 0, .int .i64 0, .int .i64 0, .int .i64 0] 65 (0, 0))) := ⟨hk.blk KZ7.out (by omega) (by simp)⟩
        have KRa := Aside0.mk hR
        have KOa := Aside0.mk (own_keep KO7.out hk KR7.out.blk (by decide))
        have fz : wa.frozen? ⟨w6.heap.size, 7, none⟩ = false := blk_frozen KDa.out _
        have fc : wa.cell? ⟨w6.heap.size, 7, none⟩ = some (.int .i64 0) := (cell_of_row _ _ _ _ _ _ KDa.out).trans rfl
        clear hR hk
        go_wp2_with (go_at_call 61; apply Aside0.out)
        refine ⟨?_⟩
        have KDb : Aside0 ((wa.setCell ⟨w6.heap.size, 7, none⟩ (.int .i64 (rdN l 32 4 : Int))).heap[w6.heap.size]? = _) := ⟨blk_set KDa.out 7 _⟩
        have KRb := Aside0.mk (FR_far KRa.out KDa.out (by decide) (by decide) h06 7 (.int .i64 (rdN l 32 4 : Int)))
        have KOb := Aside0.mk (own_set KOa.out KDa.out (by decide) 7 (.int .i64 (rdN l 32 4 : Int)))
        have KZb : Aside0 ((wa.setCell ⟨w6.heap.size, 7, none⟩ (.int .i64 (rdN l 32 4 : Int))).heap[w.heap.size]? = some (.cells #[.int .i64 0, .int .i64 0, .int .i64 0, .int .i64 0, .int .i64 0, .int .i64 0, .int .i64 0, .int .i64 0, .int .i64 0, .int .i64 0, .int .i64 0, .int .i64 0, .int .i64 0, .int .i64 0, .int .i64 0] 65 (0, 0))) := ⟨(Below.heap_setCell _ ⟨w6.heap.size, 7, none⟩ _ w.heap.size (by show w.heap.size ≠ w6.heap.size; omega)).trans KZa.out⟩
        refine (rnum_ok 36 4 40 KRb.out Kl.out (by omega) (Or.inr (Or.inr (Or.inl rfl))) (by omega) rfl).mono ?_
        rintro e wb ⟨rfl, hR, hk⟩
        have KDc := Aside0.mk (hk.blk KDb.out (by omega) (by simp))
        have KZc : Aside0 (wb.heap[w.heap.size]? = some (.cells #[.int .i64 0, .int .i64 0, .int .i64 0, .int .i64 0, .int .i64 0, .int .i64 0, .int .i64 0, .int .i64 0, .int .i64 0, .int .i64 0, .int .i64 0, .int .i64 0, .int .i64 0, .int .i64 0, .int .i64 0] 65 (0, 0))) := ⟨hk.blk KZb.out (by omega) (by simp)⟩
        have KRc := Aside0.mk hR
        have KOc := Aside0.mk (own_keep KOb.out hk KRb.out.blk (by decide))
        have fz : wb.frozen? ⟨w6.heap.size, 8, none⟩ = false := blk_frozen KDc.out _
        have fc : wb.cell? ⟨w6.heap.size, 8, none⟩ = some (.int .i64 0) := (cell_of_row _ _ _ _ _ _ KDc.out).trans rfl
        clear hR hk
        go_wp2
        exact ⟨⟨3, by decide, rfl, ⟨FR_far KRc.out KDc.out (by decide) (by decide) h06 8 _⟩, ⟨blk_set KDc.out 8 _⟩, ⟨(Below.heap_setCell _ ⟨w6.heap.size, 8, none⟩ _ w.heap.size (by show w.heap.size ≠ w6.heap.size; omega)).trans KZc.out⟩, ⟨own_set KOc.out KDc.out (by decide) _ _⟩⟩, by simp [intOf]⟩
      · have fn1 := K32.out 40 (by omega)
        have fn2 := K32.out 44 (by omega)
        go_wp2_with (go_at_call 61; apply Aside0.out)
        refine ⟨?_⟩
        refine (rnum_ok 40 4 44 KR7.out Kl.out (by omega) (Or.inr (Or.inr (Or.inl rfl))) (by omega) rfl).mono ?_
        rintro e wa ⟨rfl, hR, hk⟩
        have KDa : Aside0 (DB wa w6.heap.size (supD l 3)) := ⟨hk.blk KD7.out (by omega) (by simp)⟩
        have KZa : Aside0 (wa.heap[w.heap.size]? = some (.cells #[.int .i64 0, .int .i64 0, .int .i64 0, .int .i64 0, .int .i64 0, .int .i64 0, .int .i64 0, .int .i64 0, .int .i64 0, .int .i64 0, .int .i64 0, .int .i64 0, .int .i64 0, .int .i64 0, .int .i64 0] 65 (0, 0))) := ⟨hk.blk KZ7.out (by omega) (by simp)⟩
        have KRa := Aside0.mk hR
        have KOa := Aside0.mk (own_keep KO7.out hk KR7.out.blk (by decide))
        have fz : wa.frozen? ⟨w6.heap.size, 9, none⟩ = false := blk_frozen KDa.out _
        have fc : wa.cell? ⟨w6.heap.size, 9, none⟩ = some (.int .i64 0) := (cell_of_row _ _ _ _ _ _ KDa.out).trans rfl
        clear hR hk
        go_wp2_with (go_at_call 61; apply Aside0.out)
        refine ⟨?_⟩
        have KDb : Aside0 ((wa.setCell ⟨w6.heap.size, 9, none⟩ (.int .i64 (rdN l 40 4 : Int))).heap[w6.heap.size]? = _) := ⟨blk_set KDa.out 9 _⟩
        have KRb := Aside0.mk (FR_far KRa.out KDa.out (by decide) (by decide) h06 9 (.int .i64 (rdN l 40 4 : Int)))
        have KOb := Aside0.mk (own_set KOa.out KDa.out (by decide) 9 (.int .i64 (rdN l 40 4 : Int)))
        have KZb : Aside0 ((wa.setCell ⟨w6.heap.size, 9, none⟩ (.int .i64 (rdN l 40 4 : Int))).heap[w.heap.size]? = some (.cells #[.int .i64 0, .int .i64 0, .int .i64 0, .int .i64 0, .int .i64 0, .int .i64 0, .int .i64 0, .int .i64 0, .int .i64 0, .int .i64 0, .int .i64 0, .int .i64 0, .int .i64 0, .int .i64 0, .int .i64 0] 65 (0, 0))) := ⟨(Below.heap_setCell _ ⟨w6.heap.size, 9, none⟩ _ w.heap.size (by show w.heap.size ≠ w6.heap.size; omega)).trans KZa.out⟩
        refine (rnum_ok 44 4 48 KRb.out Kl.out (by omega) (Or.inr (Or.inr (Or.inl rfl))) (by omega) rfl).mono ?_
        rintro e wb ⟨rfl, hR, hk⟩
        have KDc := Aside0.mk (hk.blk KDb.out (by omega) (by simp))
        have KZc : Aside0 (wb.heap[w.heap.size]? = some (.cells #[.int .i64 0, .int .i64 0, .int .i64 0, .int .i64 0, .int .i64 0, .int .i64 0, .int .i64 0, .int .i64 0, .int .i64 0, .int .i64 0, .int .i64 0, .int .i64 0, .int .i64 0, .int .i64 0, .int .i64 0] 65 (0, 0))) := ⟨hk.blk KZb.out (by omega) (by simp)⟩
        have KRc := Aside0.mk hR
        have KOc := Aside0.mk (own_keep KOb.out hk KRb.out.blk (by decide))
        have fz : wb.frozen? ⟨w6.heap.size, 10, none⟩ = false := blk_frozen KDc.out _
        have fc : wb.cell? ⟨w6.heap.size, 10, none⟩ = some (.int .i64 0) := (cell_of_row _ _ _ _ _ _ KDc.out).trans rfl
        clear hR hk
        go_wp2
        exact ⟨⟨4, by decide, rfl, ⟨FR_far KRc.out KDc.out (by decide) (by decide) h06 10 _⟩, ⟨blk_set KDc.out 10 _⟩, ⟨(Below.heap_setCell _ ⟨w6.heap.size, 10, none⟩ _ w.heap.size (by show w.heap.size ≠ w6.heap.size; omega)).trans KZc.out⟩, ⟨own_set KOc.out KDc.out (by decide) _ _⟩⟩, by simp [intOf]⟩
      · have fn1 := K32.out 48 (by omega)
        have fn2 := K32.out 52 (by omega)
        go_wp2_with (go_at_call 61; apply Aside0.out)
        refine ⟨?_⟩
        refine (rnum_ok 48 4 52 KR7.out Kl.out (by omega) (Or.inr (Or.inr (Or.inl rfl))) (by omega) rfl).mono ?_
        rintro e wa ⟨rfl, hR, hk⟩
        have KDa : Aside0 (DB wa w6.heap.size (supD l 4)) := ⟨hk.blk KD7.out (by omega) (by simp)⟩
        have KZa : Aside0 (wa.heap[w.heap.size]? = some (.cells #[.int .i64 0, .int .i64 0, .int .i64 0, .int .i64 0, .int .i64 0, .int .i64 0, .int .i64 0, .int .i64 0, .int .i64 0, .int .i64 0, .int .i64 0, .int .i64 0, .int .i64 0, .int .i64 0, .int .i64 0] 65 (0, 0))) := ⟨hk.blk KZ7.out (by omega) (by simp)⟩
        have KRa := Aside0.mk hR
        have KOa := Aside0.mk (own_keep KO7.out hk KR7.out.blk (by decide))
        have fz : wa.frozen? ⟨w6.heap.size, 11, none⟩ = false := blk_frozen KDa.out _
        have fc : wa.cell? ⟨w6.heap.size, 11, none⟩ = some (.int .i64 0) := (cell_of_row _ _ _ _ _ _ KDa.out).trans rfl
        clear hR hk
        go_wp2_with (go_at_call 61; apply Aside0.out)
        refine ⟨?_⟩
        have KDb : Aside0 ((wa.setCell ⟨w6.heap.size, 11, none⟩ (.int .i64 (rdN l 48 4 : Int))).heap[w6.heap.size]? = _) := ⟨blk_set KDa.out 11 _⟩
        have KRb := Aside0.mk (FR_far KRa.out KDa.out (by decide) (by decide) h06 11 (.int .i64 (rdN l 48 4 : Int)))
        have KOb := Aside0.mk (own_set KOa.out KDa.out (by decide) 11 (.int .i64 (rdN l 48 4 : Int)))
        have KZb : Aside0 ((wa.setCell ⟨w6.heap.size, 11, none⟩ (.int .i64 (rdN l 48 4 : Int))).heap[w.heap.size]? = some (.cells #[.int .i64 0, .int .i64 0, .int .i64 0, .int .i64 0, .int .i64 0, .int .i64 0, .int .i64 0, .int .i64 0, .int .i64 0, .int .i64 0, .int .i64 0, .int .i64 0, .int .i64 0, .int .i64 0, .int .i64 0] 65 (0, 0))) := ⟨(Below.heap_setCell _ ⟨w6.heap.size, 11, none⟩ _ w.heap.size (by show w.heap.size ≠ w6.heap.size; omega)).trans KZa.out⟩
        refine (rnum_ok 52 4 56 KRb.out Kl.out (by omega) (Or.inr (Or.inr (Or.inl rfl))) (by omega) rfl).mono ?_
        rintro e wb ⟨rfl, hR, hk⟩
        have KDc := Aside0.mk (hk.blk KDb.out (by omega) (by simp))
        have KZc : Aside0 (wb.heap[w.heap.size]? = some (.cells #[.int .i64 0, .int .i64 0, .int .i64 0, .int .i64 0, .int .i64 0, .int .i64 0, .int .i64 0, .int .i64 0, .int .i64 0, .int .i64 0, .int .i64 0, .int .i64 0, .int .i64 0, .int .i64 0, .int .i64 0] 65 (0, 0))) := ⟨hk.blk KZb.out (by omega) (by simp)⟩
        have KRc := Aside0.mk hR
        have KOc := Aside0.mk (own_keep KOb.out hk KRb.out.blk (by decide))
        have fz : wb.frozen? ⟨w6.heap.size, 12, none⟩ = false := blk_frozen KDc.out _
        have fc : wb.cell? ⟨w6.heap.size, 12, none⟩ = some (.int .i64 0) := (cell_of_row _ _ _ _ _ _ KDc.out).trans rfl
        clear hR hk
        go_wp2
        exact ⟨⟨5, by decide, rfl, ⟨FR_far KRc.out KDc.out (by decide) (by decide) h06 12 _⟩, ⟨blk_set KDc.out 12 _⟩, ⟨(Below.heap_setCell _ ⟨w6.heap.size, 12, none⟩ _ w.heap.size (by show w.heap.size ≠ w6.heap.size; omega)).trans KZc.out⟩, ⟨own_set KOc.out KDc.out (by decide) _ _⟩⟩, by simp [intOf]⟩
      · have fn1 := K32.out 56 (by omega)
        have fn2 := K32.out 60 (by omega)
        go_wp2_with (go_at_call 61; apply Aside0.out)
        refine ⟨?_⟩
        refine (rnum_ok 56 4 60 KR7.out Kl.out (by omega) (Or.inr (Or.inr (Or.inl rfl))) (by omega) rfl).mono ?_
        rintro e wa ⟨rfl, hR, hk⟩
        have KDa : Aside0 (DB wa w6.heap.size (supD l 5)) := ⟨hk.blk KD7.out (by omega) (by simp)⟩
        have KZa : Aside0 (wa.heap[w.heap.size]? = some (.cells #[.int .i64 0, .int .i64 0, .int .i64 0, .int .i64 0, .int .i64 0, .int .i64 0, .int .i64 0, .int .i64 0, .int .i64 0, .int .i64 0, .int .i64 0, .int .i64 0, .int .i64 0, .int .i64 0, .int .i64 0] 65 (0, 0))) := ⟨hk.blk KZ7.out (by omega) (by simp)⟩
        have KRa := Aside0.mk hR
        have KOa := Aside0.mk (own_keep KO7.out hk KR7.out.blk (by decide))
        have fz : wa.frozen? ⟨w6.heap.size, 13, none⟩ = false := blk_frozen KDa.out _
        have fc : wa.cell? ⟨w6.heap.size, 13, none⟩ = some (.int .i64 0) := (cell_of_row _ _ _ _ _ _ KDa.out).trans rfl
        clear hR hk
        go_wp2_with (go_at_call 61; apply Aside0.out)
        refine ⟨?_⟩
        have KDb : Aside0 ((wa.setCell ⟨w6.heap.size, 13, none⟩ (.int .i64 (rdN l 56 4 : Int))).heap[w6.heap.size]? = _) := ⟨blk_set KDa.out 13 _⟩
        have KRb := Aside0.mk (FR_far KRa.out KDa.out (by decide) (by decide) h06 13 (.int .i64 (rdN l 56 4 : Int)))
        have KOb := Aside0.mk (own_set KOa.out KDa.out (by decide) 13 (.int .i64 (rdN l 56 4 : Int)))
        have KZb : Aside0 ((wa.setCell ⟨w6.heap.size, 13, none⟩ (.int .i64 (rdN l 56 4 : Int))).heap[w.heap.size]? = some (.cells #[.int .i64 0, .int .i64 0, .int .i64 0, .int .i64 0, .int .i64 0, .int .i64 0, .int .i64 0, .int .i64 0, .int .i64 0, .int .i64 0, .int .i64 0, .int .i64 0, .int .i64 0, .int .i64 0, .int .i64 0] 65 (0, 0))) := ⟨(Below.heap_setCell _ ⟨w6.heap.size, 13, none⟩ _ w.heap.size (by show w.heap.size ≠ w6.heap.size; omega)).trans KZa.out⟩
        refine (rnum_ok 60 4 64 KRb.out Kl.out (by omega) (Or.inr (Or.inr (Or.inl rfl))) (by omega) rfl).mono ?_
        rintro e wb ⟨rfl, hR, hk⟩
        have KDc := Aside0.mk (hk.blk KDb.out (by omega) (by simp))
        have KZc : Aside0 (wb.heap[w.heap.size]? = some (.cells #[.int .i64 0, .int .i64 0, .int .i64 0, .int .i64 0, .int .i64 0, .int .i64 0, .int .i64 0, .int .i64 0, .int .i64 0, .int .i64 0, .int .i64 0, .int .i64 0, .int .i64 0, .int .i64 0, .int .i64 0] 65 (0, 0))) := ⟨hk.blk KZb.out (by omega) (by simp)⟩
        have KRc := Aside0.mk hR
        have KOc := Aside0.mk (own_keep KOb.out hk KRb.out.blk (by decide))
        have fz : wb.frozen? ⟨w6.heap.size, 14, none⟩ = false := blk_frozen KDc.out _
        have fc : wb.cell? ⟨w6.heap.size, 14, none⟩ = some (.int .i64 0) := (cell_of_row _ _ _ _ _ _ KDc.out).trans rfl
        clear hR hk
        go_wp2
        exact ⟨⟨6, by decide, rfl, ⟨FR_far KRc.out KDc.out (by decide) (by decide) h06 14 _⟩, ⟨blk_set KDc.out 14 _⟩, ⟨(Below.heap_setCell _ ⟨w6.heap.size, 14, none⟩ _ w.heap.size (by show w.heap.size ≠ w6.heap.size; omega)).trans KZc.out⟩, ⟨own_set KOc.out KDc.out (by decide) _ _⟩⟩, by simp [intOf]⟩
    · obtain rfl : k = 6 := by omega
      have fn1 := K32.out 64 (by omega)
      go_wp2_with (go_at_call 61; apply Aside0.out)
      refine ⟨?_⟩
      refine (rnum_ok 64 4 68 KR7.out Kl.out (by omega) (Or.inr (Or.inr (Or.inl rfl))) (by omega) rfl).mono ?_
      rintro e wa ⟨rfl, hR, hk⟩
      have KDa : Aside0 (DB wa w6.heap.size (supD l 6)) := ⟨hk.blk KD7.out (by omega) (by simp)⟩
      have KZa : Aside0 (wa.heap[w.heap.size]? = some (.cells #[.int .i64 0, .int .i64 0, .int .i64 0, .int .i64 0, .int .i64 0, .int .i64 0, .int .i64 0, .int .i64 0, .int .i64 0, .int .i64 0, .int .i64 0, .int .i64 0, .int .i64 0, .int .i64 0, .int .i64 0] 65 (0, 0))) := ⟨hk.blk KZ7.out (by omega) (by simp)⟩
      have KRa := Aside0.mk hR
      have KOa := Aside0.mk (own_keep KO7.out hk KR7.out.blk (by decide))
      clear hR hk
      go_wp2_with (go_at_call 62; apply Aside0.out)
      refine ⟨?_⟩
      refine (err_any KRa.out).mono ?_
      rintro e wb ⟨rfl, q, hq⟩
      have KDb : Aside0 (DB wb w6.heap.size (supD l 6)) := ⟨by rw [hq]; exact KDa.out⟩
      have KZb : Aside0 (wb.heap[w.heap.size]? = some (.cells #[.int .i64 0, .int .i64 0, .int .i64 0, .int .i64 0, .int .i64 0, .int .i64 0, .int .i64 0, .int .i64 0, .int .i64 0, .int .i64 0, .int .i64 0, .int .i64 0, .int .i64 0, .int .i64 0, .int .i64 0] 65 (0, 0))) := ⟨by rw [hq]; exact KZa.out⟩
      have KBb : Aside0 (Below w.heap.size w wb) := ⟨below_then KB0.out KB0.out.size (by rw [hq]; exact pw_below_drewN KRa.out.below q)⟩
      have KOb : Aside0 (Row.OwnB wb w0.heap.size (.slice AF 4 cF) (l.take 4)) := ⟨by rw [hq]; exact KOa.out.below (pw_below_drewN (Below.refl _ _) _)⟩
      clear hq
      simp only [RS.e, Bool.false_eq_true, if_false]
      have KQ := Aside0.mk (fun (w1 : World) (hb : Below wb.heap.size wb w1) (A1 : Option Addr) (hr : Kd.C (Kd.int .u8) w1 A1 4 [80, 77, 83, 49]) => eq4 (KOb.out.below hb) hl4 (fun x hx => Kl.out x (List.mem_of_mem_take hx)) A1 4 hr)
      have KX := Aside0.mk (fun (w1 : World) (hb : Below wb.heap.size wb w1) => crc64 (c := c) h68 (by omega) Kl.out (KC.out w1 (below_then KBb.out KBb.out.size hb)))
      obtain ⟨x, hx⟩ : ∃ x, x = Sum.crc 0 (l.take 64) := ⟨_, rfl⟩
      rw [← hx] at KX
      have hxb : Aside0 (x < 4294967296) := ⟨by rw [hx]; exact crc_lt _⟩
      obtain ⟨y, hy⟩ : ∃ y, y = rdN l 64 4 := ⟨_, rfl⟩
      rw [← hy]
      obtain ⟨vr, hvr⟩ : ∃ vr, vr = rdN l 4 2 := ⟨_, rfl⟩
      rw [← hvr] at n0 ⊢
      have hcv : IntKind.u64.wrap (x : Int) = (x : Int) := u64_small _ (by omega) (by have := hxb.out; omega)
      have Kx := Aside0.mk hx
      have Ky := Aside0.mk hy
      have Kv := Aside0.mk hvr
      have kc := fun (w : World) (C : Array Value) (n c : Nat) => Lib.run_convert_bytes_const (P := Try.prog) w 30 5 C n c Try.underlying30 Try.underlying5
      clear hx hy hvr fn1 hlt hk
      have KCk := Aside0.mk (fun w1 => check_any (supD l 6) w1)
      by_cases hmag : l.take 4 = [80, 77, 83, 49]
      · rw [decide_eq_true hmag] at KQ
        clear hmag
        by_cases hv1 : vr = 1
        · subst hv1
          by_cases hlg : 12 ≤ (rdN l 6 2 : Int) ∧ (rdN l 6 2 : Int) ≤ 20
          · have b1 := btw_yes hlg.1 hlg.2
            clear hlg
            have KQ2 := Aside0.mk (KQ.out _ (below_alloc (Below.refl _ _) (.cells #[.int .u8 80, .int .u8 77, .int .u8 83, .int .u8 49] 5 (4, 5))) (some ⟨wb.heap.size, 0, none⟩) (lit_cells _ _ _ _ (heap_alloc_new _ _) [80, 77, 83, 49] rfl (by simp)))
            go_wp2_with (go_at_call 63; apply Aside0.out)
            refine ⟨?_⟩
            refine KQ2.out.mono ?_
            rintro e w' ⟨rfl, rfl⟩
            generalize hWc : World.alloc wb _ = wc
            have hbc : Below wb.heap.size wb wc := by rw [← hWc]; exact below_alloc (Below.refl _ _) _
            have KDc : Aside0 (DB wc w6.heap.size (supD l 6)) := ⟨blk_below KDb.out hbc⟩
            have KZc : Aside0 (wc.heap[w.heap.size]? = some (.cells #[.int .i64 0, .int .i64 0, .int .i64 0, .int .i64 0, .int .i64 0, .int .i64 0, .int .i64 0, .int .i64 0, .int .i64 0, .int .i64 0, .int .i64 0, .int .i64 0, .int .i64 0, .int .i64 0, .int .i64 0] 65 (0, 0))) := ⟨blk_below KZb.out hbc⟩
            have KBc : Aside0 (Below w.heap.size w wc) := ⟨below_then KBb.out KBb.out.size hbc⟩
            have KX2 := Aside0.mk (KX.out wc hbc)
            have q0 : wc.cell? ⟨w6.heap.size, 0, none⟩ = some (.int .i64 (rdN l 6 2 : Int)) := (cell_of_row _ _ _ _ _ _ KDc.out).trans rfl
            clear hWc hbc kc
            by_cases hxy : x = y
            · subst hxy
              obtain ⟨z0, z1, z2, z3, z4, z5, z6, z7, z8, z9, z10, z11, z12, z13, z14⟩ := dbox KDc.out
              unfold chk at KCk
              by_cases hri : right (supD l 6)
              · rw [if_pos hri] at KCk
                go_wp2_with (first | (go_at_call 51; refine (between_any _ _ _ _).mono ?_; rintro e w' ⟨rfl, rfl⟩) | (go_at_call 56; refine KX2.out.mono ?_; rintro e w' ⟨rfl, rfl⟩) | (go_at_call 37; apply Aside0.out))
                refine ⟨?_⟩
                refine (KCk.out _).mono ?_
                rintro e wd ⟨rfl, hbd⟩
                have KZd := Aside0.mk (blk_below KZc.out hbd)
                have KDd : Aside0 (DB wd w6.heap.size (supD l 6)) := Aside0.mk (blk_below KDc.out hbd)
                have KBd := Aside0.mk (below_then KBc.out KBc.out.size hbd)
                clear hbd z0 z1 z2 z3 z4 z5 z6 z7 z8 z9 z10 z11 z12 z13 z14
                obtain ⟨z0, z1, z2, z3, z4, z5, z6, z7, z8, z9, z10, z11, z12, z13, z14⟩ := dbox KDd.out
                go_wp2_with ((with_reducible refine gate_store (t := 65) (p := 2) rfl ?_); apply Aside0.out)
                refine ⟨?_⟩
                refine store_super rfl (.tmp 2) (.tmp 83) rfl w.heap.size #[] _ _ rfl rfl KZd.out rfl rfl (by simp [Value.oneCell']) ?_
                intro we hwe hbe
                have KWe := Aside0.mk hwe
                have KBe := Aside0.mk (hbe w.heap.size w (Nat.le_refl _) KBd.out)
                clear hwe hbe
                go_wp2
                refine bodyPost_ret (results_list (rs := [.cell 2 65, .tmp 3]) rfl (by simp) (.cell w.heap.size 65 _ _ _ rfl KWe.out Try.underlying65 rfl szSuper (.tmp .nil))) rfl ?_
                exact ⟨KBe.out, Or.inr (Or.inr ⟨rfl, by rw [← Kx.out, Ky.out]⟩)⟩
              · rw [if_neg hri] at KCk
                go_wp2_with (first | (go_at_call 51; refine (between_any _ _ _ _).mono ?_; rintro e w' ⟨rfl, rfl⟩) | (go_at_call 56; refine KX2.out.mono ?_; rintro e w' ⟨rfl, rfl⟩) | (go_at_call 37; apply Aside0.out))
                refine ⟨?_⟩
                refine (KCk.out _).mono ?_
                rintro e wd ⟨rfl, hbd⟩
                have KZd := Aside0.mk (blk_below KZc.out hbd)
                have KBd := Aside0.mk (below_then KBc.out KBc.out.size hbd)
                clear hbd z0 z1 z2 z3 z4 z5 z6 z7 z8 z9 z10 z11 z12 z13 z14
                go_wp2_with ((with_reducible refine gate_store (t := 65) (p := 2) rfl ?_); apply Aside0.out)
                refine ⟨?_⟩
                refine store_super rfl (.tmp 2) (.tmp 82) rfl w.heap.size #[] _ _ rfl rfl KZd.out rfl rfl (by simp [Value.oneCell']) ?_
                intro we hwe hbe
                have KWe := Aside0.mk hwe
                have KBe := Aside0.mk (hbe w.heap.size w (Nat.le_refl _) KBd.out)
                clear hwe hbe
                go_wp2
                refine bodyPost_ret (results_list (rs := [.cell 2 65, .tmp 3]) rfl (by simp) (.cell w.heap.size 65 _ _ _ rfl KWe.out Try.underlying65 rfl szSuper (.tmp .nil))) rfl ?_
                exact ⟨KBe.out, Or.inl ⟨rfl, Or.inr hri⟩⟩
            · have hxy1 : ((x : Int) != (y : Int)) = true := by simp; omega
              go_wp2_with (first | (go_at_call 51; refine (between_any _ _ _ _).mono ?_; rintro e w' ⟨rfl, rfl⟩) | (go_at_call 56; refine KX2.out.mono ?_; rintro e w' ⟨rfl, rfl⟩) | ((with_reducible refine gate_store (t := 65) (p := 2) rfl ?_); apply Aside0.out))
              refine ⟨?_⟩
              refine store_super rfl (.tmp 2) (.tmp 77) rfl w.heap.size #[] _ _ rfl rfl KZc.out rfl rfl (by simp [Value.oneCell']) ?_
              intro we hwe hbe
              have KWe := Aside0.mk hwe
              have KBe := Aside0.mk (hbe w.heap.size w (Nat.le_refl _) KBc.out)
              clear hwe hbe
              go_wp2
              refine bodyPost_ret (results_list (rs := [.cell 2 65, .tmp 3]) rfl (by simp) (.cell w.heap.size 65 _ _ _ rfl KWe.out Try.underlying65 rfl szSuper (.tmp .nil))) rfl ?_
              exact ⟨KBe.out, Or.inr (Or.inl ⟨rfl, by rw [← Kx.out, ← Ky.out]; exact hxy⟩)⟩
          · have b1 : btw (rdN l 6 2 : Int) 12 20 = false := btw_no (by omega)
            have KQ2 := Aside0.mk (KQ.out _ (below_alloc (Below.refl _ _) (.cells #[.int .u8 80, .int .u8 77, .int .u8 83, .int .u8 49] 5 (4, 5))) (some ⟨wb.heap.size, 0, none⟩) (lit_cells _ _ _ _ (heap_alloc_new _ _) [80, 77, 83, 49] rfl (by simp)))
            go_wp2_with (go_at_call 63; apply Aside0.out)
            refine ⟨?_⟩
            refine KQ2.out.mono ?_
            rintro e w' ⟨rfl, rfl⟩
            generalize hWc : World.alloc wb _ = wc
            have hbc : Below wb.heap.size wb wc := by rw [← hWc]; exact below_alloc (Below.refl _ _) _
            have KDc : Aside0 (DB wc w6.heap.size (supD l 6)) := ⟨blk_below KDb.out hbc⟩
            have KZc : Aside0 (wc.heap[w.heap.size]? = some (.cells #[.int .i64 0, .int .i64 0, .int .i64 0, .int .i64 0, .int .i64 0, .int .i64 0, .int .i64 0, .int .i64 0, .int .i64 0, .int .i64 0, .int .i64 0, .int .i64 0, .int .i64 0, .int .i64 0, .int .i64 0] 65 (0, 0))) := ⟨blk_below KZb.out hbc⟩
            have KBc : Aside0 (Below w.heap.size w wc) := ⟨below_then KBb.out KBb.out.size hbc⟩
            have KX2 := Aside0.mk (KX.out wc hbc)
            have q0 : wc.cell? ⟨w6.heap.size, 0, none⟩ = some (.int .i64 (rdN l 6 2 : Int)) := (cell_of_row _ _ _ _ _ _ KDc.out).trans rfl
            clear hWc hbc kc
            go_wp2_with (first | (go_at_call 51; refine (between_any _ _ _ _).mono ?_; rintro e w' ⟨rfl, rfl⟩) | ((with_reducible refine gate_store (t := 65) (p := 2) rfl ?_); apply Aside0.out))
            refine ⟨?_⟩
            refine store_super rfl (.tmp 2) (.tmp 69) rfl w.heap.size #[] _ _ rfl rfl KZc.out rfl rfl (by simp [Value.oneCell']) ?_
            intro we hwe hbe
            have KWe := Aside0.mk hwe
            have KBe := Aside0.mk (hbe w.heap.size w (Nat.le_refl _) KBc.out)
            clear hwe hbe
            go_wp2
            refine bodyPost_ret (results_list (rs := [.cell 2 65, .tmp 3]) rfl (by simp) (.cell w.heap.size 65 _ _ _ rfl KWe.out Try.underlying65 rfl szSuper (.tmp .nil))) rfl ?_
            exact ⟨KBe.out, Or.inl ⟨rfl, Or.inl (Or.inr (Or.inr hlg))⟩⟩
        · have hv2 : ((vr : Int) != 1) = true := by simp; omega
          have KQ2 := Aside0.mk (KQ.out _ (below_alloc (Below.refl _ _) (.cells #[.int .u8 80, .int .u8 77, .int .u8 83, .int .u8 49] 5 (4, 5))) (some ⟨wb.heap.size, 0, none⟩) (lit_cells _ _ _ _ (heap_alloc_new _ _) [80, 77, 83, 49] rfl (by simp)))
          go_wp2_with (go_at_call 63; apply Aside0.out)
          refine ⟨?_⟩
          refine KQ2.out.mono ?_
          rintro e w' ⟨rfl, rfl⟩
          generalize hWc : World.alloc wb _ = wc
          have hbc : Below wb.heap.size wb wc := by rw [← hWc]; exact below_alloc (Below.refl _ _) _
          have KDc : Aside0 (DB wc w6.heap.size (supD l 6)) := ⟨blk_below KDb.out hbc⟩
          have KZc : Aside0 (wc.heap[w.heap.size]? = some (.cells #[.int .i64 0, .int .i64 0, .int .i64 0, .int .i64 0, .int .i64 0, .int .i64 0, .int .i64 0, .int .i64 0, .int .i64 0, .int .i64 0, .int .i64 0, .int .i64 0, .int .i64 0, .int .i64 0, .int .i64 0] 65 (0, 0))) := ⟨blk_below KZb.out hbc⟩
          have KBc : Aside0 (Below w.heap.size w wc) := ⟨below_then KBb.out KBb.out.size hbc⟩
          have KX2 := Aside0.mk (KX.out wc hbc)
          have q0 : wc.cell? ⟨w6.heap.size, 0, none⟩ = some (.int .i64 (rdN l 6 2 : Int)) := (cell_of_row _ _ _ _ _ _ KDc.out).trans rfl
          clear hWc hbc kc
          go_wp2_with (first | (go_at_call 51; refine (between_any _ _ _ _).mono ?_; rintro e w' ⟨rfl, rfl⟩) | ((with_reducible refine gate_store (t := 65) (p := 2) rfl ?_); apply Aside0.out))
          refine ⟨?_⟩
          refine store_super rfl (.tmp 2) (.tmp 69) rfl w.heap.size #[] _ _ rfl rfl KZc.out rfl rfl (by simp [Value.oneCell']) ?_
          intro we hwe hbe
          have KWe := Aside0.mk hwe
          have KBe := Aside0.mk (hbe w.heap.size w (Nat.le_refl _) KBc.out)
          clear hwe hbe
          go_wp2
          refine bodyPost_ret (results_list (rs := [.cell 2 65, .tmp 3]) rfl (by simp) (.cell w.heap.size 65 _ _ _ rfl KWe.out Try.underlying65 rfl szSuper (.tmp .nil))) rfl ?_
          exact ⟨KBe.out, Or.inl ⟨rfl, Or.inl (Or.inr (Or.inl (by rw [← Kv.out]; exact hv1)))⟩⟩
      · rw [decide_eq_false hmag] at KQ
        have KQ2 := Aside0.mk (KQ.out _ (below_alloc (Below.refl _ _) (.cells #[.int .u8 80, .int .u8 77, .int .u8 83, .int .u8 49] 5 (4, 5))) (some ⟨wb.heap.size, 0, none⟩) (lit_cells _ _ _ _ (heap_alloc_new _ _) [80, 77, 83, 49] rfl (by simp)))
        go_wp2_with (go_at_call 63; apply Aside0.out)
        refine ⟨?_⟩
        refine KQ2.out.mono ?_
        rintro e w' ⟨rfl, rfl⟩
        generalize hWc : World.alloc wb _ = wc
        have hbc : Below wb.heap.size wb wc := by rw [← hWc]; exact below_alloc (Below.refl _ _) _
        have KDc : Aside0 (DB wc w6.heap.size (supD l 6)) := ⟨blk_below KDb.out hbc⟩
        have KZc : Aside0 (wc.heap[w.heap.size]? = some (.cells #[.int .i64 0, .int .i64 0, .int .i64 0, .int .i64 0, .int .i64 0, .int .i64 0, .int .i64 0, .int .i64 0, .int .i64 0, .int .i64 0, .int .i64 0, .int .i64 0, .int .i64 0, .int .i64 0, .int .i64 0] 65 (0, 0))) := ⟨blk_below KZb.out hbc⟩
        have KBc : Aside0 (Below w.heap.size w wc) := ⟨below_then KBb.out KBb.out.size hbc⟩
        have KX2 := Aside0.mk (KX.out wc hbc)
        have q0 : wc.cell? ⟨w6.heap.size, 0, none⟩ = some (.int .i64 (rdN l 6 2 : Int)) := (cell_of_row _ _ _ _ _ _ KDc.out).trans rfl
        clear hWc hbc kc
        go_wp2_with (first | (go_at_call 51; refine (between_any _ _ _ _).mono ?_; rintro e w' ⟨rfl, rfl⟩) | ((with_reducible refine gate_store (t := 65) (p := 2) rfl ?_); apply Aside0.out))
        refine ⟨?_⟩
        refine store_super rfl (.tmp 2) (.tmp 69) rfl w.heap.size #[] _ _ rfl rfl KZc.out rfl rfl (by simp [Value.oneCell']) ?_
        intro we hwe hbe
        have KWe := Aside0.mk hwe
        have KBe := Aside0.mk (hbe w.heap.size w (Nat.le_refl _) KBc.out)
        clear hwe hbe
        go_wp2
        refine bodyPost_ret (results_list (rs := [.cell 2 65, .tmp 3]) rfl (by simp) (.cell w.heap.size 65 _ _ _ rfl KWe.out Try.underlying65 rfl szSuper (.tmp .nil))) rfl ?_
        exact ⟨KBe.out, Or.inl ⟨rfl, Or.inl (Or.inl hmag)⟩⟩
end Go.Proofs.Ytepmgkmbmejkjaa.Su
