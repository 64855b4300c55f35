/- Blocks are unpacked: how much; the sequences, in memory of their own. -/
import Derived.Test.YtgplpcjlemjabaaLz9
import Derived.Test.YtgplpcjlemjabaaLz5
set_option linter.unusedVariables false
set_option linter.unusedSimpArgs false
namespace Go.Proofs.Ytgplpcjlemjabaa.Lz
open Go.RowKit Go.Proofs.YtgplpcjlemjabaaW.PrintWords Go.Proofs.YtgplpcjlemjabaaW.PrintLast Go.Proofs.YtgplpcjlemjabaaW.PrintMore
/-- How much a block unpacks to; the error; its place. -/
def siz (b : List Int) : Int × Int × Int :=
  if (run b.length 1048576 (b.length + 1) 0 b).2.1 = 0 then (tot (run b.length 1048576 (b.length + 1) 0 b).1, 0, b.length) else (0, (run b.length 1048576 (b.length + 1) 0 b).2)
theorem results_tmp3 {fn : Func} {t u v : Nat} (h : fn.results = #[.tmp t, .tmp u, .tmp v]) (tmps : Array Value) (P : Program) (w : World) :
    (results fn tmps).run P w = .ok (.tuple #[tmps.getD t undef, tmps.getD u undef, tmps.getD v undef]) w := by
  simp only [results, h]
  simp
/-- A sequence, as it lies in a row. -/
def kS : Kd Sq := Kd.pair (Kd.slice 5 (Kd.int .u8)) (Kd.pair (Kd.int .i64) (Kd.int .i64))
theorem infoSq : (Try.prog.info? 67).map (fun i => (i.zero, i.size, i.bytes)) = some (some (.agg #[.slice none 0 0, .int .i64 0, .int .i64 0]), 3, 40) := by kernel_rfl
/-- What Cut's closure keeps. -/
def IC (base p g : Nat) (wr : World) (acc : List Sq) (o : Option Nat) : Prop :=
  ∃ u, wr.heap[p]? = some (.cells #[u] 64 (0, 0)) ∧ Kd.R kS 67 wr base (fun k => k ≠ p ∧ k ≠ g) u acc ∧ u.ownBlock = o
theorem IC_stab (base p g : Nat) (hpg : p ≠ g) : Stab2 g (IC base p g) := by
  intro wr w' acc o ⟨u, h1, h2, h3⟩ hk
  exact ⟨u, (hk p (blk_lt h1) hpg).trans h1, Kd.R_step h2 fun k ho hlt => hk k hlt ho.2, h3⟩
theorem IC_row {base p g : Nat} {wr : World} {acc : List Sq} {o : Option Nat} (h : IC base p g wr acc o) : o ≠ some p := by
  obtain ⟨u, h1, h2, rfl⟩ := h
  intro e
  exact (h2.1 p e).1 rfl
theorem own_from {w : World} {base : Nat} {v : Value} {xs : List Int} (h : Row.OwnB w base v xs) : Kd.R (Kd.int .u8) 5 w base (fun k => base ≤ k) v xs := ⟨fun k hk => Kd.R_base h k hk, h.2⟩
/-- A block's sequences; the error; its place. -/
def cuts (b : List Int) : List Sq × Int × Int :=
  if (run b.length 1048576 (b.length + 1) 0 b).2.1 = 0 then ((run b.length 1048576 (b.length + 1) 0 b).1, 0, b.length) else ([], (run b.length 1048576 (b.length + 1) 0 b).2)
theorem load_boxS {w : World} {a : Addr} {v : Value} (h : w.cell? a = some v) : (loadVar 64 a).run Try.prog w = .ok v w := by
  have hu : Try.prog.underlying 64 = some (.slice 67) := Try.underlying64
  simp [go_sem, loadVar, run_underlying hu, h]
end Go.Proofs.Ytgplpcjlemjabaa.Lz
