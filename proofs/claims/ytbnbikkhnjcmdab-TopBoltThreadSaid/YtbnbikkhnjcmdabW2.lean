/- More words: spans, worlds behind calls, ends of walks. -/
import Derived.Test.YtbnbikkhnjcmdabW
import Derived.Handy
namespace Go.Proofs.Ytbnbikkhnjcmdab
open Go.RowKit
theorem okS_lt {lo hi a b : Int} (h : b < a) : okS lo hi a b = false := by
  simp only [okS, decide_eq_false_iff_not]; omega
theorem ret_int {k : IntKind} {a b : Int} (h : a = b) : Ending.returned (.int k a) = .returned (.int k b) := by rw [h]
theorem ret_bool {a b : Bool} (h : a = b) : Ending.returned (.bool a) = .returned (.bool b) := by rw [h]
theorem ret_agg2 {a b c d : Int} (h : a = c) (h' : b = d) : Ending.returned (.agg #[.int .i64 a, .int .i64 b]) = .returned (.agg #[.int .i64 c, .int .i64 d]) := by rw [h, h']
/-- One call behind another. -/
theorem bthen {w w1 w2 : World} (h : Below w.heap.size w w1) (k : Below w1.heap.size w1 w2) : Below w.heap.size w w2 := h.trans (k.mono h.size)
theorem balloc {w w1 : World} (h : Below w.heap.size w w1) (o : Obj) : Below w.heap.size w (w1.alloc o) := h.alloc h.size o
theorem bnew (w : World) (o : Obj) : Below w.heap.size w (w.alloc o) := (Below.refl _ w).alloc (Nat.le_refl _) o
theorem isT {b : Bool} (h : ¬ b = false) : b = true := by simpa using h
theorem notT {b : Bool} (h : ¬ b = true) : b = false := by simpa using h
end Go.Proofs.Ytbnbikkhnjcmdab
