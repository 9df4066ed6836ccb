/- Words that bear their tactic as a default argument: what the walks say again and again. -/
import Derived.Test.YtbnbikkhnjcmdabV
namespace Go.Proofs.Ytbnbikkhnjcmdab
open Go.RowKit Go.Proofs.YtbnbikkhnjcmdabW.PrintWords
/-- A block that lies behind steps that do not touch it. -/
theorem pl {g : Nat} {o : Obj} {w w' : World} (h : w'.heap[g]? = some o) (p : w'.heap[g]? = some o → w.heap[g]? = some o := by (intro h; (with_reducible repeat (first | refine blk_drewN ?_ _ | refine blk_drew ?_ | refine blk_alloc ?_ _)); exact h)) : w.heap[g]? = some o := p h
theorem plf {g : Nat} {o : Obj} {w w' : World} (h : w'.heap[g]? = some o) (p : w'.heap[g]? = some o → w.heap[g]? = some o := by (intro h; repeat (first | (with_reducible exact h) | (with_reducible refine blk_drewN ?_ _) | (with_reducible refine blk_drew ?_) | (with_reducible refine blk_alloc ?_ _) | refine blk_far ?_ (Aside0.out (by assumption)) _))) : w.heap[g]? = some o := p h
/-- Below the block at which the call began, all is as it was. -/
theorem hbp {w W W' : World} (h : Below w.heap.size w W) (p : Below w.heap.size w W → Below w.heap.size w W' := by (intro h; repeat (first | (with_reducible first | exact h | apply below_alloc | apply pw_below_drewN | apply below_drew1 | refine below_set ?_ (Aside0.out (by assumption))) | exact h))) : Below w.heap.size w W' := p h
theorem ltB {g h : Nat} {o : Obj} {W : World} (hg : h = W.heap.size) (b : W.heap[g]? = some o) : g ≠ h := by rw [hg]; exact Nat.ne_of_lt (blk_lt b)
theorem gtB {g h : Nat} {o : Obj} {W : World} (hg : h = W.heap.size) (b : W.heap[g]? = some o) : h ≠ g := by rw [hg]; exact Nat.ne_of_gt (blk_lt b)
theorem geB {h : Nat} {w W : World} (hg : h = W.heap.size) (b : Below w.heap.size w W) : w.heap.size ≤ h := by rw [hg]; exact below_size b
/-- What is not on is not asked. -/
theorem nof {P : Prop} (h : false = true) : P := absurd h (by decide)
theorem offA {b : Bool} {P : Prop} (h : b = false) (k : b = true) : P := absurd (h.symm.trans k) (by decide)
/-- A whole number in a block. -/
theorem cB {w : World} {g : Nat} {t : TypeId} {cs : Array Value} {x : Int} (h : w.heap[g]? = some (.cells cs t (0, 0))) (i : Nat) (e : cs[i]? = some (.int .i64 x) := by rfl) : w.cell? ⟨g, i, none⟩ = some (.int .i64 x) := (blk_cell h i).trans e
end Go.Proofs.Ytbnbikkhnjcmdab
