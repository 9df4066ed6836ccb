/- Struct and array arguments of rows, by value: their cells. Nothing of the program. -/
import Derived.WalkKit
import Derived.WideShapes
import Derived.ChangeShapes
import Derived.ChangeSame
namespace Go.Proofs.Ytbnbikkhnjcmdab
open Go.WideShapes Go.ChangeShapes
theorem cell_int {P : Program} {w : World} {r : Reach} {base : Nat} {u : TypeId} {v : Value} {k : IntKind} (hu : P.underlying u = some (.int k)) (h : Cell.okWide P w r base u v) : ∃ n : Int, v = .int k n ∧ (Lit.int k n).wf = true := by
  have h' : Value.okWide P w r base u v := by unfold Value.okWide; rw [hu]; exact h
  unfold Cell.okWide at h
  rw [hu] at h
  cases v <;> simp [Cell.ok, hu, IntKind.has] at h ⊢
  obtain ⟨rfl, h1, h2⟩ := h
  exact ⟨_, ⟨rfl, rfl⟩, by simp [Lit.wf, h1, h2]⟩
theorem cell_bool {P : Program} {w : World} {r : Reach} {base : Nat} {u : TypeId} {v : Value} (hu : P.underlying u = some .bool) (h : Cell.okWide P w r base u v) : ∃ b : Bool, v = .bool b := by
  unfold Cell.okWide at h
  rw [hu] at h
  cases v <;> simp [Cell.ok, hu] at h ⊢
/-- Cells of these types. -/
def CellsOk (R : TypeId → Value → Prop) (ts : List TypeId) (cs : List Value) : Prop := cs.length = ts.length ∧ ∀ (i : Nat) (u : TypeId) (c : Value), ts[i]? = some u → cs[i]? = some c → R u c
theorem cells_cons {R : TypeId → Value → Prop} {u : TypeId} {ts : List TypeId} {cs : List Value} (h : CellsOk R (u :: ts) cs) : ∃ c cs', cs = c :: cs' ∧ R u c ∧ CellsOk R ts cs' := by
  obtain ⟨hl, hc⟩ := h
  cases cs with
  | nil => simp at hl
  | cons c cs' => exact ⟨c, cs', rfl, hc 0 u c rfl rfl, by simpa using hl, fun i v d h1 h2 => hc (i + 1) v d (by simpa using h1) (by simpa using h2)⟩
theorem cells_nil {R : TypeId → Value → Prop} {cs : List Value} (h : CellsOk R [] cs) : cs = [] := by
  have := h.1; cases cs with
  | nil => rfl
  | cons c l => simp at this
theorem value_cell_int {P : Program} {w : World} {r : Reach} {base : Nat} {u : TypeId} {v : Value} {k : IntKind} (hu : P.underlying u = some (.int k)) (h : Value.okWide P w r base u v) : Cell.okWide P w r base u v := by
  unfold Value.okWide at h; rw [hu] at h; exact h
theorem value_cell_bool {P : Program} {w : World} {r : Reach} {base : Nat} {u : TypeId} {v : Value} (hu : P.underlying u = some .bool) (h : Value.okWide P w r base u v) : Cell.okWide P w r base u v := by
  unfold Value.okWide at h; rw [hu] at h; exact h
theorem cells_open {P : Program} {w : World} {r : Reach} {base : Nat} {t : TypeId} {v : Value} {ts : List TypeId} (hu : (∃ f, P.underlying t = some (.struct f)) ∨ ∃ e n, P.underlying t = some (.array e n))
    (hts : P.cellTypes P.depth t = some ts) (hn : P.cellsOf t = ts.length) (h : Value.okWide P w r base t v) : ∃ cs : List Value, v = .agg cs.toArray ∧ CellsOk (fun u c => Cell.okWide P w r base u c) ts cs := by
  have h' : ∃ cs, v = .agg cs ∧ cs.size = P.cellsOf t ∧ Row.okWide P w r base t cs := by
    unfold Value.okWide at h
    rcases hu with ⟨f, hu⟩ | ⟨e, n, hu⟩ <;> (rw [hu] at h; exact h)
  obtain ⟨cs, rfl, hs, ts', hts', _, hc⟩ := h'
  rw [hts] at hts'
  obtain rfl := Option.some.inj hts'
  refine ⟨cs.toList, by simp, by simp [hs, hn], fun i u c hi hci => ?_⟩
  have hl : i < ts.length := (List.getElem?_eq_some_iff.1 hi).1
  obtain ⟨u', hu', ho⟩ := hc i c (by simpa using hci)
  rw [Nat.mod_eq_of_lt hl, hi] at hu'
  obtain rfl := Option.some.inj hu'
  exact ho
end Go.Proofs.Ytbnbikkhnjcmdab
