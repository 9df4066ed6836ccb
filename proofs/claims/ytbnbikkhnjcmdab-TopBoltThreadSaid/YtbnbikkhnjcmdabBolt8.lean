/- Ways that lie in a row that is read. -/
import Derived.Test.YtbnbikkhnjcmdabBolt6
import Derived.Test.YtbnbikkhnjcmdabW6
namespace Go.Proofs.Ytbnbikkhnjcmdab
open Go.RowKit
def badWayFrom (f : Nat → Nat → Int) (k m : Nat) : Bool := decide (0 ≤ idxWay f k m)
theorem badWay_from (f : Nat → Nat → Int) (n : Nat) : badWay f n = badWayFrom f 0 n := rfl
theorem badWayFrom_zero (f : Nat → Nat → Int) (k : Nat) : badWayFrom f k 0 = false := by simp [badWayFrom, idxWay]
theorem badWayFrom_succ (f : Nat → Nat → Int) (k m : Nat) : badWayFrom f k (m + 1) = (!wOkf (f k) || badWayFrom f (k + 1) m) := by
  by_cases h : wOkf (f k) = true
  · simp [badWayFrom, idxWay, h]
  · have h' : wOkf (f k) = false := by simpa using h
    simp [badWayFrom, idxWay, h']
def WayAtA (w : World) (a : Addr) (f : Nat → Int) : Prop := w.cell? a = some (.int .i64 (f 0)) ∧ w.cell? ⟨a.block, a.off + 1, none⟩ = some (.int .i64 (f 1)) ∧ w.cell? ⟨a.block, a.off + 2, none⟩ = some (.int .i64 (f 2)) ∧ w.cell? ⟨a.block, a.off + 3, none⟩ = some (.int .i64 (f 3)) ∧ w.cell? ⟨a.block, a.off + 4, none⟩ = some (.int .i64 (f 4)) ∧ w.cell? ⟨a.block, a.off + 5, none⟩ = some (.int .i64 (f 5)) ∧ w.cell? ⟨a.block, a.off + 6, none⟩ = some (.int .i64 (f 6))
theorem waysAt {w : World} {A : Option Addr} {n : Nat} {f : Nat → Nat → Int} (hn : 0 < n) (h : ∀ j, j < n → ∃ ad, A = some ad ∧ WayAtA w (ad.add (j * 7)) (f j)) :
    ∃ b off, A = some ⟨b, off, none⟩ ∧ ∀ j, j < n → WayAt w b (off + j * 7) (f j) := by
  obtain ⟨⟨b, off, sp⟩, hA, h0⟩ := h 0 hn
  obtain rfl : sp = none := addr_plain h0.1
  refine ⟨b, off, hA, fun j hj => ?_⟩
  obtain ⟨ad, hB, hw⟩ := h j hj
  obtain rfl : ad = ⟨b, off, none⟩ := by rw [hA] at hB; exact (Option.some.inj hB).symm
  rw [add_plain] at hw
  exact hw
end Go.Proofs.Ytbnbikkhnjcmdab
