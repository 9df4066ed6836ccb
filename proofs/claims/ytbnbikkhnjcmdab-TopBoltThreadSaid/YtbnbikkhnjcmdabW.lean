/- Words for the walks of this seat: plain lemmas on worlds and lists; nothing of the program. -/
import Derived.WalkKit
import Derived.WalkSpells
import Derived.WalkLawsBesides
import Derived.Lib.Hide
namespace Go.Proofs.Ytbnbikkhnjcmdab
open Go.RowKit

/-- The number at a place of a list. -/
def gt (xs : List Int) (k : Nat) : Int := xs.getD k 0

/-- Behind a call: all old cells and marks read as before. -/
theorem bcell {W w1 : World} (hb : Below W.heap.size W w1) : (∀ b o, b < W.heap.size → w1.cell? ⟨b, o, none⟩ = W.cell? ⟨b, o, none⟩) ∧ (∀ b o, b < W.heap.size → w1.frozen? ⟨b, o, none⟩ = W.frozen? ⟨b, o, none⟩) :=
  ⟨fun b o h => hb.cell (p := ⟨b, o, none⟩) h, fun b o h => hb.frozen (p := ⟨b, o, none⟩) h⟩

/-- A number outside of its bounds. -/
def badB (lo hi x : Int) : Bool := (decide (x < lo) || decide (hi < x))
def anyBad (lo hi : Int) (xs : List Int) : Bool := xs.any (badB lo hi)
/-- Where the first number outside of the bounds stands. -/
def idxBad (lo hi : Int) : List Int → Int → Int
  | [], _ => -1
  | x :: xs, i => if badB lo hi x then i else idxBad lo hi xs (i + 1)
theorem idxBad_ge (lo hi : Int) : ∀ (xs : List Int) (i : Int), 0 ≤ i → (idxBad lo hi xs i = -1 ∧ xs.any (badB lo hi) = false) ∨ (0 ≤ idxBad lo hi xs i ∧ xs.any (badB lo hi) = true)
  | [], i, h => .inl ⟨rfl, rfl⟩
  | x :: xs, i, h => by
    unfold idxBad
    by_cases hb : badB lo hi x = true
    · rw [if_pos hb]; exact .inr ⟨h, by simp [hb]⟩
    · rw [if_neg hb]
      rcases idxBad_ge lo hi xs (i + 1) (by omega) with ⟨h1, h2⟩ | ⟨h1, h2⟩
      · exact .inl ⟨h1, by simp [hb, h2]⟩
      · exact .inr ⟨h1, by simp [h2]⟩

/-- Within two bounds: one number, two, three; a span. -/
def ok1 (lo hi x : Int) : Bool := decide (lo ≤ x ∧ x ≤ hi)
def ok2 (lo hi x y : Int) : Bool := decide (lo ≤ x ∧ x ≤ hi ∧ lo ≤ y ∧ y ≤ hi)
def ok3 (lo hi x y z : Int) : Bool := decide (lo ≤ x ∧ x ≤ hi ∧ lo ≤ y ∧ y ≤ hi ∧ lo ≤ z ∧ z ≤ hi)
def okS (lo hi a b : Int) : Bool := decide (a ≤ b ∧ lo ≤ a ∧ b ≤ hi)
theorem any1 (lo hi x : Int) : (!anyBad lo hi [x]) = ok1 lo hi x := by
  rw [Bool.eq_iff_iff]; simp [anyBad, badB, ok1]
theorem any2 (lo hi x y : Int) : (!anyBad lo hi [x, y]) = ok2 lo hi x y := by
  rw [Bool.eq_iff_iff]; simp [anyBad, badB, ok2]; omega
theorem any3 (lo hi x y z : Int) : (!anyBad lo hi [x, y, z]) = ok3 lo hi x y z := by
  rw [Bool.eq_iff_iff]; simp [anyBad, badB, ok3]; omega

theorem okS_of {lo hi a b : Int} (h : a ≤ b) : okS lo hi a b = ok2 lo hi a b := by
  rw [Bool.eq_iff_iff]; simp [okS, ok2]; omega
theorem okS_no {lo hi a b : Int} (h : ¬ a ≤ b) : okS lo hi a b = false := by
  simp only [okS, decide_eq_false_iff_not]; omega

/-- A new block's cells. -/
theorem new1 (w : World) (x : Int) (t : TypeId) : ∀ j, j < 1 → (w.alloc (.cells #[.int .i64 x] t)).cell? ⟨w.heap.size, 0 + j, none⟩ = some (.int .i64 (gt [x] j)) := by
  intro j hj
  obtain rfl : j = 0 := by omega
  simp [gt]
theorem new2 (w : World) (x y : Int) (t : TypeId) : ∀ j, j < 2 → (w.alloc (.cells #[.int .i64 x, .int .i64 y] t)).cell? ⟨w.heap.size, 0 + j, none⟩ = some (.int .i64 (gt [x, y] j)) := by
  intro j hj
  obtain rfl | rfl : j = 0 ∨ j = 1 := by omega
  all_goals simp [gt]
theorem new3 (w : World) (x y z : Int) (t : TypeId) : ∀ j, j < 3 → (w.alloc (.cells #[.int .i64 x, .int .i64 y, .int .i64 z] t)).cell? ⟨w.heap.size, 0 + j, none⟩ = some (.int .i64 (gt [x, y, z] j)) := by
  intro j hj
  obtain rfl | rfl | rfl : j = 0 ∨ j = 1 ∨ j = 2 := by omega
  all_goals simp [gt]
/-- A block laid, then a call that keeps all: below the block all is kept. -/
theorem below_new {w w' : World} {o : Obj} (h : Below (w.alloc o).heap.size (w.alloc o) w') : Below w.heap.size w w' :=
  ((Below.refl _ w).alloc (Nat.le_refl _) _).trans (h.mono (by simp))
end Go.Proofs.Ytbnbikkhnjcmdab
