/- More words: cells kept by calls and by stores; quotients. -/
import Derived.Test.YtbnbikkhnjcmdabW2
namespace Go.Proofs.Ytbnbikkhnjcmdab
open Go.RowKit
theorem ckeep {w w' : World} {b o : Nat} {v : Value} (h : w.cell? ⟨b, o, none⟩ = some v) (hb : Below w.heap.size w w') : w'.cell? ⟨b, o, none⟩ = some v := cell_later hb h
theorem fkeep {w w' : World} {b o : Nat} {v : Value} (h : w.cell? ⟨b, o, none⟩ = some v) (hf : w.frozen? ⟨b, o, none⟩ = false) (hb : Below w.heap.size w w') : w'.frozen? ⟨b, o, none⟩ = false := (hb.frozen (p := ⟨b, o, none⟩) (World.block_lt_of_cell? w _ h)).trans hf
theorem cset {w : World} {b o b' o' : Nat} {v u : Value} (h : w.cell? ⟨b, o, none⟩ = some v) (hne : b ≠ b') : (w.setCell ⟨b', o', none⟩ u).cell? ⟨b, o, none⟩ = some v := by
  rw [← h]; exact World.cell?_of_block (Below.heap_setCell w _ u b hne)
theorem bset {B : Nat} {a w : World} {b o : Nat} {u : Value} (h : Below B a w) (hB : B ≤ b) : Below B a (w.setCell ⟨b, o, none⟩ u) := h.setCell hB u
theorem mul_in {a b A B : Int} (h0 : 0 ≤ a) (h1 : a ≤ A) (g0 : 0 ≤ b) (g1 : b ≤ B) : 0 ≤ a * b ∧ a * b ≤ A * B :=
  ⟨Int.mul_nonneg h0 g0, Int.mul_le_mul h1 g1 g0 (Int.le_trans h0 h1)⟩
theorem down_neg {n m : Int} (h0 : 1 ≤ m) (h : n.tmod m < 0) : n.tdiv m - 1 = n / m := by
  have hm := Int.emod_nonneg n (show m ≠ 0 by omega)
  rw [Int.tmod_eq_emod] at h
  rw [Int.tdiv_eq_ediv]
  split at h
  · omega
  · rename_i hh; rw [if_neg hh, Int.sign_eq_one_of_pos (by omega)]; omega
theorem down_pos {n m : Int} (h0 : 1 ≤ m) (h : ¬ n.tmod m < 0) : n.tdiv m = n / m := by
  have hm := Int.emod_nonneg n (show m ≠ 0 by omega)
  have hl := Int.emod_lt_of_pos n (show 0 < m by omega)
  rw [Int.tmod_eq_emod] at h
  rw [Int.tdiv_eq_ediv]
  split at h
  · rename_i hh; rw [if_pos hh]; omega
  · exfalso; omega
theorem tdiv_in {n m A : Int} (h0 : 1 ≤ m) (hA : 0 ≤ A) (h1 : -A ≤ n) (h2 : n ≤ A) : -A ≤ n.tdiv m ∧ n.tdiv m ≤ A := by
  rw [tdiv_eq_if]
  split
  · rename_i hx; have := IntWalk.tdiv_le n m hx h0; omega
  · rename_i hx; have := IntWalk.tdiv_le (-n) m (by omega) h0; omega
theorem prods {a b A B : Int} (h0 : 0 ≤ a) (h1 : a ≤ A) (g0 : 0 ≤ b) (g1 : b ≤ B) {C : Int} (hC : A * B = C) : 0 ≤ a * b ∧ a * b ≤ C := by
  have := mul_in h0 h1 g0 g1
  omega
end Go.Proofs.Ytbnbikkhnjcmdab
