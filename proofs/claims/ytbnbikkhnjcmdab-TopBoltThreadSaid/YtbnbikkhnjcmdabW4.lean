/- More words: cells of new blocks. -/
import Derived.Test.YtbnbikkhnjcmdabW3
namespace Go.Proofs.Ytbnbikkhnjcmdab
open Go.RowKit
/-- Cells of a block that has just been laid; cells behind a new block, behind a draw. -/
theorem cnew {W : World} {B i : Nat} {cs : Array Value} {t : TypeId} {v : Value} (hB : B = W.heap.size) (h : cs[i]? = some v) : (W.alloc (.cells cs t)).cell? ⟨B, i, none⟩ = some v := by
  subst hB; simp [h]
theorem fnew {W : World} {B i : Nat} {cs : Array Value} {t : TypeId} (hB : B = W.heap.size) (_h : True) : (W.alloc (.cells cs t)).frozen? ⟨B, i, none⟩ = false := by
  subst hB; simp
theorem cal {W : World} {b o : Nat} {v : Value} {x : Obj} (h : W.cell? ⟨b, o, none⟩ = some v) : (W.alloc x).cell? ⟨b, o, none⟩ = some v := ckeep h (bnew W x)
theorem cdr {W : World} {b o : Nat} {v : Value} (h : W.cell? ⟨b, o, none⟩ = some v) : W.drew.cell? ⟨b, o, none⟩ = some v := h
theorem fdr {W : World} {b o : Nat} (h : W.frozen? ⟨b, o, none⟩ = false) : W.drew.frozen? ⟨b, o, none⟩ = false := h
theorem ckeep2 {w w' : World} {b o : Nat} {v : Value} (hb : Below w.heap.size w w') (h : w.cell? ⟨b, o, none⟩ = some v) : w'.cell? ⟨b, o, none⟩ = some v := ckeep h hb
theorem fkeep2 {w w' : World} {b o : Nat} {v : Value} (hb : Below w.heap.size w w') (h : w.cell? ⟨b, o, none⟩ = some v) (hf : w.frozen? ⟨b, o, none⟩ = false) : w'.frozen? ⟨b, o, none⟩ = false := fkeep h hf hb
end Go.Proofs.Ytbnbikkhnjcmdab
