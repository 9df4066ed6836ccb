/- More words: lists that are read, as cells; nothing of the program. -/
import Derived.Test.YtbnbikkhnjcmdabW3
import Derived.Test.YtbnbikkhnjcmdabV
namespace Go.Proofs.Ytbnbikkhnjcmdab
open Go.RowKit Go.Proofs.YtbnbikkhnjcmdabW.PrintWords
theorem addr_plain {w : World} {a : Addr} {v : Value} (h : w.cell? a = some v) : a.spot = none := by
  unfold World.cell? at h
  cases hs : a.spot with
  | none => rfl
  | some s => rw [hs] at h; split at h <;> simp at h
theorem add_plain (b off j : Nat) : (⟨b, off, none⟩ : Addr).add j = ⟨b, off + j, none⟩ := by
  unfold Addr.add; split
  · rename_i h; subst h; rfl
  · rfl
theorem intsAt {w : World} {A : Option Addr} {xs : List Int} (h : Kd.C (Kd.int .i64) w A xs.length xs) (hn : 0 < xs.length) :
    ∃ b off, A = some ⟨b, off, none⟩ ∧ ∀ j, j < xs.length → w.cell? ⟨b, off + j, none⟩ = some (.int .i64 (gt xs j)) := by
  obtain ⟨_, _, h3⟩ := Kd.reads_of_C (enc := Value.int .i64) (d := (0 : Int)) (h1 := fun _ => rfl) h
  obtain ⟨⟨b, off, sp⟩, rfl, hc⟩ := h3 hn
  obtain rfl : sp = none := addr_plain (hc 0 hn)
  exact ⟨b, off, rfl, fun j hj => by have := hc j hj; rwa [add_plain] at this⟩
end Go.Proofs.Ytbnbikkhnjcmdab
