/- Contracts of the package thread: numbers. -/
import Derived.Test.YtbnbikkhnjcmdabInThread
import Derived.Test.YtbnbikkhnjcmdabW3
set_option linter.unusedVariables false
set_option linter.unusedSimpArgs false
namespace Go.Proofs.Ytbnbikkhnjcmdab
open Go.RowKit
theorem gcd_step {a b : Int} : Int.gcd b (a.tmod b) = Int.gcd a b := by
  simp only [Int.gcd, Int.natAbs_tmod]
  rw [Nat.gcd_comm b.natAbs, ← Nat.gcd_rec, Nat.gcd_comm]


set_option maxHeartbeats 1000000 in
theorem thread_gcd (a b : Int) (w : World) (ha : -9223372036854775807 ≤ a ∧ a ≤ 9223372036854775807) (hb : -9223372036854775807 ≤ b ∧ b ≤ 9223372036854775807) :
    Calls Try.prog 143 #[.int .i64 a, .int .i64 b] w fun e w' => e = .returned (.int .i64 (Int.gcd a b)) ∧ Below w.heap.size w w' := by
  go_enter Try.func143, Try.ntmps143
  go_wp2
  go_loopw [0, 1] (fun x y wr => ∃ p q : Int, x = .int .i64 p ∧ y = .int .i64 q ∧ Hid (Int.gcd a b = Int.gcd p q) ∧ -9223372036854775807 ≤ p ∧ p ≤ 9223372036854775807 ∧ -9223372036854775807 ≤ q ∧ q ≤ 9223372036854775807 ∧ Hid (Below w.heap.size w wr)) (fun _ y _ => (intOf y).natAbs)
  case atStart => exact ⟨a, b, rfl, rfl, rfl, ha.1, ha.2, hb.1, hb.2, Below.refl _ _⟩
  case round =>
    obtain ⟨p, q, rfl, rfl, HG, h1, h2, h3, h4, HR⟩ := hrel
    by_cases hq : q = 0
    · subst hq
      go_wp2
      all_goals (go_ret; exact ⟨ret_int (by rw [HG.out, Int.gcd_zero_right]; omega), HR.out⟩)
    · have hne : (q == 0) = false := by simpa using hq
      have hlt := Int.natAbs_tmod p q
      have hlt2 := Nat.mod_lt p.natAbs (show q.natAbs > 0 by omega)
      have hb1 : -9223372036854775807 ≤ p.tmod q ∧ p.tmod q ≤ 9223372036854775807 := by omega
      have HL : Hid ((p.tmod q).natAbs < q.natAbs) := by show _ < _; omega
      clear hlt hlt2
      obtain ⟨hb1, hb2⟩ := hb1
      go_wp2
      go_region
      all_goals
        go_wp2
        go_roundw
        case rel => exact ⟨q, p.tmod q, rfl, rfl, by show _ = _; rw [HG.out, gcd_step], h3, h4, hb1, hb2, HR.out.drew⟩
        case measure => simpa [intOf] using HL.out
end Go.Proofs.Ytbnbikkhnjcmdab
