/- Contracts of the package thread: forms. -/
import Derived.Test.YtbnbikkhnjcmdabThread1
import Derived.Deep.RegionHeld3
set_option linter.unusedVariables false
set_option linter.unusedSimpArgs false
namespace Go.Proofs.Ytbnbikkhnjcmdab
open Go.RowKit

theorem thread_leans (pitch left right above below starts : Int) (lh : Bool) (taper : Int) (w : World) (l1 : 0 ≤ left) (l2 : left ≤ 3000) (l3 : 0 ≤ right) (l4 : right ≤ 3000) : Calls Try.prog 79 #[.agg #[.int .i64 pitch, .int .i64 left, .int .i64 right, .int .i64 above, .int .i64 below, .int .i64 starts, .bool lh, .int .i64 taper]] w fun e w' => e = .returned (.int .i64 (left + right)) ∧ Below w.heap.size w w' := by
  go_enter Try.func79, Try.ntmps79
  go_wp2
  go_ret
  exact ⟨rfl, bnew w _⟩
theorem thread_lead (pitch left right above below starts : Int) (lh : Bool) (taper : Int) (w : World) (l1 : 0 ≤ pitch * starts) (l2 : pitch * starts ≤ 10000000) : Calls Try.prog 71 #[.agg #[.int .i64 pitch, .int .i64 left, .int .i64 right, .int .i64 above, .int .i64 below, .int .i64 starts, .bool lh, .int .i64 taper]] w fun e w' => e = .returned (.int .i64 (pitch * starts)) ∧ Below w.heap.size w w' := by
  go_enter Try.func71, Try.ntmps71
  go_wp2
  go_ret
  exact ⟨rfl, bnew w _⟩
/-- The width of the tooth at a height. -/
def thW (pitch left right y : Int) : Int := 1000 * pitch - 2 * y * (left + right)

set_option maxHeartbeats 2000000 in
theorem thread_width (pitch left right above below starts : Int) (lh : Bool) (taper : Int) (y : Int) (w : World) (p1 : 0 ≤ pitch) (p2 : pitch ≤ 200000) (l1 : 0 ≤ left) (l2 : left ≤ 3000) (l3 : 0 ≤ right) (l4 : right ≤ 3000) (y1 : -1000000 ≤ y) (y2 : y ≤ 1000000) : Calls Try.prog 97 #[.agg #[.int .i64 pitch, .int .i64 left, .int .i64 right, .int .i64 above, .int .i64 below, .int .i64 starts, .bool lh, .int .i64 taper], .int .i64 y] w fun e w' => e = .returned (.int .i64 (thW pitch left right y)) ∧ Below w.heap.size w w' := by
  have z : -24000000000 ≤ 2 * y * (left + right) ∧ 2 * y * (left + right) ≤ 24000000000 := by
    have a1 := mul_in (show 0 ≤ left + right by omega) (show left + right ≤ 6000 by omega) (show 0 ≤ y + 1000000 by omega) (show y + 1000000 ≤ 2000000 by omega)
    have a2 : (left + right) * (y + 1000000) = (left + right) * y + (left + right) * 1000000 := Int.mul_add _ _ _
    have a3 : 2 * y * (left + right) = 2 * ((left + right) * y) := by rw [Int.mul_assoc, Int.mul_comm y]
    omega
  go_enter Try.func97, Try.ntmps97
  go_wp2_with fail
  go_region_held3 (fun w' => w'.cell? ⟨w.heap.size, 0, none⟩ = some (.int .i64 pitch) ∧ w'.cell? ⟨w.heap.size, 1, none⟩ = some (.int .i64 left) ∧ w'.cell? ⟨w.heap.size, 2, none⟩ = some (.int .i64 right) ∧ w'.cell? ⟨w.heap.size, 3, none⟩ = some (.int .i64 above) ∧ w'.cell? ⟨w.heap.size, 4, none⟩ = some (.int .i64 below) ∧ w'.cell? ⟨w.heap.size, 5, none⟩ = some (.int .i64 starts) ∧ w'.cell? ⟨w.heap.size, 6, none⟩ = some (.bool lh) ∧ w'.cell? ⟨w.heap.size, 7, none⟩ = some (.int .i64 taper) ∧ Below w.heap.size w w') (first | ((refine ⟨?_, ?_, ?_, ?_, ?_, ?_, ?_, ?_, ?_⟩ <;> first | (exact Below.drew (bnew w _)) | (go_simp; done)); done) | (obtain ⟨c0, c1, c2, c3, c4, c5, c6, c7, cb⟩ := ‹_ ∧ _ ∧ _ ∧ _ ∧ _ ∧ _ ∧ _ ∧ _ ∧ Below w.heap.size w _›; exact ⟨ckeep c0 hb, ckeep c1 hb, ckeep c2 hb, ckeep c3 hb, ckeep c4 hb, ckeep c5 hb, ckeep c6 hb, ckeep c7 hb, bthen cb hb⟩)) (first | (go_at_call 79; refine (thread_leans pitch left right above below starts lh taper _ l1 l2 l3 l4).mono ?_; rintro e w' ⟨rfl, hb⟩))
  go_wp2_with fail
  obtain ⟨_, _, _, _, _, _, _, _, cb⟩ := ‹_ ∧ _ ∧ _ ∧ _ ∧ _ ∧ _ ∧ _ ∧ _ ∧ Below w.heap.size w _›
  go_ret
  exact ⟨ret_int (by rw [IntWalk.i64_in (1000 * pitch) (by omega), IntWalk.i64_in (2 * y) (by omega), IntWalk.i64_in (2 * y * (left + right)) (by omega)]; exact IntWalk.i64_in _ (by omega)), cb⟩

theorem thread_has1 (pitch left right above below starts : Int) (lh : Bool) (taper : Int) (y : Int) (B : Nat) (w : World) (hB : B = w.heap.size) (b1 : -1000000000 ≤ below) (b2 : below ≤ 1000000000) : Calls Try.prog 96 #[.agg #[.int .i64 pitch, .int .i64 left, .int .i64 right, .int .i64 above, .int .i64 below, .int .i64 starts, .bool lh, .int .i64 taper], .slice (some ⟨B, 0, none⟩) 1 1] (w.alloc (.cells #[.int .i64 y] 3)) fun e w' => e = .returned (.bool (ok1 (-below) above y)) ∧ Below w.heap.size w w' := by
  go_enter Try.func96, Try.ntmps96
  go_wp2_with fail
  refine (thread_within _ _ _ 0 1 _ [y] _ rfl (by decide) ?_).mono ?_
  · intro j hj
    obtain rfl : j = 0 := by omega
    subst hB
    simp [gt]
  rintro e w1 ⟨rfl, hb1⟩
  go_wp2_with fail
  go_ret
  exact ⟨ret_bool (any1 _ _ _), bthen (balloc (bnew w _) _) hb1⟩
theorem thread_has2 (pitch left right above below starts : Int) (lh : Bool) (taper : Int) (x y : Int) (B : Nat) (w : World) (hB : B = w.heap.size) (b1 : -1000000000 ≤ below) (b2 : below ≤ 1000000000) : Calls Try.prog 96 #[.agg #[.int .i64 pitch, .int .i64 left, .int .i64 right, .int .i64 above, .int .i64 below, .int .i64 starts, .bool lh, .int .i64 taper], .slice (some ⟨B, 0, none⟩) 2 2] (w.alloc (.cells #[.int .i64 x, .int .i64 y] 3)) fun e w' => e = .returned (.bool (ok2 (-below) above x y)) ∧ Below w.heap.size w w' := by
  go_enter Try.func96, Try.ntmps96
  go_wp2_with fail
  refine (thread_within _ _ _ 0 2 _ [x, y] _ rfl (by decide) ?_).mono ?_
  · intro j hj
    subst hB
    obtain rfl | rfl : j = 0 ∨ j = 1 := by omega
    all_goals simp [gt]
  rintro e w1 ⟨rfl, hb1⟩
  go_wp2_with fail
  go_ret
  exact ⟨ret_bool (any2 _ _ _ _), bthen (balloc (bnew w _) _) hb1⟩

/-- A valid form; its error. -/
def thOk (pitch left right above below starts : Int) (lh : Bool) (taper : Int) : Bool := ok1 100 200000 pitch && ok2 0 3000 left right && ok2 0 200000 above below && decide (1 ≤ above + below) && ok1 1 8 starts && ok1 0 100 taper && decide (0 ≤ thW pitch left right above) && decide (0 ≤ thW pitch left right below)
def thErr (pitch left right above below starts : Int) (lh : Bool) (taper : Int) : Int := if thOk pitch left right above below starts lh taper then 0 else 2

set_option maxHeartbeats 4000000 in
theorem thread_Check (pitch left right above below starts : Int) (lh : Bool) (taper : Int) (w : World) : Calls Try.prog 75 #[.agg #[.int .i64 pitch, .int .i64 left, .int .i64 right, .int .i64 above, .int .i64 below, .int .i64 starts, .bool lh, .int .i64 taper]] w fun e w' => e = .returned (.int .i64 (thErr pitch left right above below starts lh taper)) ∧ Below w.heap.size w w' := by
  go_enter Try.func75, Try.ntmps75
  go_wp2_with fail
  refine (thread_within1 _ _ _ _ _ (by simp)).mono ?_
  rintro e w1 ⟨rfl, hb1⟩
  obtain ⟨hc1, hf1⟩ := bcell hb1
  have hz1_0 : w.heap.size < w1.heap.size := by have := hb1.size; (try simp at this); omega
  have hz1_1 : w.heap.size + 1 < w1.heap.size := by have := hb1.size; (try simp at this); omega
  have HB1 : Hid (Below w.heap.size w w1) := by first | exact bthen (balloc (bnew w _) _) hb1 | exact bthen (balloc (balloc (bnew w _) _) _) hb1 | exact bthen (balloc (balloc (balloc (bnew w _) _) _) _) hb1
  clear hb1
  by_cases g1 : ok1 100 200000 pitch = false
  · rw [g1]
    have G1 := Lib.hid g1; clear g1
    go_wp2_with fail
    go_ret
    exact ⟨ret_int (by simp [thErr, thOk, G1.out]), HB1.out⟩
  rw [isT g1]
  have G1 := Lib.hid (isT g1); clear g1
  go_wp2_with fail
  refine (thread_within2 _ _ _ _ _ _ (by simp)).mono ?_
  rintro e w2 ⟨rfl, hb2⟩
  obtain ⟨hc2, hf2⟩ := bcell hb2
  have hz2_0 : w.heap.size < w2.heap.size := by have := hb2.size; (try simp at this); omega
  have hz2_1 : w.heap.size + 1 < w2.heap.size := by have := hb2.size; (try simp at this); omega
  have HB2 : Hid (Below w.heap.size w w2) := by first | exact bthen HB1.out hb2 | exact bthen (balloc HB1.out _) hb2 | exact bthen (balloc (balloc HB1.out _) _) hb2
  clear hb2
  by_cases g2 : ok2 0 3000 left right = false
  · rw [g2]
    have G2 := Lib.hid g2; clear g2
    go_wp2_with fail
    go_ret
    exact ⟨ret_int (by simp [thErr, thOk, G2.out]), HB2.out⟩
  rw [isT g2]
  have G2 := Lib.hid (isT g2); clear g2
  go_wp2_with fail
  refine (thread_within2 _ _ _ _ _ _ (by simp)).mono ?_
  rintro e w3 ⟨rfl, hb3⟩
  obtain ⟨hc3, hf3⟩ := bcell hb3
  have hz3_0 : w.heap.size < w3.heap.size := by have := hb3.size; (try simp at this); omega
  have hz3_1 : w.heap.size + 1 < w3.heap.size := by have := hb3.size; (try simp at this); omega
  have HB3 : Hid (Below w.heap.size w w3) := by first | exact bthen HB2.out hb3 | exact bthen (balloc HB2.out _) hb3 | exact bthen (balloc (balloc HB2.out _) _) hb3
  clear hb3
  by_cases g3 : ok2 0 200000 above below = false
  · rw [g3]
    have G3 := Lib.hid g3; clear g3
    go_wp2_with fail
    go_ret
    exact ⟨ret_int (by simp [thErr, thOk, G3.out]), HB3.out⟩
  rw [isT g3]
  have G3 := Lib.hid (isT g3); clear g3
  obtain ⟨r1, r2, r3, r4⟩ : 0 ≤ above ∧ above ≤ 200000 ∧ 0 ≤ below ∧ below ≤ 200000 := by have := G3.out; simp only [ok2, decide_eq_true_eq] at this; omega
  obtain ⟨r5, r6, r7, r8⟩ : 0 ≤ left ∧ left ≤ 3000 ∧ 0 ≤ right ∧ right ≤ 3000 := by have := G2.out; simp only [ok2, decide_eq_true_eq] at this; omega
  obtain ⟨r9, r10⟩ : 0 ≤ pitch ∧ pitch ≤ 200000 := by have := G1.out; simp only [ok1, decide_eq_true_eq] at this; omega
  by_cases g4 : 1 ≤ above + below
  rotate_left
  · have G4 : Hid (decide (1 ≤ above + below) = false) := by show _ = _; simpa using g4
    go_wp2_with fail
    go_ret
    exact ⟨ret_int (by simp [thErr, thOk, G4.out]), HB3.out⟩
  have G4 : Hid (decide (1 ≤ above + below) = true) := by show _ = _; simpa using g4
  go_wp2_with fail
  refine (thread_within1 _ _ _ _ _ (by simp)).mono ?_
  rintro e w4 ⟨rfl, hb4⟩
  obtain ⟨hc4, hf4⟩ := bcell hb4
  have hz4_0 : w.heap.size < w4.heap.size := by have := hb4.size; (try simp at this); omega
  have hz4_1 : w.heap.size + 1 < w4.heap.size := by have := hb4.size; (try simp at this); omega
  have HB4 : Hid (Below w.heap.size w w4) := by first | exact bthen HB3.out hb4 | exact bthen (balloc HB3.out _) hb4 | exact bthen (balloc (balloc HB3.out _) _) hb4
  clear hb4
  by_cases g5 : ok1 1 8 starts = false
  · rw [g5]
    have G5 := Lib.hid g5; clear g5
    go_wp2_with fail
    go_ret
    exact ⟨ret_int (by simp [thErr, thOk, G5.out]), HB4.out⟩
  rw [isT g5]
  have G5 := Lib.hid (isT g5); clear g5
  go_wp2_with fail
  refine (thread_within1 _ _ _ _ _ (by simp)).mono ?_
  rintro e w5 ⟨rfl, hb5⟩
  obtain ⟨hc5, hf5⟩ := bcell hb5
  have hz5_0 : w.heap.size < w5.heap.size := by have := hb5.size; (try simp at this); omega
  have hz5_1 : w.heap.size + 1 < w5.heap.size := by have := hb5.size; (try simp at this); omega
  have HB5 : Hid (Below w.heap.size w w5) := by first | exact bthen HB4.out hb5 | exact bthen (balloc HB4.out _) hb5 | exact bthen (balloc (balloc HB4.out _) _) hb5
  clear hb5
  by_cases g6 : ok1 0 100 taper = false
  · rw [g6]
    have G6 := Lib.hid g6; clear g6
    go_wp2_with fail
    go_ret
    exact ⟨ret_int (by simp [thErr, thOk, G6.out]), HB5.out⟩
  rw [isT g6]
  have G6 := Lib.hid (isT g6); clear g6
  go_wp2_with fail
  refine (thread_width pitch left right above below starts lh taper _ _ (by omega) (by omega) (by omega) (by omega) (by omega) (by omega) (by omega) (by omega)).mono ?_
  rintro e w6 ⟨rfl, hb6⟩
  obtain ⟨hc6, hf6⟩ := bcell hb6
  have hz6_0 : w.heap.size < w6.heap.size := by have := hb6.size; (try simp at this); omega
  have hz6_1 : w.heap.size + 1 < w6.heap.size := by have := hb6.size; (try simp at this); omega
  have HB6 : Hid (Below w.heap.size w w6) := by first | exact bthen HB5.out hb6 | exact bthen (balloc HB5.out _) hb6 | exact bthen (balloc (balloc HB5.out _) _) hb6
  clear hb6
  by_cases g7 : 0 ≤ thW pitch left right above
  rotate_left
  · have G7 : Hid (decide (0 ≤ thW pitch left right above) = false) := by show _ = _; simpa using g7
    go_wp2_with fail
    go_ret
    exact ⟨ret_int (by simp [thErr, thOk, G7.out]), HB6.out⟩
  have G7 : Hid (decide (0 ≤ thW pitch left right above) = true) := by show _ = _; simpa using g7
  go_wp2_with fail
  refine (thread_width pitch left right above below starts lh taper _ _ (by omega) (by omega) (by omega) (by omega) (by omega) (by omega) (by omega) (by omega)).mono ?_
  rintro e w7 ⟨rfl, hb7⟩
  obtain ⟨hc7, hf7⟩ := bcell hb7
  have hz7_0 : w.heap.size < w7.heap.size := by have := hb7.size; (try simp at this); omega
  have hz7_1 : w.heap.size + 1 < w7.heap.size := by have := hb7.size; (try simp at this); omega
  have HB7 : Hid (Below w.heap.size w w7) := by first | exact bthen HB6.out hb7 | exact bthen (balloc HB6.out _) hb7 | exact bthen (balloc (balloc HB6.out _) _) hb7
  clear hb7
  by_cases g8 : 0 ≤ thW pitch left right below
  rotate_left
  · have G8 : Hid (decide (0 ≤ thW pitch left right below) = false) := by show _ = _; simpa using g8
    go_wp2_with fail
    go_ret
    exact ⟨ret_int (by simp [thErr, thOk, G8.out]), HB7.out⟩
  have G8 : Hid (decide (0 ≤ thW pitch left right below) = true) := by show _ = _; simpa using g8
  go_wp2_with fail
  go_ret
  exact ⟨ret_int (by simp [thErr, thOk, G1.out, G2.out, G3.out, G4.out, G5.out, G6.out, G7.out, G8.out]), HB7.out⟩

end Go.Proofs.Ytbnbikkhnjcmdab
