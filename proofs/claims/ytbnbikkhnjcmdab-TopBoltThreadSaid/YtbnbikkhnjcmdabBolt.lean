/- Contracts of the package bolt: what each function returns, and that all that lay before the call lies unchanged. -/
import Derived.Test.YtbnbikkhnjcmdabInBolt
import Derived.Test.YtbnbikkhnjcmdabW2
namespace Go.Proofs.Ytbnbikkhnjcmdab
open Go.RowKit

theorem bolt_isSpan (a b lo hi : Int) (w : World) : Calls Try.prog 131 #[.agg #[.int .i64 a, .int .i64 b], .int .i64 lo, .int .i64 hi] w fun e w' => e = .returned (.bool (okS lo hi a b)) ∧ Below w.heap.size w w' := by
  by_cases h : a ≤ b
  · go_enter Try.func131, Try.ntmps131
    go_wp2_with (go_at_call 183; refine (bolt_within2 lo hi _ _ _ _ (by simp)).mono ?_; rintro e w' ⟨rfl, hb⟩)
    go_ret
    exact ⟨ret_bool (okS_of h).symm, below_new hb⟩
  · have h' : decide (a ≤ b) = false := by simpa using h
    go_enter Try.func131, Try.ntmps131
    go_wp2_with fail
    go_ret
    exact ⟨ret_bool (okS_lt h).symm, (Below.refl _ w).alloc (Nat.le_refl _) _⟩
theorem bolt_isForce (a b : Int) (w : World) : Calls Try.prog 95 #[.agg #[.int .i64 a, .int .i64 b]] w fun e w' => e = .returned (.bool (okS 0 100000000 a b)) ∧ Below w.heap.size w w' := by
  go_enter Try.func95, Try.ntmps95
  go_wp2_with (go_at_call 131; refine (bolt_isSpan _ _ _ _ _).mono ?_; rintro e w' ⟨rfl, hb⟩)
  go_ret
  exact ⟨rfl, below_new hb⟩
theorem bolt_isTorque (a b : Int) (w : World) : Calls Try.prog 221 #[.agg #[.int .i64 a, .int .i64 b]] w fun e w' => e = .returned (.bool (okS 0 10000000000000 a b)) ∧ Below w.heap.size w w' := by
  go_enter Try.func221, Try.ntmps221
  go_wp2_with (go_at_call 131; refine (bolt_isSpan _ _ _ _ _).mono ?_; rintro e w' ⟨rfl, hb⟩)
  go_ret
  exact ⟨rfl, below_new hb⟩

/-- A valid kind of bolt; the error of a kind. -/
def kOk (lead thread head t0 t1 h0 h1 s0 s1 p0 p1 y0 y1 : Int) : Bool := ok1 1 100000 lead && ok2 0 100000 thread head && okS 0 1000 t0 t1 && okS 0 1000 h0 h1 && okS 1 100000000 s0 s1 && okS 1 100000 p0 p1 && okS 1 100000000 y0 y1
def kErr (lead thread head t0 t1 h0 h1 s0 s1 p0 p1 y0 y1 : Int) : Int := if kOk lead thread head t0 t1 h0 h1 s0 s1 p0 p1 y0 y1 then 0 else 2
set_option maxHeartbeats 2000000 in
theorem bolt_Check (lead thread head t0 t1 h0 h1 s0 s1 p0 p1 y0 y1 : Int) (w : World) : Calls Try.prog 144 #[.agg #[.int .i64 lead, .int .i64 thread, .int .i64 head, .int .i64 t0, .int .i64 t1, .int .i64 h0, .int .i64 h1, .int .i64 s0, .int .i64 s1, .int .i64 p0, .int .i64 p1, .int .i64 y0, .int .i64 y1]] w fun e w' => e = .returned (.int .i64 (kErr lead thread head t0 t1 h0 h1 s0 s1 p0 p1 y0 y1)) ∧ Below w.heap.size w w' := by
  have ix0 : ∀ W : World, (Instr.index 318 (.agg #[.int .i64 t0, .int .i64 t1, .int .i64 h0, .int .i64 h1]) (.int .i64 0)).run Try.prog W = .ok (.agg #[.int .i64 t0, .int .i64 t1]) W := fun _ => by kernel_rfl
  have ix1 : ∀ W : World, (Instr.index 318 (.agg #[.int .i64 t0, .int .i64 t1, .int .i64 h0, .int .i64 h1]) (.int .i64 1)).run Try.prog W = .ok (.agg #[.int .i64 h0, .int .i64 h1]) W := fun _ => by kernel_rfl
  go_enter Try.func144, Try.ntmps144
  go_wp2_with fail
  refine (bolt_within1 _ _ _ _ _ (by simp)).mono ?_
  rintro e w1 ⟨rfl, hb1⟩
  obtain ⟨hc1, hf1⟩ := bcell hb1
  have hz1 : w.heap.size < w1.heap.size := by have := hb1.size; (try simp at this); omega
  have HB1 : Hid (Below w.heap.size w w1) := by first | exact bthen (bnew w _) hb1 | exact bthen (bnew w _) (below_new hb1)
  clear hb1
  by_cases g1 : ok1 1 100000 lead = false
  · rw [g1]
    have G1 := Lib.hid g1; clear g1
    go_wp2_with fail
    go_ret
    exact ⟨ret_int (by simp [kErr, kOk, G1.out]), HB1.out⟩
  rw [isT g1]
  have G1 := Lib.hid (isT g1); clear g1
  go_wp2_with fail
  refine (bolt_within2 _ _ _ _ _ _ (by simp)).mono ?_
  rintro e w2 ⟨rfl, hb2⟩
  obtain ⟨hc2, hf2⟩ := bcell hb2
  have hz2 : w.heap.size < w2.heap.size := by have := hb2.size; (try simp at this); omega
  have HB2 : Hid (Below w.heap.size w w2) := by first | exact bthen HB1.out hb2 | exact bthen HB1.out (below_new hb2)
  clear hb2
  by_cases g2 : ok2 0 100000 thread head = false
  · rw [g2]
    have G2 := Lib.hid g2; clear g2
    go_wp2_with fail
    go_ret
    exact ⟨ret_int (by simp [kErr, kOk, G2.out]), HB2.out⟩
  rw [isT g2]
  have G2 := Lib.hid (isT g2); clear g2
  go_wp2_with fail
  refine wp_loop_rounds 3 ?_
  rw [rounds_succ]
  go_wp2_with fail
  refine (bolt_isSpan _ _ _ _ _).mono ?_
  rintro e w3 ⟨rfl, hb3⟩
  obtain ⟨hc3, hf3⟩ := bcell hb3
  have hz3 : w.heap.size < w3.heap.size := by have := hb3.size; (try simp at this); omega
  have HB3 : Hid (Below w.heap.size w w3) := by first | exact bthen HB2.out hb3 | exact bthen HB2.out (below_new hb3)
  clear hb3
  by_cases g3 : okS 0 1000 t0 t1 = false
  · rw [g3]
    have G3 := Lib.hid g3; clear g3
    go_wp2_with fail
    go_ret
    exact ⟨ret_int (by simp [kErr, kOk, G3.out]), HB3.out⟩
  rw [isT g3]
  have G3 := Lib.hid (isT g3); clear g3
  go_wp2_with fail
  rw [rounds_succ]
  go_wp2_with fail
  refine (bolt_isSpan _ _ _ _ _).mono ?_
  rintro e w4 ⟨rfl, hb4⟩
  obtain ⟨hc4, hf4⟩ := bcell hb4
  have hz4 : w.heap.size < w4.heap.size := by have := hb4.size; (try simp at this); omega
  have HB4 : Hid (Below w.heap.size w w4) := by first | exact bthen HB3.out hb4 | exact bthen HB3.out (below_new hb4)
  clear hb4
  by_cases g4 : okS 0 1000 h0 h1 = false
  · rw [g4]
    have G4 := Lib.hid g4; clear g4
    go_wp2_with fail
    go_ret
    exact ⟨ret_int (by simp [kErr, kOk, G4.out]), HB4.out⟩
  rw [isT g4]
  have G4 := Lib.hid (isT g4); clear g4
  go_wp2_with fail
  rw [rounds_succ]
  go_wp2_with fail
  refine (bolt_isSpan _ _ _ _ _).mono ?_
  rintro e w5 ⟨rfl, hb5⟩
  obtain ⟨hc5, hf5⟩ := bcell hb5
  have hz5 : w.heap.size < w5.heap.size := by have := hb5.size; (try simp at this); omega
  have HB5 : Hid (Below w.heap.size w w5) := by first | exact bthen HB4.out hb5 | exact bthen HB4.out (below_new hb5)
  clear hb5
  by_cases g5 : okS 1 100000000 s0 s1 = false
  · rw [g5]
    have G5 := Lib.hid g5; clear g5
    go_wp2_with fail
    go_ret
    exact ⟨ret_int (by simp [kErr, kOk, G5.out]), HB5.out⟩
  rw [isT g5]
  have G5 := Lib.hid (isT g5); clear g5
  go_wp2_with fail
  refine (bolt_isSpan _ _ _ _ _).mono ?_
  rintro e w6 ⟨rfl, hb6⟩
  obtain ⟨hc6, hf6⟩ := bcell hb6
  have hz6 : w.heap.size < w6.heap.size := by have := hb6.size; (try simp at this); omega
  have HB6 : Hid (Below w.heap.size w w6) := by first | exact bthen HB5.out hb6 | exact bthen HB5.out (below_new hb6)
  clear hb6
  by_cases g6 : okS 1 100000 p0 p1 = false
  · rw [g6]
    have G6 := Lib.hid g6; clear g6
    go_wp2_with fail
    go_ret
    exact ⟨ret_int (by simp [kErr, kOk, G6.out]), HB6.out⟩
  rw [isT g6]
  have G6 := Lib.hid (isT g6); clear g6
  go_wp2_with fail
  refine (bolt_isSpan _ _ _ _ _).mono ?_
  rintro e w7 ⟨rfl, hb7⟩
  obtain ⟨hc7, hf7⟩ := bcell hb7
  have hz7 : w.heap.size < w7.heap.size := by have := hb7.size; (try simp at this); omega
  have HB7 : Hid (Below w.heap.size w w7) := by first | exact bthen HB6.out hb7 | exact bthen HB6.out (below_new hb7)
  clear hb7
  by_cases g7 : okS 1 100000000 y0 y1 = false
  · rw [g7]
    have G7 := Lib.hid g7; clear g7
    go_wp2_with fail
    go_ret
    exact ⟨ret_int (by simp [kErr, kOk, G7.out]), HB7.out⟩
  rw [isT g7]
  have G7 := Lib.hid (isT g7); clear g7
  go_wp2_with fail
  go_ret
  exact ⟨ret_int (by simp [kErr, kOk, G1.out, G2.out, G3.out, G4.out, G5.out, G6.out, G7.out]), HB7.out⟩
end Go.Proofs.Ytbnbikkhnjcmdab
