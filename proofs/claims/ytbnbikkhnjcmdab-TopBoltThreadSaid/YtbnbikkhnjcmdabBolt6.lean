/- Contracts of the package bolt, on: Force. -/
import Derived.Test.YtbnbikkhnjcmdabBolt5
set_option linter.unusedVariables false
set_option linter.unusedSimpArgs false
namespace Go.Proofs.Ytbnbikkhnjcmdab
open Go.RowKit
/-- One way, as a row of ways. -/
def way7 (wk q0 q1 a0 a1 x0 x1 : Int) : Nat → Nat → Int := fun _ i => match i with | 0 => wk | 1 => q0 | 2 => q1 | 3 => a0 | 4 => a1 | 5 => x0 | _ => x1
theorem bad_way7 (wk q0 q1 a0 a1 x0 x1 : Int) : badWay (way7 wk q0 q1 a0 a1 x0 x1) 1 = !wOk wk q0 q1 a0 a1 x0 x1 := by
  have h : wOkf (way7 wk q0 q1 a0 a1 x0 x1 0) = wOk wk q0 q1 a0 a1 x0 x1 := rfl
  unfold badWay idxWay
  rw [h]
  cases wOk wk q0 q1 a0 a1 x0 x1 <;> rfl

set_option maxHeartbeats 2000000 in
theorem bolt_Force (lead thread head t0 t1 h0 h1 s0 s1 p0 p1 y0 y1 wk q0 q1 a0 a1 x0 x1 : Int) (w : World) (hk0 : kOk lead thread head t0 t1 h0 h1 s0 s1 p0 p1 y0 y1 = true) (hw0 : wOk wk q0 q1 a0 a1 x0 x1 = true) : Calls Try.prog 21 #[.agg #[.int .i64 lead, .int .i64 thread, .int .i64 head, .int .i64 t0, .int .i64 t1, .int .i64 h0, .int .i64 h1, .int .i64 s0, .int .i64 s1, .int .i64 p0, .int .i64 p1, .int .i64 y0, .int .i64 y1], .agg #[.int .i64 wk, .int .i64 q0, .int .i64 q1, .int .i64 a0, .int .i64 a1, .int .i64 x0, .int .i64 x1]] w fun e w' => e = .returned (.tuple #[.agg #[.int .i64 (fLo lead thread head t0 t1 h0 h1 s0 s1 p0 p1 y0 y1 wk q0 q1 a0 a1 x0 x1), .int .i64 (fHi lead thread head t0 t1 h0 h1 s0 s1 p0 p1 y0 y1 wk q0 q1 a0 a1 x0 x1)], .int .i64 0]) ∧ Below w.heap.size w w' := by
  have HE : Hid (oErr (kOk lead thread head t0 t1 h0 h1 s0 s1 p0 p1 y0 y1) (badWay (way7 wk q0 q1 a0 a1 x0 x1) 1) = 0) := by show _ = _; rw [bad_way7, hk0, hw0]; rfl
  have hk := Lib.hid hk0
  have hw := Lib.hid hw0
  clear hk0 hw0
  go_enter Try.func21, Try.ntmps21
  go_wp2_with fail
  refine (bolt_openN lead thread head t0 t1 h0 h1 s0 s1 p0 p1 y0 y1 (way7 wk q0 q1 a0 a1 x0 x1) _ 0 1 1 _ (by decide) (by intro j hj; obtain rfl : j = 0 := (by omega); unfold WayAt way7; simp [go_sem])).mono ?_
  rintro e w1 ⟨rfl, hb1⟩
  obtain ⟨hc1, hf1⟩ := bcell hb1
  have hz1_0 : w.heap.size < w1.heap.size := by have := hb1.size; (try simp at this); omega
  have hz1_1 : w.heap.size + 1 < w1.heap.size := by have := hb1.size; (try simp at this); omega
  have hz1_2 : w.heap.size + 2 < w1.heap.size := by have := hb1.size; (try simp at this); omega
  have HB1 : Hid (Below w.heap.size w w1) := by first | exact bthen (balloc (balloc (bnew w _) _) _) hb1 | exact bthen (balloc (balloc (balloc (bnew w _) _) _) _) hb1 | exact bthen (balloc (balloc (balloc (balloc (bnew w _) _) _) _) _) hb1
  clear hb1
  rw [HE.out]
  go_wp2_with fail
  refine (bolt_force lead thread head t0 t1 h0 h1 s0 s1 p0 p1 y0 y1 wk q0 q1 a0 a1 x0 x1 _ hk.out hw.out).mono ?_
  rintro e w2 ⟨rfl, hb2⟩
  obtain ⟨hc2, hf2⟩ := bcell hb2
  have hz2_0 : w.heap.size < w2.heap.size := by have := hb2.size; (try simp at this); omega
  have hz2_1 : w.heap.size + 1 < w2.heap.size := by have := hb2.size; (try simp at this); omega
  have hz2_2 : w.heap.size + 2 < w2.heap.size := by have := hb2.size; (try simp at this); omega
  have hz2_3 : w1.heap.size < w2.heap.size := by have := hb2.size; (try simp at this); omega
  have HB2 : Hid (Below w.heap.size w w2) := by first | exact bthen (balloc HB1.out _) hb2 | exact bthen (balloc (balloc HB1.out _) _) hb2 | exact bthen (balloc (balloc (balloc HB1.out _) _) _) hb2
  clear hb2
  go_wp2_with fail
  have r0 : w2.cell? ⟨w.heap.size + 2, 0, none⟩ = some (.int .i64 0) := by go_simp
  have r1 : w2.cell? ⟨w.heap.size + 2, 1, none⟩ = some (.int .i64 0) := by go_simp
  exact bodyPost_ret (v := .tuple #[.agg #[.int .i64 (fLo lead thread head t0 t1 h0 h1 s0 s1 p0 p1 y0 y1 wk q0 q1 a0 a1 x0 x1), .int .i64 (fHi lead thread head t0 t1 h0 h1 s0 s1 p0 p1 y0 y1 wk q0 q1 a0 a1 x0 x1)], .int .i64 0]) (by simp [results, Try.results21, go_sem, r0, r1]) rfl ⟨by simp, (bset (bset HB2.out (by omega)) (by omega))⟩
set_option maxHeartbeats 2000000 in
theorem bolt_Force_no (lead thread head t0 t1 h0 h1 s0 s1 p0 p1 y0 y1 wk q0 q1 a0 a1 x0 x1 : Int) (w : World) (hno : (kOk lead thread head t0 t1 h0 h1 s0 s1 p0 p1 y0 y1 && wOk wk q0 q1 a0 a1 x0 x1) = false) : Calls Try.prog 21 #[.agg #[.int .i64 lead, .int .i64 thread, .int .i64 head, .int .i64 t0, .int .i64 t1, .int .i64 h0, .int .i64 h1, .int .i64 s0, .int .i64 s1, .int .i64 p0, .int .i64 p1, .int .i64 y0, .int .i64 y1], .agg #[.int .i64 wk, .int .i64 q0, .int .i64 q1, .int .i64 a0, .int .i64 a1, .int .i64 x0, .int .i64 x1]] w fun e w' => e = .returned (.tuple #[.agg #[.int .i64 (0), .int .i64 (0)], .int .i64 2]) ∧ Below w.heap.size w w' := by
  have HE : Hid (oErr (kOk lead thread head t0 t1 h0 h1 s0 s1 p0 p1 y0 y1) (badWay (way7 wk q0 q1 a0 a1 x0 x1) 1) = 2) := by show _ = _; rw [bad_way7]; simp [oErr, hno]
  clear hno
  go_enter Try.func21, Try.ntmps21
  go_wp2_with fail
  refine (bolt_openN lead thread head t0 t1 h0 h1 s0 s1 p0 p1 y0 y1 (way7 wk q0 q1 a0 a1 x0 x1) _ 0 1 1 _ (by decide) (by intro j hj; obtain rfl : j = 0 := (by omega); unfold WayAt way7; simp [go_sem])).mono ?_
  rintro e w1 ⟨rfl, hb1⟩
  obtain ⟨hc1, hf1⟩ := bcell hb1
  have hz1_0 : w.heap.size < w1.heap.size := by have := hb1.size; (try simp at this); omega
  have hz1_1 : w.heap.size + 1 < w1.heap.size := by have := hb1.size; (try simp at this); omega
  have hz1_2 : w.heap.size + 2 < w1.heap.size := by have := hb1.size; (try simp at this); omega
  have HB1 : Hid (Below w.heap.size w w1) := by first | exact bthen (balloc (balloc (bnew w _) _) _) hb1 | exact bthen (balloc (balloc (balloc (bnew w _) _) _) _) hb1 | exact bthen (balloc (balloc (balloc (balloc (bnew w _) _) _) _) _) hb1
  clear hb1
  rw [HE.out]
  go_wp2_with fail
  have r0 : w1.cell? ⟨w.heap.size + 2, 0, none⟩ = some (.int .i64 0) := by go_simp
  have r1 : w1.cell? ⟨w.heap.size + 2, 1, none⟩ = some (.int .i64 0) := by go_simp
  exact bodyPost_ret (v := .tuple #[.agg #[.int .i64 (0), .int .i64 (0)], .int .i64 2]) (by simp [results, Try.results21, go_sem, r0, r1, hz1_2, World.cell?_alloc_past]) rfl ⟨by simp, balloc (bset (bset HB1.out (by omega)) (by omega)) _⟩

end Go.Proofs.Ytbnbikkhnjcmdab
