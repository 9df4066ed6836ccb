/- Contracts of the package bolt, on: quotients, arms, forces. -/
import Derived.Test.YtbnbikkhnjcmdabBolt
import Derived.Test.YtbnbikkhnjcmdabW3
import Derived.Deep.RegionHeld3
namespace Go.Proofs.Ytbnbikkhnjcmdab
open Go.RowKit




/-- An arm, between its bounds. -/
def arm (lead thread head t h : Int) : Int := 1000 * lead + (thread * t + head * h)
theorem arm_in {lead thread head t h : Int} (l1 : 1 ≤ lead) (l2 : lead ≤ 100000) (b1 : 0 ≤ thread) (b2 : thread ≤ 100000) (d1 : 0 ≤ head) (d2 : head ≤ 100000) (t1 : 0 ≤ t) (t2 : t ≤ 1000) (h1 : 0 ≤ h) (h2 : h ≤ 1000) :
    1000 ≤ arm lead thread head t h ∧ arm lead thread head t h ≤ 300000000 := by
  have := mul_in b1 b2 t1 t2
  have := mul_in d1 d2 h1 h2
  unfold arm; omega

theorem bolt_down (n m : Int) (w : World) (h0 : 1 ≤ m) (h1 : -9223372036854775800 ≤ n) (h2 : n ≤ 9223372036854775800) (h3 : m ≤ 9223372036854775807) : Calls Try.prog 211 #[.int .i64 n, .int .i64 m] w fun e w' => e = .returned (.int .i64 (n / m)) ∧ w = w' := by
  have hq := tdiv_in h0 (by omega) h1 h2
  obtain ⟨hq1, hq2⟩ := hq
  by_cases hr : n.tmod m < 0
  · have hfin := Lib.hid (down_neg h0 hr)
    go_enter Try.func211, Try.ntmps211
    go_wp2
    go_ret
    exact ⟨ret_int hfin.out, rfl⟩
  · have hfin := Lib.hid (down_pos h0 hr)
    go_enter Try.func211, Try.ntmps211
    go_wp2
    go_ret
    exact ⟨ret_int hfin.out, rfl⟩
theorem bolt_up (n m : Int) (w : World) (h0 : 1 ≤ m) (h1 : -9223372036854775800 ≤ n) (h2 : n ≤ 9223372036854775800) (h3 : m ≤ 9223372036854775807) : Calls Try.prog 134 #[.int .i64 n, .int .i64 m] w fun e w' => e = .returned (.int .i64 (-((-n) / m))) ∧ w = w' := by
  have hq : -9223372036854775800 ≤ (-n) / m ∧ (-n) / m ≤ 9223372036854775800 := by
    refine ⟨Int.le_ediv_of_mul_le (by omega) ?_, ?_⟩
    · have := Int.mul_le_mul_of_nonneg_left (show 1 ≤ m from h0) (show (0 : Int) ≤ 9223372036854775800 by omega)
      omega
    · by_cases hn : 0 ≤ -n
      · have := IntWalk.tdiv_le (-n) m hn h0; omega
      · have := Int.ediv_neg_of_neg_of_pos (show -n < 0 by omega) (show 0 < m by omega); omega
  obtain ⟨hq1, hq2⟩ := hq
  go_enter Try.func134, Try.ntmps134
  go_wp2_with (go_at_call 211; refine (bolt_down _ _ _ h0 (by omega) (by omega) h3).mono ?_; rintro e w' ⟨rfl, rfl⟩)
  go_ret
  exact ⟨rfl, rfl⟩
theorem bolt_low (a b : Int) (w : World) : Calls Try.prog 149 #[.agg #[.int .i64 a, .int .i64 b]] w fun e w' => e = .returned (.int .i64 a) ∧ Below w.heap.size w w' := by
  go_enter Try.func149, Try.ntmps149
  go_wp2
  go_ret
  exact ⟨rfl, bnew w _⟩
theorem bolt_high (a b : Int) (w : World) : Calls Try.prog 150 #[.agg #[.int .i64 a, .int .i64 b]] w fun e w' => e = .returned (.int .i64 b) ∧ Below w.heap.size w w' := by
  go_enter Try.func150, Try.ntmps150
  go_wp2
  go_ret
  exact ⟨rfl, bnew w _⟩

theorem bolt_friction (lead thread head t0 t1 h0 h1 s0 s1 p0 p1 y0 y1 t h : Int) (w : World) (l1 : 0 ≤ thread * t) (l2 : thread * t ≤ 100000000) (l3 : 0 ≤ head * h) (l4 : head * h ≤ 100000000) : Calls Try.prog 265 #[.agg #[.int .i64 lead, .int .i64 thread, .int .i64 head, .int .i64 t0, .int .i64 t1, .int .i64 h0, .int .i64 h1, .int .i64 s0, .int .i64 s1, .int .i64 p0, .int .i64 p1, .int .i64 y0, .int .i64 y1], .int .i64 t, .int .i64 h] w fun e w' => e = .returned (.int .i64 (thread * t + head * h)) ∧ Below w.heap.size w w' := by
  go_enter Try.func265, Try.ntmps265
  go_wp2
  go_ret
  exact ⟨rfl, bnew w _⟩
theorem bolt_lead (lead thread head t0 t1 h0 h1 s0 s1 p0 p1 y0 y1 : Int) (w : World) (l1 : 1 ≤ lead) (l2 : lead ≤ 100000) : Calls Try.prog 210 #[.agg #[.int .i64 lead, .int .i64 thread, .int .i64 head, .int .i64 t0, .int .i64 t1, .int .i64 h0, .int .i64 h1, .int .i64 s0, .int .i64 s1, .int .i64 p0, .int .i64 p1, .int .i64 y0, .int .i64 y1]] w fun e w' => e = .returned (.int .i64 (1000 * lead)) ∧ Below w.heap.size w w' := by
  go_enter Try.func210, Try.ntmps210
  go_wp2
  go_ret
  exact ⟨rfl, bnew w _⟩
set_option maxHeartbeats 1000000 in
theorem bolt_frictions (lead thread head t0 t1 h0 h1 s0 s1 p0 p1 y0 y1 : Int) (w : World) (l1 : 0 ≤ thread * t0) (l2 : thread * t0 ≤ 100000000) (l3 : 0 ≤ head * h0) (l4 : head * h0 ≤ 100000000) (m1 : 0 ≤ thread * t1) (m2 : thread * t1 ≤ 100000000) (m3 : 0 ≤ head * h1) (m4 : head * h1 ≤ 100000000) :
    Calls Try.prog 209 #[.agg #[.int .i64 lead, .int .i64 thread, .int .i64 head, .int .i64 t0, .int .i64 t1, .int .i64 h0, .int .i64 h1, .int .i64 s0, .int .i64 s1, .int .i64 p0, .int .i64 p1, .int .i64 y0, .int .i64 y1]] w fun e w' => e = .returned (.agg #[.int .i64 (thread * t0 + head * h0), .int .i64 (thread * t1 + head * h1)]) ∧ Below w.heap.size w w' := by
  go_enter Try.func209, Try.ntmps209
  go_wp2_with fail
  go_region_held3 (fun w' => w'.cell? ⟨w.heap.size, 0, none⟩ = some (.int .i64 lead) ∧ w'.cell? ⟨w.heap.size, 1, none⟩ = some (.int .i64 thread) ∧ w'.cell? ⟨w.heap.size, 2, none⟩ = some (.int .i64 head) ∧ w'.cell? ⟨w.heap.size, 3, none⟩ = some (.int .i64 t0) ∧ w'.cell? ⟨w.heap.size, 4, none⟩ = some (.int .i64 t1) ∧ w'.cell? ⟨w.heap.size, 5, none⟩ = some (.int .i64 h0) ∧ w'.cell? ⟨w.heap.size, 6, none⟩ = some (.int .i64 h1) ∧ w'.cell? ⟨w.heap.size, 7, none⟩ = some (.int .i64 s0) ∧ w'.cell? ⟨w.heap.size, 8, none⟩ = some (.int .i64 s1) ∧ w'.cell? ⟨w.heap.size, 9, none⟩ = some (.int .i64 p0) ∧ w'.cell? ⟨w.heap.size, 10, none⟩ = some (.int .i64 p1) ∧ w'.cell? ⟨w.heap.size, 11, none⟩ = some (.int .i64 y0) ∧ w'.cell? ⟨w.heap.size, 12, none⟩ = some (.int .i64 y1) ∧ Below w.heap.size w w') (first | ((refine ⟨?_, ?_, ?_, ?_, ?_, ?_, ?_, ?_, ?_, ?_, ?_, ?_, ?_, ?_⟩ <;> first | (exact Below.drew (balloc (bnew w _) _)) | (go_simp; done)); done) | ((refine ⟨?_, ?_, ?_, ?_, ?_, ?_, ?_, ?_, ?_, ?_, ?_, ?_, ?_, ?_⟩ <;> first | (refine ckeep ?_ hb; go_simp; done) | (exact bthen (Below.drew (balloc (bnew w _) _)) hb)); done) | (obtain ⟨c0, c1, c2, c3, c4, c5, c6, c7, c8, c9, c10, c11, c12, cb⟩ := ‹_ ∧ _ ∧ _ ∧ _ ∧ _ ∧ _ ∧ _ ∧ _ ∧ _ ∧ _ ∧ _ ∧ _ ∧ _ ∧ Below w.heap.size w _›; exact ⟨ckeep c0 hb, ckeep c1 hb, ckeep c2 hb, ckeep c3 hb, ckeep c4 hb, ckeep c5 hb, ckeep c6 hb, ckeep c7 hb, ckeep c8 hb, ckeep c9 hb, ckeep c10 hb, ckeep c11 hb, ckeep c12 hb, bthen cb hb⟩) | (obtain ⟨c0, c1, c2, c3, c4, c5, c6, c7, c8, c9, c10, c11, c12, cb⟩ := ‹_ ∧ _ ∧ _ ∧ _ ∧ _ ∧ _ ∧ _ ∧ _ ∧ _ ∧ _ ∧ _ ∧ _ ∧ _ ∧ Below w.heap.size w _›; exact ⟨cset (cset (c0) (by omega)) (by omega), cset (cset (c1) (by omega)) (by omega), cset (cset (c2) (by omega)) (by omega), cset (cset (c3) (by omega)) (by omega), cset (cset (c4) (by omega)) (by omega), cset (cset (c5) (by omega)) (by omega), cset (cset (c6) (by omega)) (by omega), cset (cset (c7) (by omega)) (by omega), cset (cset (c8) (by omega)) (by omega), cset (cset (c9) (by omega)) (by omega), cset (cset (c10) (by omega)) (by omega), cset (cset (c11) (by omega)) (by omega), cset (cset (c12) (by omega)) (by omega), bset (bset (cb) (by omega)) (by omega)⟩) | (trace_state; fail)) (first | (go_at_call 265; refine (bolt_friction lead thread head t0 t1 h0 h1 s0 s1 p0 p1 y0 y1 _ _ _ (by omega) (by omega) (by omega) (by omega)).mono ?_; rintro e w' ⟨rfl, hb⟩; have r0 : w'.cell? ⟨w.heap.size + 1, 0, none⟩ = some (.int .i64 0) := (by first | (refine ckeep ?_ hb; assumption) | (refine ckeep ?_ hb; go_simp; done)); have f0 : w'.frozen? ⟨w.heap.size + 1, 0, none⟩ = false := (by first | (refine fkeep (v := .int .i64 0) ?_ ?_ hb <;> assumption) | (refine fkeep (v := .int .i64 0) ?_ ?_ hb <;> go_simp)); have r1 : w'.cell? ⟨w.heap.size + 1, 1, none⟩ = some (.int .i64 0) := (by first | (refine ckeep ?_ hb; assumption) | (refine ckeep ?_ hb; go_simp; done)); have f1 : w'.frozen? ⟨w.heap.size + 1, 1, none⟩ = false := (by first | (refine fkeep (v := .int .i64 0) ?_ ?_ hb <;> assumption) | (refine fkeep (v := .int .i64 0) ?_ ?_ hb <;> go_simp))))
  go_wp2_with fail
  obtain ⟨_, _, _, _, _, _, _, _, _, _, _, _, _, cb⟩ := ‹_ ∧ _ ∧ _ ∧ _ ∧ _ ∧ _ ∧ _ ∧ _ ∧ _ ∧ _ ∧ _ ∧ _ ∧ _ ∧ Below w.heap.size w _›
  exact bodyPost_ret (v := .agg #[.int .i64 (thread * t0 + head * h0), .int .i64 (thread * t1 + head * h1)]) (by simp [results, Try.results209, go_sem, r0, r1]) rfl ⟨rfl, cb⟩
set_option maxHeartbeats 2000000 in
theorem bolt_arms (lead thread head t0 t1 h0 h1 s0 s1 p0 p1 y0 y1 : Int) (w : World) (ld1 : 1 ≤ lead) (ld2 : lead ≤ 100000) (l1 : 0 ≤ thread * t0) (l2 : thread * t0 ≤ 100000000) (l3 : 0 ≤ head * h0) (l4 : head * h0 ≤ 100000000) (m1 : 0 ≤ thread * t1) (m2 : thread * t1 ≤ 100000000) (m3 : 0 ≤ head * h1) (m4 : head * h1 ≤ 100000000) :
    Calls Try.prog 133 #[.agg #[.int .i64 lead, .int .i64 thread, .int .i64 head, .int .i64 t0, .int .i64 t1, .int .i64 h0, .int .i64 h1, .int .i64 s0, .int .i64 s1, .int .i64 p0, .int .i64 p1, .int .i64 y0, .int .i64 y1]] w fun e w' => e = .returned (.agg #[.int .i64 (arm lead thread head t0 h0), .int .i64 (arm lead thread head t1 h1)]) ∧ Below w.heap.size w w' := by
  go_enter Try.func133, Try.ntmps133
  go_wp2_with fail
  refine (bolt_frictions lead thread head t0 t1 h0 h1 s0 s1 p0 p1 y0 y1 _ l1 l2 l3 l4 m1 m2 m3 m4).mono ?_
  rintro e w1 ⟨rfl, hb1⟩
  obtain ⟨hc1, hf1⟩ := bcell hb1
  have hz1 : w.heap.size + 1 < w1.heap.size := by have := hb1.size; simp at this; omega
  have hz0 : w.heap.size < w1.heap.size := by omega
  have HB1 : Hid (Below w.heap.size w w1) := bthen (balloc (bnew w _) _) hb1
  clear hb1
  go_wp2_with fail
  go_region_held3 (fun w' => w'.cell? ⟨w.heap.size, 0, none⟩ = some (.int .i64 lead) ∧ w'.cell? ⟨w.heap.size, 1, none⟩ = some (.int .i64 thread) ∧ w'.cell? ⟨w.heap.size, 2, none⟩ = some (.int .i64 head) ∧ w'.cell? ⟨w.heap.size, 3, none⟩ = some (.int .i64 t0) ∧ w'.cell? ⟨w.heap.size, 4, none⟩ = some (.int .i64 t1) ∧ w'.cell? ⟨w.heap.size, 5, none⟩ = some (.int .i64 h0) ∧ w'.cell? ⟨w.heap.size, 6, none⟩ = some (.int .i64 h1) ∧ w'.cell? ⟨w.heap.size, 7, none⟩ = some (.int .i64 s0) ∧ w'.cell? ⟨w.heap.size, 8, none⟩ = some (.int .i64 s1) ∧ w'.cell? ⟨w.heap.size, 9, none⟩ = some (.int .i64 p0) ∧ w'.cell? ⟨w.heap.size, 10, none⟩ = some (.int .i64 p1) ∧ w'.cell? ⟨w.heap.size, 11, none⟩ = some (.int .i64 y0) ∧ w'.cell? ⟨w.heap.size, 12, none⟩ = some (.int .i64 y1) ∧ w'.cell? ⟨w1.heap.size, 0, none⟩ = some (.int .i64 (thread * t0 + head * h0)) ∧ w'.cell? ⟨w1.heap.size, 1, none⟩ = some (.int .i64 (thread * t1 + head * h1)) ∧ Below w.heap.size w w') (first | ((refine ⟨?_, ?_, ?_, ?_, ?_, ?_, ?_, ?_, ?_, ?_, ?_, ?_, ?_, ?_, ?_, ?_⟩ <;> first | (exact Below.drew (balloc HB1.out _)) | (go_simp; done)); done) | ((refine ⟨?_, ?_, ?_, ?_, ?_, ?_, ?_, ?_, ?_, ?_, ?_, ?_, ?_, ?_, ?_, ?_⟩ <;> first | (refine ckeep ?_ hb; go_simp; done) | (exact bthen (Below.drew (balloc HB1.out _)) hb)); done) | (obtain ⟨c0, c1, c2, c3, c4, c5, c6, c7, c8, c9, c10, c11, c12, c13, c14, cb⟩ := ‹_ ∧ _ ∧ _ ∧ _ ∧ _ ∧ _ ∧ _ ∧ _ ∧ _ ∧ _ ∧ _ ∧ _ ∧ _ ∧ _ ∧ _ ∧ Below w.heap.size w _›; exact ⟨ckeep c0 hb, ckeep c1 hb, ckeep c2 hb, ckeep c3 hb, ckeep c4 hb, ckeep c5 hb, ckeep c6 hb, ckeep c7 hb, ckeep c8 hb, ckeep c9 hb, ckeep c10 hb, ckeep c11 hb, ckeep c12 hb, ckeep c13 hb, ckeep c14 hb, bthen cb hb⟩) | (obtain ⟨c0, c1, c2, c3, c4, c5, c6, c7, c8, c9, c10, c11, c12, c13, c14, cb⟩ := ‹_ ∧ _ ∧ _ ∧ _ ∧ _ ∧ _ ∧ _ ∧ _ ∧ _ ∧ _ ∧ _ ∧ _ ∧ _ ∧ _ ∧ _ ∧ Below w.heap.size w _›; exact ⟨cset (cset (c0) (by omega)) (by omega), cset (cset (c1) (by omega)) (by omega), cset (cset (c2) (by omega)) (by omega), cset (cset (c3) (by omega)) (by omega), cset (cset (c4) (by omega)) (by omega), cset (cset (c5) (by omega)) (by omega), cset (cset (c6) (by omega)) (by omega), cset (cset (c7) (by omega)) (by omega), cset (cset (c8) (by omega)) (by omega), cset (cset (c9) (by omega)) (by omega), cset (cset (c10) (by omega)) (by omega), cset (cset (c11) (by omega)) (by omega), cset (cset (c12) (by omega)) (by omega), cset (cset (c13) (by omega)) (by omega), cset (cset (c14) (by omega)) (by omega), bset (bset (cb) (by omega)) (by omega)⟩) | (trace_state; fail)) (first | (go_at_call 210; refine (bolt_lead lead thread head t0 t1 h0 h1 s0 s1 p0 p1 y0 y1 _ ld1 ld2).mono ?_; rintro e w' ⟨rfl, hb⟩; have r0 : w'.cell? ⟨w.heap.size + 1, 0, none⟩ = some (.int .i64 0) := (by first | (refine ckeep ?_ hb; assumption) | (refine ckeep ?_ hb; go_simp; done)); have f0 : w'.frozen? ⟨w.heap.size + 1, 0, none⟩ = false := (by first | (refine fkeep (v := .int .i64 0) ?_ ?_ hb <;> assumption) | (refine fkeep (v := .int .i64 0) ?_ ?_ hb <;> go_simp)); have r1 : w'.cell? ⟨w.heap.size + 1, 1, none⟩ = some (.int .i64 0) := (by first | (refine ckeep ?_ hb; assumption) | (refine ckeep ?_ hb; go_simp; done)); have f1 : w'.frozen? ⟨w.heap.size + 1, 1, none⟩ = false := (by first | (refine fkeep (v := .int .i64 0) ?_ ?_ hb <;> assumption) | (refine fkeep (v := .int .i64 0) ?_ ?_ hb <;> go_simp))))
  go_wp2_with fail
  obtain ⟨_, _, _, _, _, _, _, _, _, _, _, _, _, _, _, cb⟩ := ‹_ ∧ _ ∧ _ ∧ _ ∧ _ ∧ _ ∧ _ ∧ _ ∧ _ ∧ _ ∧ _ ∧ _ ∧ _ ∧ _ ∧ _ ∧ Below w.heap.size w _›
  have s0 := IntWalk.i64_in (1000 * lead + (thread * t0 + head * h0)) (by omega)
  have s1 := IntWalk.i64_in (1000 * lead + (thread * t1 + head * h1)) (by omega)
  exact bodyPost_ret (v := .agg #[.int .i64 (arm lead thread head t0 h0), .int .i64 (arm lead thread head t1 h1)]) (by simp [results, Try.results133, go_sem, r0, r1, arm, s0, s1]) rfl ⟨rfl, cb⟩
end Go.Proofs.Ytbnbikkhnjcmdab
