/- Contracts of the package bolt, on: what opens a kind; Force. -/
import Derived.Test.YtbnbikkhnjcmdabBolt4
import Derived.Test.YtbnbikkhnjcmdabW4
set_option linter.unusedVariables false
set_option linter.unusedSimpArgs false
namespace Go.Proofs.Ytbnbikkhnjcmdab
open Go.RowKit
theorem ret_pair2 {a b : Int} {v : Value} (h : a = b) : Ending.returned (.tuple #[v, .int .i64 a]) = .returned (.tuple #[v, .int .i64 b]) := by rw [h]
def badWay (f : Nat → Nat → Int) (n : Nat) : Bool := decide (0 ≤ idxWay f 0 n)

theorem bolt_containsway (f : Nat → Nat → Int) (b off n c : Nat) (w : World) (hm : n ≤ 9223372036854775807) (hc : ∀ j, j < n → WayAt w b (off + j * 7) (f j)) :
    Calls Try.prog 145 #[.slice (some ⟨b, off, none⟩) n c, .func (.func 146) #[] #[]] w fun e w' => e = .returned (.bool (badWay f n)) ∧ Below w.heap.size w w' := by
  have hC := Lib.hid (bolt_idxway f b off n c w hm hc)
  clear hc
  by_cases h0 : 0 ≤ idxWay f 0 n
  · have HX : Hid (badWay f n = true) := by show _ = _; unfold badWay; exact decide_eq_true h0
    go_enter Try.func145, Try.ntmps145
    go_wp2_with (go_at_call 220; refine hC.out.mono ?_; rintro e w' ⟨rfl, hb⟩)
    go_ret
    exact ⟨ret_bool HX.out.symm, hb⟩
  · have HX : Hid (badWay f n = false) := by show _ = _; unfold badWay; exact decide_eq_false h0
    go_enter Try.func145, Try.ntmps145
    go_wp2_with (go_at_call 220; refine hC.out.mono ?_; rintro e w' ⟨rfl, hb⟩)
    go_ret
    exact ⟨ret_bool rfl, hb⟩
theorem bolt_idxnil (A : Option Addr) (c : Nat) (w : World) :
    Calls Try.prog 220 #[.slice A 0 c, .func (.func 146) #[] #[]] w fun e w' => e = .returned (.int .i64 (-1)) ∧ w = w' := by
  go_enter Try.func220, Try.ntmps220
  go_wp2
  go_loop [8] (fun i => i = .int .i64 0) (fun i => 0)
  case atStart => rfl
  case round =>
    subst hrel
    go_wp2
    go_ret
    exact ⟨rfl, rfl⟩
theorem bolt_containsnil (A : Option Addr) (c : Nat) (w : World) :
    Calls Try.prog 145 #[.slice A 0 c, .func (.func 146) #[] #[]] w fun e w' => e = .returned (.bool false) ∧ w = w' := by
  go_enter Try.func145, Try.ntmps145
  go_wp2_with (go_at_call 220; refine (bolt_idxnil A c w).mono ?_; rintro e w' ⟨rfl, rfl⟩)
  go_ret
  exact ⟨rfl, rfl⟩
/-- The error of a kind, and of ways. -/
def oErr (k : Bool) (bad : Bool) : Int := if k && !bad then 0 else 2

set_option maxHeartbeats 2000000 in
theorem bolt_open0 (lead thread head t0 t1 h0 h1 s0 s1 p0 p1 y0 y1 : Int) (A : Option Addr) (c : Nat) (w : World) : Calls Try.prog 73 #[.agg #[.int .i64 lead, .int .i64 thread, .int .i64 head, .int .i64 t0, .int .i64 t1, .int .i64 h0, .int .i64 h1, .int .i64 s0, .int .i64 s1, .int .i64 p0, .int .i64 p1, .int .i64 y0, .int .i64 y1], .slice A 0 c] w fun e w' => e = .returned (.tuple #[.agg #[.int .i64 lead, .int .i64 thread, .int .i64 head, .int .i64 t0, .int .i64 t1, .int .i64 h0, .int .i64 h1, .int .i64 s0, .int .i64 s1, .int .i64 p0, .int .i64 p1, .int .i64 y0, .int .i64 y1], .int .i64 (oErr (kOk lead thread head t0 t1 h0 h1 s0 s1 p0 p1 y0 y1) false)]) ∧ Below w.heap.size w w' := by
  go_enter Try.func73, Try.ntmps73
  go_wp2_with fail
  refine (bolt_Check lead thread head t0 t1 h0 h1 s0 s1 p0 p1 y0 y1 _).mono ?_
  rintro e w1 ⟨rfl, hb1⟩
  obtain ⟨hc1, hf1⟩ := bcell hb1
  have hz1_0 : w.heap.size < w1.heap.size := by have := hb1.size; (try simp at this); omega
  have hz1_1 : w.heap.size + 1 < w1.heap.size := by have := hb1.size; (try simp at this); omega
  have HB1 : Hid (Below w.heap.size w w1) := by first | exact bthen (balloc (bnew w _) _) hb1 | exact bthen (balloc (balloc (bnew w _) _) _) hb1 | exact bthen (balloc (balloc (balloc (bnew w _) _) _) _) hb1
  clear hb1
  by_cases g1 : kOk lead thread head t0 t1 h0 h1 s0 s1 p0 p1 y0 y1 = true
  rotate_left
  · have G1 : Hid (kErr lead thread head t0 t1 h0 h1 s0 s1 p0 p1 y0 y1 = 2) := by show _ = _; simp [kErr, g1]
    have G2 : Hid (oErr (kOk lead thread head t0 t1 h0 h1 s0 s1 p0 p1 y0 y1) false = 2) := by show _ = _; simp [oErr, g1]
    clear g1
    rw [G1.out]
    go_wp2_with fail
    have r0 : w1.cell? ⟨w.heap.size + 1, 0, none⟩ = some (.int .i64 0) := by go_simp
    have r1 : w1.cell? ⟨w.heap.size + 1, 1, none⟩ = some (.int .i64 0) := by go_simp
    have r2 : w1.cell? ⟨w.heap.size + 1, 2, none⟩ = some (.int .i64 0) := by go_simp
    have r3 : w1.cell? ⟨w.heap.size + 1, 3, none⟩ = some (.int .i64 0) := by go_simp
    have r4 : w1.cell? ⟨w.heap.size + 1, 4, none⟩ = some (.int .i64 0) := by go_simp
    have r5 : w1.cell? ⟨w.heap.size + 1, 5, none⟩ = some (.int .i64 0) := by go_simp
    have r6 : w1.cell? ⟨w.heap.size + 1, 6, none⟩ = some (.int .i64 0) := by go_simp
    have r7 : w1.cell? ⟨w.heap.size + 1, 7, none⟩ = some (.int .i64 0) := by go_simp
    have r8 : w1.cell? ⟨w.heap.size + 1, 8, none⟩ = some (.int .i64 0) := by go_simp
    have r9 : w1.cell? ⟨w.heap.size + 1, 9, none⟩ = some (.int .i64 0) := by go_simp
    have r10 : w1.cell? ⟨w.heap.size + 1, 10, none⟩ = some (.int .i64 0) := by go_simp
    have r11 : w1.cell? ⟨w.heap.size + 1, 11, none⟩ = some (.int .i64 0) := by go_simp
    have r12 : w1.cell? ⟨w.heap.size + 1, 12, none⟩ = some (.int .i64 0) := by go_simp
    exact bodyPost_ret (v := .tuple #[.agg #[.int .i64 lead, .int .i64 thread, .int .i64 head, .int .i64 t0, .int .i64 t1, .int .i64 h0, .int .i64 h1, .int .i64 s0, .int .i64 s1, .int .i64 p0, .int .i64 p1, .int .i64 y0, .int .i64 y1], .int .i64 (2)]) (by simp [results, Try.results73, go_sem, r0, r1, r2, r3, r4, r5, r6, r7, r8, r9, r10, r11, r12]) rfl ⟨ret_pair2 G2.out.symm, (bset (bset (bset (bset (bset (bset (bset (bset (bset (bset (bset (bset (bset HB1.out (by omega)) (by omega)) (by omega)) (by omega)) (by omega)) (by omega)) (by omega)) (by omega)) (by omega)) (by omega)) (by omega)) (by omega)) (by omega))⟩
  have G1 : Hid (kErr lead thread head t0 t1 h0 h1 s0 s1 p0 p1 y0 y1 = 0) := by show _ = _; simp [kErr, g1]
  have G2 : Hid (oErr (kOk lead thread head t0 t1 h0 h1 s0 s1 p0 p1 y0 y1) false = 0) := by show _ = _; simp [oErr, g1]
  clear g1
  rw [G1.out]
  go_wp2_with fail
  refine (bolt_containsnil A c _).mono ?_
  rintro e w' ⟨rfl, rfl⟩
  go_wp2_with fail
  have r0 : w1.cell? ⟨w.heap.size + 1, 0, none⟩ = some (.int .i64 0) := by go_simp
  have r1 : w1.cell? ⟨w.heap.size + 1, 1, none⟩ = some (.int .i64 0) := by go_simp
  have r2 : w1.cell? ⟨w.heap.size + 1, 2, none⟩ = some (.int .i64 0) := by go_simp
  have r3 : w1.cell? ⟨w.heap.size + 1, 3, none⟩ = some (.int .i64 0) := by go_simp
  have r4 : w1.cell? ⟨w.heap.size + 1, 4, none⟩ = some (.int .i64 0) := by go_simp
  have r5 : w1.cell? ⟨w.heap.size + 1, 5, none⟩ = some (.int .i64 0) := by go_simp
  have r6 : w1.cell? ⟨w.heap.size + 1, 6, none⟩ = some (.int .i64 0) := by go_simp
  have r7 : w1.cell? ⟨w.heap.size + 1, 7, none⟩ = some (.int .i64 0) := by go_simp
  have r8 : w1.cell? ⟨w.heap.size + 1, 8, none⟩ = some (.int .i64 0) := by go_simp
  have r9 : w1.cell? ⟨w.heap.size + 1, 9, none⟩ = some (.int .i64 0) := by go_simp
  have r10 : w1.cell? ⟨w.heap.size + 1, 10, none⟩ = some (.int .i64 0) := by go_simp
  have r11 : w1.cell? ⟨w.heap.size + 1, 11, none⟩ = some (.int .i64 0) := by go_simp
  have r12 : w1.cell? ⟨w.heap.size + 1, 12, none⟩ = some (.int .i64 0) := by go_simp
  exact bodyPost_ret (v := .tuple #[.agg #[.int .i64 lead, .int .i64 thread, .int .i64 head, .int .i64 t0, .int .i64 t1, .int .i64 h0, .int .i64 h1, .int .i64 s0, .int .i64 s1, .int .i64 p0, .int .i64 p1, .int .i64 y0, .int .i64 y1], .int .i64 (0)]) (by simp [results, Try.results73, go_sem, r0, r1, r2, r3, r4, r5, r6, r7, r8, r9, r10, r11, r12]) rfl ⟨ret_pair2 G2.out.symm, (bset (bset (bset (bset (bset (bset (bset (bset (bset (bset (bset (bset (bset HB1.out (by omega)) (by omega)) (by omega)) (by omega)) (by omega)) (by omega)) (by omega)) (by omega)) (by omega)) (by omega)) (by omega)) (by omega)) (by omega))⟩
set_option maxHeartbeats 2000000 in
theorem bolt_openN (lead thread head t0 t1 h0 h1 s0 s1 p0 p1 y0 y1 : Int) (f : Nat → Nat → Int) (b off n c : Nat) (w : World) (hm : n ≤ 9223372036854775807) (hc : ∀ j, j < n → WayAt w b (off + j * 7) (f j)) : Calls Try.prog 73 #[.agg #[.int .i64 lead, .int .i64 thread, .int .i64 head, .int .i64 t0, .int .i64 t1, .int .i64 h0, .int .i64 h1, .int .i64 s0, .int .i64 s1, .int .i64 p0, .int .i64 p1, .int .i64 y0, .int .i64 y1], .slice (some ⟨b, off, none⟩) n c] w fun e w' => e = .returned (.tuple #[.agg #[.int .i64 lead, .int .i64 thread, .int .i64 head, .int .i64 t0, .int .i64 t1, .int .i64 h0, .int .i64 h1, .int .i64 s0, .int .i64 s1, .int .i64 p0, .int .i64 p1, .int .i64 y0, .int .i64 y1], .int .i64 (oErr (kOk lead thread head t0 t1 h0 h1 s0 s1 p0 p1 y0 y1) (badWay f n))]) ∧ Below w.heap.size w w' := by
  have HC := Lib.hid hc
  clear hc
  go_enter Try.func73, Try.ntmps73
  go_wp2_with fail
  refine (bolt_Check lead thread head t0 t1 h0 h1 s0 s1 p0 p1 y0 y1 _).mono ?_
  rintro e w1 ⟨rfl, hb1⟩
  obtain ⟨hc1, hf1⟩ := bcell hb1
  have hz1_0 : w.heap.size < w1.heap.size := by have := hb1.size; (try simp at this); omega
  have hz1_1 : w.heap.size + 1 < w1.heap.size := by have := hb1.size; (try simp at this); omega
  have HB1 : Hid (Below w.heap.size w w1) := by first | exact bthen (balloc (bnew w _) _) hb1 | exact bthen (balloc (balloc (bnew w _) _) _) hb1 | exact bthen (balloc (balloc (balloc (bnew w _) _) _) _) hb1
  clear hb1
  by_cases g1 : kOk lead thread head t0 t1 h0 h1 s0 s1 p0 p1 y0 y1 = true
  rotate_left
  · have G1 : Hid (kErr lead thread head t0 t1 h0 h1 s0 s1 p0 p1 y0 y1 = 2) := by show _ = _; simp [kErr, g1]
    have G2 : Hid (oErr (kOk lead thread head t0 t1 h0 h1 s0 s1 p0 p1 y0 y1) (badWay f n) = 2) := by show _ = _; simp [oErr, g1]
    clear g1
    rw [G1.out]
    go_wp2_with fail
    have r0 : w1.cell? ⟨w.heap.size + 1, 0, none⟩ = some (.int .i64 0) := by go_simp
    have r1 : w1.cell? ⟨w.heap.size + 1, 1, none⟩ = some (.int .i64 0) := by go_simp
    have r2 : w1.cell? ⟨w.heap.size + 1, 2, none⟩ = some (.int .i64 0) := by go_simp
    have r3 : w1.cell? ⟨w.heap.size + 1, 3, none⟩ = some (.int .i64 0) := by go_simp
    have r4 : w1.cell? ⟨w.heap.size + 1, 4, none⟩ = some (.int .i64 0) := by go_simp
    have r5 : w1.cell? ⟨w.heap.size + 1, 5, none⟩ = some (.int .i64 0) := by go_simp
    have r6 : w1.cell? ⟨w.heap.size + 1, 6, none⟩ = some (.int .i64 0) := by go_simp
    have r7 : w1.cell? ⟨w.heap.size + 1, 7, none⟩ = some (.int .i64 0) := by go_simp
    have r8 : w1.cell? ⟨w.heap.size + 1, 8, none⟩ = some (.int .i64 0) := by go_simp
    have r9 : w1.cell? ⟨w.heap.size + 1, 9, none⟩ = some (.int .i64 0) := by go_simp
    have r10 : w1.cell? ⟨w.heap.size + 1, 10, none⟩ = some (.int .i64 0) := by go_simp
    have r11 : w1.cell? ⟨w.heap.size + 1, 11, none⟩ = some (.int .i64 0) := by go_simp
    have r12 : w1.cell? ⟨w.heap.size + 1, 12, none⟩ = some (.int .i64 0) := by go_simp
    exact bodyPost_ret (v := .tuple #[.agg #[.int .i64 lead, .int .i64 thread, .int .i64 head, .int .i64 t0, .int .i64 t1, .int .i64 h0, .int .i64 h1, .int .i64 s0, .int .i64 s1, .int .i64 p0, .int .i64 p1, .int .i64 y0, .int .i64 y1], .int .i64 (2)]) (by simp [results, Try.results73, go_sem, r0, r1, r2, r3, r4, r5, r6, r7, r8, r9, r10, r11, r12]) rfl ⟨ret_pair2 G2.out.symm, (bset (bset (bset (bset (bset (bset (bset (bset (bset (bset (bset (bset (bset HB1.out (by omega)) (by omega)) (by omega)) (by omega)) (by omega)) (by omega)) (by omega)) (by omega)) (by omega)) (by omega)) (by omega)) (by omega)) (by omega))⟩
  have G1 : Hid (kErr lead thread head t0 t1 h0 h1 s0 s1 p0 p1 y0 y1 = 0) := by show _ = _; simp [kErr, g1]
  have g2 : kOk lead thread head t0 t1 h0 h1 s0 s1 p0 p1 y0 y1 = true := g1
  clear g1
  rw [G1.out]
  go_wp2_with fail
  refine (bolt_containsway f b off n c _ hm (fun j hj => (HC.out j hj).below HB1.out)).mono ?_
  rintro e w2 ⟨rfl, hb2⟩
  obtain ⟨hc2, hf2⟩ := bcell hb2
  have hz2_0 : w.heap.size < w2.heap.size := by have := hb2.size; (try simp at this); omega
  have hz2_1 : w.heap.size + 1 < w2.heap.size := by have := hb2.size; (try simp at this); omega
  have HB2 : Hid (Below w.heap.size w w2) := by first | exact bthen HB1.out hb2 | exact bthen (balloc HB1.out _) hb2 | exact bthen (balloc (balloc HB1.out _) _) hb2
  clear hb2
  by_cases g3 : badWay f n = true
  · have G2 : Hid (oErr (kOk lead thread head t0 t1 h0 h1 s0 s1 p0 p1 y0 y1) (badWay f n) = 2) := by show _ = _; simp [oErr, g2, g3]
    have G3 : Hid (badWay f n = true) := g3
    clear g2 g3
    rw [G3.out]
    go_wp2_with fail
    have r0 : w2.cell? ⟨w.heap.size + 1, 0, none⟩ = some (.int .i64 0) := by go_simp
    have r1 : w2.cell? ⟨w.heap.size + 1, 1, none⟩ = some (.int .i64 0) := by go_simp
    have r2 : w2.cell? ⟨w.heap.size + 1, 2, none⟩ = some (.int .i64 0) := by go_simp
    have r3 : w2.cell? ⟨w.heap.size + 1, 3, none⟩ = some (.int .i64 0) := by go_simp
    have r4 : w2.cell? ⟨w.heap.size + 1, 4, none⟩ = some (.int .i64 0) := by go_simp
    have r5 : w2.cell? ⟨w.heap.size + 1, 5, none⟩ = some (.int .i64 0) := by go_simp
    have r6 : w2.cell? ⟨w.heap.size + 1, 6, none⟩ = some (.int .i64 0) := by go_simp
    have r7 : w2.cell? ⟨w.heap.size + 1, 7, none⟩ = some (.int .i64 0) := by go_simp
    have r8 : w2.cell? ⟨w.heap.size + 1, 8, none⟩ = some (.int .i64 0) := by go_simp
    have r9 : w2.cell? ⟨w.heap.size + 1, 9, none⟩ = some (.int .i64 0) := by go_simp
    have r10 : w2.cell? ⟨w.heap.size + 1, 10, none⟩ = some (.int .i64 0) := by go_simp
    have r11 : w2.cell? ⟨w.heap.size + 1, 11, none⟩ = some (.int .i64 0) := by go_simp
    have r12 : w2.cell? ⟨w.heap.size + 1, 12, none⟩ = some (.int .i64 0) := by go_simp
    exact bodyPost_ret (v := .tuple #[.agg #[.int .i64 lead, .int .i64 thread, .int .i64 head, .int .i64 t0, .int .i64 t1, .int .i64 h0, .int .i64 h1, .int .i64 s0, .int .i64 s1, .int .i64 p0, .int .i64 p1, .int .i64 y0, .int .i64 y1], .int .i64 (2)]) (by simp [results, Try.results73, go_sem, r0, r1, r2, r3, r4, r5, r6, r7, r8, r9, r10, r11, r12]) rfl ⟨ret_pair2 G2.out.symm, (bset (bset (bset (bset (bset (bset (bset (bset (bset (bset (bset (bset (bset HB2.out (by omega)) (by omega)) (by omega)) (by omega)) (by omega)) (by omega)) (by omega)) (by omega)) (by omega)) (by omega)) (by omega)) (by omega)) (by omega))⟩
  · have G2 : Hid (oErr (kOk lead thread head t0 t1 h0 h1 s0 s1 p0 p1 y0 y1) (badWay f n) = 0) := by show _ = _; simp [oErr, g2, g3]
    have G3 : Hid (badWay f n = false) := notT g3
    clear g2 g3
    rw [G3.out]
    go_wp2_with fail
    have r0 : w2.cell? ⟨w.heap.size + 1, 0, none⟩ = some (.int .i64 0) := by go_simp
    have r1 : w2.cell? ⟨w.heap.size + 1, 1, none⟩ = some (.int .i64 0) := by go_simp
    have r2 : w2.cell? ⟨w.heap.size + 1, 2, none⟩ = some (.int .i64 0) := by go_simp
    have r3 : w2.cell? ⟨w.heap.size + 1, 3, none⟩ = some (.int .i64 0) := by go_simp
    have r4 : w2.cell? ⟨w.heap.size + 1, 4, none⟩ = some (.int .i64 0) := by go_simp
    have r5 : w2.cell? ⟨w.heap.size + 1, 5, none⟩ = some (.int .i64 0) := by go_simp
    have r6 : w2.cell? ⟨w.heap.size + 1, 6, none⟩ = some (.int .i64 0) := by go_simp
    have r7 : w2.cell? ⟨w.heap.size + 1, 7, none⟩ = some (.int .i64 0) := by go_simp
    have r8 : w2.cell? ⟨w.heap.size + 1, 8, none⟩ = some (.int .i64 0) := by go_simp
    have r9 : w2.cell? ⟨w.heap.size + 1, 9, none⟩ = some (.int .i64 0) := by go_simp
    have r10 : w2.cell? ⟨w.heap.size + 1, 10, none⟩ = some (.int .i64 0) := by go_simp
    have r11 : w2.cell? ⟨w.heap.size + 1, 11, none⟩ = some (.int .i64 0) := by go_simp
    have r12 : w2.cell? ⟨w.heap.size + 1, 12, none⟩ = some (.int .i64 0) := by go_simp
    exact bodyPost_ret (v := .tuple #[.agg #[.int .i64 lead, .int .i64 thread, .int .i64 head, .int .i64 t0, .int .i64 t1, .int .i64 h0, .int .i64 h1, .int .i64 s0, .int .i64 s1, .int .i64 p0, .int .i64 p1, .int .i64 y0, .int .i64 y1], .int .i64 (0)]) (by simp [results, Try.results73, go_sem, r0, r1, r2, r3, r4, r5, r6, r7, r8, r9, r10, r11, r12]) rfl ⟨ret_pair2 G2.out.symm, (bset (bset (bset (bset (bset (bset (bset (bset (bset (bset (bset (bset (bset HB2.out (by omega)) (by omega)) (by omega)) (by omega)) (by omega)) (by omega)) (by omega)) (by omega)) (by omega)) (by omega)) (by omega)) (by omega)) (by omega))⟩

end Go.Proofs.Ytbnbikkhnjcmdab
