-- Written by a program of this session (wip/pr/drive.py).
import Derived.Test.YtbnbikkhnjcmdabPBTx0
import Derived.Test.YtbnbikkhnjcmdabPBTx6
import Derived.Test.YtbnbikkhnjcmdabPBTx7
namespace Go.Proofs.Ytbnbikkhnjcmdab.PBT
open Go.RowKit Go.Proofs.YtbnbikkhnjcmdabW.PrintWords Go.Proofs.YtbnbikkhnjcmdabW.PrintLast Go.Proofs.YtbnbikkhnjcmdabW.PrintMore
attribute [local go_sem] max2_int min2_int max_two min_two max_three min_three max_four min_four   -- for this text's walks alone
set_option linter.unusedVariables false
set_option linter.unusedSimpArgs false

def bolt_Right.e2 (a0_0 : Int) (a0_1 : Int) (a0_2 : Int) (a0_3 : Int) (a0_4 : Int) (a0_5 : Int) (a0_6 : Int) (a0_7 : Int) (a0_8 : Int) (a0_9 : Int) (a0_10 : Int) (a0_11 : Int) (a0_12 : Int) (a1_0 : Int) (a1_1 : Int) (a2_0 : Int) (a2_1 : Int) : Option (Int × Int × Int) := (bolt_open.f a0_0 a0_1 a0_2 a0_3 a0_4 a0_5 a0_6 a0_7 a0_8 a0_9 a0_10 a0_11 a0_12 ([] : List (S51))).bind fun bt287 => (if bt287.2.2.2.2.2.2.2.2.2.2.2.2.2 = 0 then ((bolt_isForce.f a1_0 a1_1).bind fun t302 => (if t302 = true then ((bolt_isSpan.f a2_0 a2_1 (-10000000000000) 10000000000000).bind fun t303 => (if t303 = true then ((bolt_kind_within.f bt287.1 bt287.2.1 bt287.2.2.1 bt287.2.2.2.1 bt287.2.2.2.2.1 bt287.2.2.2.2.2.1 bt287.2.2.2.2.2.2.1 bt287.2.2.2.2.2.2.2.1 bt287.2.2.2.2.2.2.2.2.1 bt287.2.2.2.2.2.2.2.2.2.1 bt287.2.2.2.2.2.2.2.2.2.2.1 bt287.2.2.2.2.2.2.2.2.2.2.2.1 bt287.2.2.2.2.2.2.2.2.2.2.2.2.1 a1_0 a1_1).bind fun bt304 => ((bolt_kind_arms.f bt287.1 bt287.2.1 bt287.2.2.1 bt287.2.2.2.1 bt287.2.2.2.2.1 bt287.2.2.2.2.2.1 bt287.2.2.2.2.2.2.1 bt287.2.2.2.2.2.2.2.1 bt287.2.2.2.2.2.2.2.2.1 bt287.2.2.2.2.2.2.2.2.2.1 bt287.2.2.2.2.2.2.2.2.2.2.1 bt287.2.2.2.2.2.2.2.2.2.2.2.1 bt287.2.2.2.2.2.2.2.2.2.2.2.2.1).bind fun bt306 => ((bolt_up.f (wrap64 (bt304.1 * bt306.2)) 1000).bind fun t310 => ((bolt_up.f (wrap64 ((wrap64 (bt304.2 + 1)) * bt306.1)) 1000).bind fun t311 => (if (wrap64 ((wrap64 (t311 - 1)) - a2_1)) < 10000000000000 then (if t310 > 0 then (if (mx 0 (wrap64 (t310 - a2_0))) > (wrap64 ((wrap64 (t311 - 1)) - a2_1)) then (none) else (none)) else (if 0 > (wrap64 ((wrap64 (t311 - 1)) - a2_1)) then (none) else (none))) else (if t310 > 0 then (if (mx 0 (wrap64 (t310 - a2_0))) > 10000000000000 then (none) else (some (mx 0 (wrap64 (t310 - a2_0)), 10000000000000, 0))) else (if 0 > 10000000000000 then (none) else (none)))))))) else (none))) else (none))) else (none))
def bolt_Right.T2_7 : Bool × List (List Nat × List Nat) := (true, [([], []), ([], []), ([0, 1], [0, 1]), ([], []), ([3, 2], [3]), ([], []), ([], []), ([5, 2, 4, 0, 1, 2, 5, 6], [2, 5]), ([6, 4, 7, 0, 1, 2, 3, 4, 5, 6, 7], [4, 6])])
def bolt_Right.B2_7 : List Nat := [0, 0, 3, 0, 15, 0, 0, 127, 255]
theorem bolt_Right.tab2_7 : rtab .any (opsOf Try.f66 7) = bolt_Right.T2_7 := by kernel_rfl
theorem bolt_Right.bits2_7 : waitsOk bolt_Right.T2_7.2 bolt_Right.B2_7 = true := by kernel_rfl
def bolt_Right.T2_8 : Bool × List (List Nat × List Nat) := (true, [([], []), ([0], [0]), ([], []), ([2], [2]), ([1, 3], [1, 3]), ([4], [4]), ([], []), ([6], [6]), ([7], [7]), ([], []), ([9], [9]), ([8, 10], [8, 10]), ([11, 5], [11]), ([12], [12]), ([5, 12, 0, 1, 2, 3, 4, 5], [5]), ([13, 14, 0, 1, 2, 3, 4, 5, 6, 7, 8, 9, 10, 11, 12, 13, 14], [13])])
def bolt_Right.B2_8 : List Nat := [0, 1, 0, 4, 15, 31, 0, 64, 192, 0, 512, 1984, 4095, 8191, 8191, 32767]
theorem bolt_Right.tab2_8 : rtab .any (opsOf Try.f66 8) = bolt_Right.T2_8 := by kernel_rfl
theorem bolt_Right.bits2_8 : waitsOk bolt_Right.T2_8.2 bolt_Right.B2_8 = true := by kernel_rfl
set_option maxHeartbeats 8000000 in
set_option maxRecDepth 100000 in
theorem bolt_Right.c2 (a0_0 : Int) (a0_1 : Int) (a0_2 : Int) (a0_3 : Int) (a0_4 : Int) (a0_5 : Int) (a0_6 : Int) (a0_7 : Int) (a0_8 : Int) (a0_9 : Int) (a0_10 : Int) (a0_11 : Int) (a0_12 : Int) (a1_0 : Int) (a1_1 : Int) (a2_0 : Int) (a2_1 : Int) (r1 : Int) (r2 : Int) (r3 : Int) (w : World) (h : bolt_Right.e2 a0_0 a0_1 a0_2 a0_3 a0_4 a0_5 a0_6 a0_7 a0_8 a0_9 a0_10 a0_11 a0_12 a1_0 a1_1 a2_0 a2_1 = some (r1, r2, r3)) :
  Calls Try.prog 66 #[.agg #[.int .i64 a0_0, .int .i64 a0_1, .int .i64 a0_2, .int .i64 a0_3, .int .i64 a0_4, .int .i64 a0_5, .int .i64 a0_6, .int .i64 a0_7, .int .i64 a0_8, .int .i64 a0_9, .int .i64 a0_10, .int .i64 a0_11, .int .i64 a0_12], .agg #[.int .i64 a1_0, .int .i64 a1_1], .agg #[.int .i64 a2_0, .int .i64 a2_1]] w fun e w' => e = .returned (.tuple #[.agg #[.int .i64 r1, .int .i64 r2], .int .i64 r3]) ∧ Below w.heap.size w w' := by
 have hu38 := Try.underlying38; have hu36 := Try.underlying36; have hu164 := Try.underlying164; have HB := Aside0.mk (Below.refl w.heap.size w)
 have H : ((bolt_open.f a0_0 a0_1 a0_2 a0_3 a0_4 a0_5 a0_6 a0_7 a0_8 a0_9 a0_10 a0_11 a0_12 ([] : List (S51))).bind fun bt287 => (if bt287.2.2.2.2.2.2.2.2.2.2.2.2.2 = 0 then ((bolt_isForce.f a1_0 a1_1).bind fun t302 => (if t302 = true then ((bolt_isSpan.f a2_0 a2_1 (-10000000000000) 10000000000000).bind fun t303 => (if t303 = true then ((bolt_kind_within.f bt287.1 bt287.2.1 bt287.2.2.1 bt287.2.2.2.1 bt287.2.2.2.2.1 bt287.2.2.2.2.2.1 bt287.2.2.2.2.2.2.1 bt287.2.2.2.2.2.2.2.1 bt287.2.2.2.2.2.2.2.2.1 bt287.2.2.2.2.2.2.2.2.2.1 bt287.2.2.2.2.2.2.2.2.2.2.1 bt287.2.2.2.2.2.2.2.2.2.2.2.1 bt287.2.2.2.2.2.2.2.2.2.2.2.2.1 a1_0 a1_1).bind fun bt304 => ((bolt_kind_arms.f bt287.1 bt287.2.1 bt287.2.2.1 bt287.2.2.2.1 bt287.2.2.2.2.1 bt287.2.2.2.2.2.1 bt287.2.2.2.2.2.2.1 bt287.2.2.2.2.2.2.2.1 bt287.2.2.2.2.2.2.2.2.1 bt287.2.2.2.2.2.2.2.2.2.1 bt287.2.2.2.2.2.2.2.2.2.2.1 bt287.2.2.2.2.2.2.2.2.2.2.2.1 bt287.2.2.2.2.2.2.2.2.2.2.2.2.1).bind fun bt306 => ((bolt_up.f (wrap64 (bt304.1 * bt306.2)) 1000).bind fun t310 => ((bolt_up.f (wrap64 ((wrap64 (bt304.2 + 1)) * bt306.1)) 1000).bind fun t311 => (if (wrap64 ((wrap64 (t311 - 1)) - a2_1)) < 10000000000000 then (if t310 > 0 then (if (mx 0 (wrap64 (t310 - a2_0))) > (wrap64 ((wrap64 (t311 - 1)) - a2_1)) then (none) else (none)) else (if 0 > (wrap64 ((wrap64 (t311 - 1)) - a2_1)) then (none) else (none))) else (if t310 > 0 then (if (mx 0 (wrap64 (t310 - a2_0))) > 10000000000000 then (none) else (some (mx 0 (wrap64 (t310 - a2_0)), 10000000000000, 0))) else (if 0 > 10000000000000 then (none) else (none)))))))) else (none))) else (none))) else (none))) = some (r1, r2, r3) := h
 clear h
 replace H := Option.bind_eq_some_iff.mp H
 obtain ⟨⟨t287, t288, t289, t290, t291, t292, t293, t294, t295, t296, t297, t298, t299, t300⟩, A40, H⟩ := H
 replace H : (if t300 = 0 then ((bolt_isForce.f a1_0 a1_1).bind fun t302 => (if t302 = true then ((bolt_isSpan.f a2_0 a2_1 (-10000000000000) 10000000000000).bind fun t303 => (if t303 = true then ((bolt_kind_within.f t287 t288 t289 t290 t291 t292 t293 t294 t295 t296 t297 t298 t299 a1_0 a1_1).bind fun bt304 => ((bolt_kind_arms.f t287 t288 t289 t290 t291 t292 t293 t294 t295 t296 t297 t298 t299).bind fun bt306 => ((bolt_up.f (wrap64 (bt304.1 * bt306.2)) 1000).bind fun t310 => ((bolt_up.f (wrap64 ((wrap64 (bt304.2 + 1)) * bt306.1)) 1000).bind fun t311 => (if (wrap64 ((wrap64 (t311 - 1)) - a2_1)) < 10000000000000 then (if t310 > 0 then (if (mx 0 (wrap64 (t310 - a2_0))) > (wrap64 ((wrap64 (t311 - 1)) - a2_1)) then (none) else (none)) else (if 0 > (wrap64 ((wrap64 (t311 - 1)) - a2_1)) then (none) else (none))) else (if t310 > 0 then (if (mx 0 (wrap64 (t310 - a2_0))) > 10000000000000 then (none) else (some (mx 0 (wrap64 (t310 - a2_0)), 10000000000000, 0))) else (if 0 > 10000000000000 then (none) else (none)))))))) else (none))) else (none))) else (none)) = some (r1, r2, r3) := H
 have A4 := Aside0.mk A40
 clear A40
 by_cases c5 : t300 = 0
 ·
  rw [if_pos c5] at H
  have c5b0 : (t300 == 0) = true := beq_iff_eq.mpr c5
  have c5b1 : (t300 != 0) = false := bne_eq_false_iff_eq.mpr c5
  clear c5
  replace H := Option.bind_eq_some_iff.mp H
  obtain ⟨t302, A60, H⟩ := H
  replace H : (if t302 = true then ((bolt_isSpan.f a2_0 a2_1 (-10000000000000) 10000000000000).bind fun t303 => (if t303 = true then ((bolt_kind_within.f t287 t288 t289 t290 t291 t292 t293 t294 t295 t296 t297 t298 t299 a1_0 a1_1).bind fun bt304 => ((bolt_kind_arms.f t287 t288 t289 t290 t291 t292 t293 t294 t295 t296 t297 t298 t299).bind fun bt306 => ((bolt_up.f (wrap64 (bt304.1 * bt306.2)) 1000).bind fun t310 => ((bolt_up.f (wrap64 ((wrap64 (bt304.2 + 1)) * bt306.1)) 1000).bind fun t311 => (if (wrap64 ((wrap64 (t311 - 1)) - a2_1)) < 10000000000000 then (if t310 > 0 then (if (mx 0 (wrap64 (t310 - a2_0))) > (wrap64 ((wrap64 (t311 - 1)) - a2_1)) then (none) else (none)) else (if 0 > (wrap64 ((wrap64 (t311 - 1)) - a2_1)) then (none) else (none))) else (if t310 > 0 then (if (mx 0 (wrap64 (t310 - a2_0))) > 10000000000000 then (none) else (some (mx 0 (wrap64 (t310 - a2_0)), 10000000000000, 0))) else (if 0 > 10000000000000 then (none) else (none)))))))) else (none))) else (none)) = some (r1, r2, r3) := H
  have A6 := Aside0.mk A60
  clear A60
  by_cases c7 : t302 = true
  ·
   subst c7
   have H1 : ((bolt_isSpan.f a2_0 a2_1 (-10000000000000) 10000000000000).bind fun t303 => (if t303 = true then ((bolt_kind_within.f t287 t288 t289 t290 t291 t292 t293 t294 t295 t296 t297 t298 t299 a1_0 a1_1).bind fun bt304 => ((bolt_kind_arms.f t287 t288 t289 t290 t291 t292 t293 t294 t295 t296 t297 t298 t299).bind fun bt306 => ((bolt_up.f (wrap64 (bt304.1 * bt306.2)) 1000).bind fun t310 => ((bolt_up.f (wrap64 ((wrap64 (bt304.2 + 1)) * bt306.1)) 1000).bind fun t311 => (if (wrap64 ((wrap64 (t311 - 1)) - a2_1)) < 10000000000000 then (if t310 > 0 then (if (mx 0 (wrap64 (t310 - a2_0))) > (wrap64 ((wrap64 (t311 - 1)) - a2_1)) then (none) else (none)) else (if 0 > (wrap64 ((wrap64 (t311 - 1)) - a2_1)) then (none) else (none))) else (if t310 > 0 then (if (mx 0 (wrap64 (t310 - a2_0))) > 10000000000000 then (none) else (some (mx 0 (wrap64 (t310 - a2_0)), 10000000000000, 0))) else (if 0 > 10000000000000 then (none) else (none)))))))) else (none))) = some (r1, r2, r3) := by rw [if_pos rfl] at H; exact H
   clear H
   have H := H1
   clear H1
   replace H := Option.bind_eq_some_iff.mp H
   obtain ⟨t303, A80, H⟩ := H
   replace H : (if t303 = true then ((bolt_kind_within.f t287 t288 t289 t290 t291 t292 t293 t294 t295 t296 t297 t298 t299 a1_0 a1_1).bind fun bt304 => ((bolt_kind_arms.f t287 t288 t289 t290 t291 t292 t293 t294 t295 t296 t297 t298 t299).bind fun bt306 => ((bolt_up.f (wrap64 (bt304.1 * bt306.2)) 1000).bind fun t310 => ((bolt_up.f (wrap64 ((wrap64 (bt304.2 + 1)) * bt306.1)) 1000).bind fun t311 => (if (wrap64 ((wrap64 (t311 - 1)) - a2_1)) < 10000000000000 then (if t310 > 0 then (if (mx 0 (wrap64 (t310 - a2_0))) > (wrap64 ((wrap64 (t311 - 1)) - a2_1)) then (none) else (none)) else (if 0 > (wrap64 ((wrap64 (t311 - 1)) - a2_1)) then (none) else (none))) else (if t310 > 0 then (if (mx 0 (wrap64 (t310 - a2_0))) > 10000000000000 then (none) else (some (mx 0 (wrap64 (t310 - a2_0)), 10000000000000, 0))) else (if 0 > 10000000000000 then (none) else (none)))))))) else (none)) = some (r1, r2, r3) := H
   have A8 := Aside0.mk A80
   clear A80
   by_cases c9 : t303 = true
   ·
    subst c9
    have H1 : ((bolt_kind_within.f t287 t288 t289 t290 t291 t292 t293 t294 t295 t296 t297 t298 t299 a1_0 a1_1).bind fun bt304 => ((bolt_kind_arms.f t287 t288 t289 t290 t291 t292 t293 t294 t295 t296 t297 t298 t299).bind fun bt306 => ((bolt_up.f (wrap64 (bt304.1 * bt306.2)) 1000).bind fun t310 => ((bolt_up.f (wrap64 ((wrap64 (bt304.2 + 1)) * bt306.1)) 1000).bind fun t311 => (if (wrap64 ((wrap64 (t311 - 1)) - a2_1)) < 10000000000000 then (if t310 > 0 then (if (mx 0 (wrap64 (t310 - a2_0))) > (wrap64 ((wrap64 (t311 - 1)) - a2_1)) then (none) else (none)) else (if 0 > (wrap64 ((wrap64 (t311 - 1)) - a2_1)) then (none) else (none))) else (if t310 > 0 then (if (mx 0 (wrap64 (t310 - a2_0))) > 10000000000000 then (none) else (some (mx 0 (wrap64 (t310 - a2_0)), 10000000000000, 0))) else (if 0 > 10000000000000 then (none) else (none)))))))) = some (r1, r2, r3) := by rw [if_pos rfl] at H; exact H
    clear H
    have H := H1
    clear H1
    replace H := Option.bind_eq_some_iff.mp H
    obtain ⟨⟨t304, t305⟩, A100, H⟩ := H
    replace H : ((bolt_kind_arms.f t287 t288 t289 t290 t291 t292 t293 t294 t295 t296 t297 t298 t299).bind fun bt306 => ((bolt_up.f (wrap64 (t304 * bt306.2)) 1000).bind fun t310 => ((bolt_up.f (wrap64 ((wrap64 (t305 + 1)) * bt306.1)) 1000).bind fun t311 => (if (wrap64 ((wrap64 (t311 - 1)) - a2_1)) < 10000000000000 then (if t310 > 0 then (if (mx 0 (wrap64 (t310 - a2_0))) > (wrap64 ((wrap64 (t311 - 1)) - a2_1)) then (none) else (none)) else (if 0 > (wrap64 ((wrap64 (t311 - 1)) - a2_1)) then (none) else (none))) else (if t310 > 0 then (if (mx 0 (wrap64 (t310 - a2_0))) > 10000000000000 then (none) else (some (mx 0 (wrap64 (t310 - a2_0)), 10000000000000, 0))) else (if 0 > 10000000000000 then (none) else (none))))))) = some (r1, r2, r3) := H
    have A10 := Aside0.mk A100
    clear A100
    replace H := Option.bind_eq_some_iff.mp H
    obtain ⟨⟨t306, t307⟩, A110, H⟩ := H
    replace H : ((bolt_up.f (wrap64 (t304 * t307)) 1000).bind fun t310 => ((bolt_up.f (wrap64 ((wrap64 (t305 + 1)) * t306)) 1000).bind fun t311 => (if (wrap64 ((wrap64 (t311 - 1)) - a2_1)) < 10000000000000 then (if t310 > 0 then (if (mx 0 (wrap64 (t310 - a2_0))) > (wrap64 ((wrap64 (t311 - 1)) - a2_1)) then (none) else (none)) else (if 0 > (wrap64 ((wrap64 (t311 - 1)) - a2_1)) then (none) else (none))) else (if t310 > 0 then (if (mx 0 (wrap64 (t310 - a2_0))) > 10000000000000 then (none) else (some (mx 0 (wrap64 (t310 - a2_0)), 10000000000000, 0))) else (if 0 > 10000000000000 then (none) else (none)))))) = some (r1, r2, r3) := H
    have A11 := Aside0.mk A110
    clear A110
    replace H := Option.bind_eq_some_iff.mp H
    obtain ⟨t310, A120, H⟩ := H
    replace H : ((bolt_up.f (wrap64 ((wrap64 (t305 + 1)) * t306)) 1000).bind fun t311 => (if (wrap64 ((wrap64 (t311 - 1)) - a2_1)) < 10000000000000 then (if t310 > 0 then (if (mx 0 (wrap64 (t310 - a2_0))) > (wrap64 ((wrap64 (t311 - 1)) - a2_1)) then (none) else (none)) else (if 0 > (wrap64 ((wrap64 (t311 - 1)) - a2_1)) then (none) else (none))) else (if t310 > 0 then (if (mx 0 (wrap64 (t310 - a2_0))) > 10000000000000 then (none) else (some (mx 0 (wrap64 (t310 - a2_0)), 10000000000000, 0))) else (if 0 > 10000000000000 then (none) else (none))))) = some (r1, r2, r3) := H
    have A12 := Aside0.mk A120
    clear A120
    replace H := Option.bind_eq_some_iff.mp H
    obtain ⟨t311, A130, H⟩ := H
    replace H : (if (wrap64 ((wrap64 (t311 - 1)) - a2_1)) < 10000000000000 then (if t310 > 0 then (if (mx 0 (wrap64 (t310 - a2_0))) > (wrap64 ((wrap64 (t311 - 1)) - a2_1)) then (none) else (none)) else (if 0 > (wrap64 ((wrap64 (t311 - 1)) - a2_1)) then (none) else (none))) else (if t310 > 0 then (if (mx 0 (wrap64 (t310 - a2_0))) > 10000000000000 then (none) else (some (mx 0 (wrap64 (t310 - a2_0)), 10000000000000, 0))) else (if 0 > 10000000000000 then (none) else (none)))) = some (r1, r2, r3) := H
    have A13 := Aside0.mk A130
    clear A130
    by_cases c14 : (wrap64 ((wrap64 (t311 - 1)) - a2_1)) < 10000000000000
    ·
     rw [if_pos c14] at H
     have c14i := eq_true c14
     have c14b0 : decide ((wrap64 ((wrap64 (t311 - 1)) - a2_1)) < 10000000000000) = true := decide_eq_true c14
     clear c14
     by_cases c15 : t310 > 0
     ·
      rw [if_pos c15] at H
      have c15b0 : decide (0 < t310) = true := decide_eq_true c15
      clear c15
      obtain ⟨ji16, hji16⟩ : ∃ j_ : Int, (mx 0 (wrap64 (t310 - a2_0))) = j_ := ⟨_, rfl⟩
      replace H : (if (ji16) > (wrap64 ((wrap64 (t311 - 1)) - a2_1)) then (none) else (none)) = some (r1, r2, r3) := by first | (rw [hji16] at H; exact H) | (simp only [hji16] at H ⊢; exact H)
      (try rw [hji16] at A4)
      (try rw [hji16] at A6)
      (try rw [hji16] at A8)
      (try rw [hji16] at A10)
      (try rw [hji16] at A11)
      (try rw [hji16] at A12)
      (try rw [hji16] at A13)
      (try (have hji16l : 0 ≤ ji16 := by (rw [← hji16]; unfold mx; (repeat' split) <;> omega)))
      (try (have hji16m : 0 ≤ ji16 := by omega))
      have hji16_ : (if 0 < (wrap64 (t310 - a2_0)) then (wrap64 (t310 - a2_0)) else 0) = ji16 := hji16
      by_cases c17 : (ji16) > (wrap64 ((wrap64 (t311 - 1)) - a2_1))
      ·
       rw [if_pos c17] at H
       exact absurd H (by simp)
      ·
       rw [if_neg c17] at H
       have c17b0 : decide ((wrap64 ((wrap64 (t311 - 1)) - a2_1)) < (ji16)) = false := decide_eq_false c17
       clear c17
       exact absurd H (by simp)
     ·
      rw [if_neg c15] at H
      have c15b0 : decide (0 < t310) = false := decide_eq_false c15
      clear c15
      by_cases c57 : 0 > (wrap64 ((wrap64 (t311 - 1)) - a2_1))
      ·
       rw [if_pos c57] at H
       exact absurd H (by simp)
      ·
       rw [if_neg c57] at H
       have c57b0 : decide ((wrap64 ((wrap64 (t311 - 1)) - a2_1)) < 0) = false := decide_eq_false c57
       clear c57
       exact absurd H (by simp)
    ·
     rw [if_neg c14] at H
     have c14i := eq_false c14
     have c14b0 : decide ((wrap64 ((wrap64 (t311 - 1)) - a2_1)) < 10000000000000) = false := decide_eq_false c14
     clear c14
     by_cases c97 : t310 > 0
     ·
      rw [if_pos c97] at H
      have c97b0 : decide (0 < t310) = true := decide_eq_true c97
      clear c97
      obtain ⟨ji98, hji98⟩ : ∃ j_ : Int, (mx 0 (wrap64 (t310 - a2_0))) = j_ := ⟨_, rfl⟩
      replace H : (if (ji98) > 10000000000000 then (none) else (some (ji98, 10000000000000, 0))) = some (r1, r2, r3) := by first | (rw [hji98] at H; exact H) | (simp only [hji98] at H ⊢; exact H)
      (try rw [hji98] at A4)
      (try rw [hji98] at A6)
      (try rw [hji98] at A8)
      (try rw [hji98] at A10)
      (try rw [hji98] at A11)
      (try rw [hji98] at A12)
      (try rw [hji98] at A13)
      (try (have hji98l : 0 ≤ ji98 := by (rw [← hji98]; unfold mx; (repeat' split) <;> omega)))
      (try (have hji98m : 0 ≤ ji98 := by omega))
      have hji98_ : (if 0 < (wrap64 (t310 - a2_0)) then (wrap64 (t310 - a2_0)) else 0) = ji98 := hji98
      by_cases c99 : (ji98) > 10000000000000
      ·
       rw [if_pos c99] at H
       exact absurd H (by simp)
      ·
       rw [if_neg c99] at H
       have c99b0 : decide (10000000000000 < (ji98)) = false := decide_eq_false c99
       clear c99
       simp only [Option.some.injEq, Prod.mk.injEq] at H
       obtain ⟨rfl, rfl, rfl⟩ := H
       go_enter Try.func66, Try.ntmps66
       try go_wp2_with (first | ((with_reducible refine gate_dst (N := 3) rfl ?_); refine box_event ?hg (N := 3) ?hd (cs := #[.int .i64 a0_0, .int .i64 a0_1, .int .i64 a0_2, .int .i64 a0_3, .int .i64 a0_4, .int .i64 a0_5, .int .i64 a0_6, .int .i64 a0_7, .int .i64 a0_8, .int .i64 a0_9, .int .i64 a0_10, .int .i64 a0_11, .int .i64 a0_12]) (t := 38) ?hr ?_; (case hd => rfl); (case hg => rfl); (case hr => first | (go_simp; done) | (go_simp; rfl)); intro gb283 hg w100 hbox hb; have BK283 := Aside0.mk (hbox); have GW283 := Aside0.mk (geB hg (hbp HB.out)); have GE283 := Aside0.mk (geB hg (hbp HB.out)); replace HB := Aside0.mk (below_step (hbp HB.out) hb); clear hb hbox hg) | ((with_reducible refine gate_dst (N := 4) rfl ?_); refine box_event ?hg (N := 4) ?hd (cs := #[.int .i64 a1_0, .int .i64 a1_1]) (t := 36) ?hr ?_; (case hd => rfl); (case hg => rfl); (case hr => first | (go_simp; done) | (go_simp; rfl)); intro gb284 hg w101 hbox hb; have BK284 := Aside0.mk (hbox); have GW284 := Aside0.mk (geB hg (hbp HB.out)); have GE284 := Aside0.mk (geB hg (hbp HB.out)); have NB283_284 := Aside0.mk (ltB hg (pl BK283.out)); have NB284_283 := Aside0.mk (gtB hg (pl BK283.out)); replace BK283 := Aside0.mk (blk_below (pl BK283.out) hb); replace HB := Aside0.mk (below_step (hbp HB.out) hb); clear hb hbox hg) | ((with_reducible refine gate_dst (N := 5) rfl ?_); refine box_event ?hg (N := 5) ?hd (cs := #[.int .i64 a2_0, .int .i64 a2_1]) (t := 36) ?hr ?_; (case hd => rfl); (case hg => rfl); (case hr => first | (go_simp; done) | (go_simp; rfl)); intro gb285 hg w102 hbox hb; have BK285 := Aside0.mk (hbox); have GW285 := Aside0.mk (geB hg (hbp HB.out)); have GE285 := Aside0.mk (geB hg (hbp HB.out)); have NB283_285 := Aside0.mk (ltB hg (pl BK283.out)); have NB285_283 := Aside0.mk (gtB hg (pl BK283.out)); have NB284_285 := Aside0.mk (ltB hg (pl BK284.out)); have NB285_284 := Aside0.mk (gtB hg (pl BK284.out)); replace BK283 := Aside0.mk (blk_below (pl BK283.out) hb); replace BK284 := Aside0.mk (blk_below (pl BK284.out) hb); replace HB := Aside0.mk (below_step (hbp HB.out) hb); clear hb hbox hg) | ((with_reducible refine gate_dst (N := 6) rfl ?_); refine box_event ?hg (N := 6) ?hd (cs := #[.int .i64 0, .int .i64 0]) (t := 36) ?hr ?_; (case hd => rfl); (case hg => rfl); (case hr => first | (go_simp; done) | (go_simp; rfl)); intro gb286 hg w103 hbox hb; have BK286 := Aside0.mk (hbox); have GW286 := Aside0.mk (geB hg (hbp HB.out)); have GE286 := Aside0.mk (geB hg (hbp HB.out)); have NB283_286 := Aside0.mk (ltB hg (pl BK283.out)); have NB286_283 := Aside0.mk (gtB hg (pl BK283.out)); have NB284_286 := Aside0.mk (ltB hg (pl BK284.out)); have NB286_284 := Aside0.mk (gtB hg (pl BK284.out)); have NB285_286 := Aside0.mk (ltB hg (pl BK285.out)); have NB286_285 := Aside0.mk (gtB hg (pl BK285.out)); replace BK283 := Aside0.mk (blk_below (pl BK283.out) hb); replace BK284 := Aside0.mk (blk_below (pl BK284.out) hb); replace BK285 := Aside0.mk (blk_below (pl BK285.out) hb); replace HB := Aside0.mk (below_step (hbp HB.out) hb); clear hb hbox hg; have hnb104 := NB283_284.out; have hnc104 := NB284_283.out; have hnb105 := NB283_285.out; have hnc105 := NB285_283.out; have hnb106 := NB283_286.out; have hnc106 := NB286_283.out; have hcz107_0 := cB (x := a0_0) BK283.out 0; have hcz107_1 := cB (x := a0_1) BK283.out 1; have hcz107_2 := cB (x := a0_2) BK283.out 2; have hcz107_3 := cB (x := a0_3) BK283.out 3; have hcz107_4 := cB (x := a0_4) BK283.out 4; have hcz107_5 := cB (x := a0_5) BK283.out 5; have hcz107_6 := cB (x := a0_6) BK283.out 6; have hcz107_7 := cB (x := a0_7) BK283.out 7; have hcz107_8 := cB (x := a0_8) BK283.out 8; have hcz107_9 := cB (x := a0_9) BK283.out 9; have hcz107_10 := cB (x := a0_10) BK283.out 10; have hcz107_11 := cB (x := a0_11) BK283.out 11; have hcz107_12 := cB (x := a0_12) BK283.out 12; have hfz107_0 := blk_frozen BK283.out 0; have hfz107_1 := blk_frozen BK283.out 1; have hfz107_2 := blk_frozen BK283.out 2; have hfz107_3 := blk_frozen BK283.out 3; have hfz107_4 := blk_frozen BK283.out 4; have hfz107_5 := blk_frozen BK283.out 5; have hfz107_6 := blk_frozen BK283.out 6; have hfz107_7 := blk_frozen BK283.out 7; have hfz107_8 := blk_frozen BK283.out 8; have hfz107_9 := blk_frozen BK283.out 9; have hfz107_10 := blk_frozen BK283.out 10; have hfz107_11 := blk_frozen BK283.out 11; have hfz107_12 := blk_frozen BK283.out 12) | ((with_reducible refine gate_callee (f := 73) rfl ?_); refine goesL_ (some 15) rfl rfl Try.func73 (by kernel_rfl) rfl #[.agg #[.int .i64 a0_0, .int .i64 a0_1, .int .i64 a0_2, .int .i64 a0_3, .int .i64 a0_4, .int .i64 a0_5, .int .i64 a0_6, .int .i64 a0_7, .int .i64 a0_8, .int .i64 a0_9, .int .i64 a0_10, .int .i64 a0_11, .int .i64 a0_12], .slice none 0 0] rfl (by (try simp only [List.map_toArray, List.map_cons, List.map_nil]); first | done | rfl | (simp only [List.length_drop, List.length_take]; rfl)) ?_; (refine (bolt_open.calls a0_0 a0_1 a0_2 a0_3 a0_4 a0_5 a0_6 a0_7 a0_8 a0_9 a0_10 a0_11 a0_12 _ _ ([] : List (S51)) t287 t288 t289 t290 t291 t292 t293 t294 t295 t296 t297 t298 t299 t300 _ ?side1 ?side2 A4.out).mono ?_); (case side1 => exact Kd.C_nil _ _); (case side2 => exact Nat.le_refl _); rintro e w108 ⟨rfl, hb⟩; refine ⟨_, rfl, ?_⟩; replace BK283 := Aside0.mk (blk_below (pl BK283.out) hb); replace BK284 := Aside0.mk (blk_below (pl BK284.out) hb); replace BK285 := Aside0.mk (blk_below (pl BK285.out) hb); replace BK286 := Aside0.mk (blk_below (pl BK286.out) hb); replace HB := Aside0.mk (below_step (hbp HB.out) hb); (try clear hb); (try clear hb2); (try clear hk); (try clear hi)) | ((with_reducible refine gate_dst (N := 8) rfl ?_); refine box_event ?hg (N := 8) ?hd (cs := #[.int .i64 0, .int .i64 0, .int .i64 0, .int .i64 0, .int .i64 0, .int .i64 0, .int .i64 0, .int .i64 0, .int .i64 0, .int .i64 0, .int .i64 0, .int .i64 0, .int .i64 0]) (t := 164) ?hr ?_; (case hd => rfl); (case hg => rfl); (case hr => first | (go_simp; done) | (go_simp; rfl)); intro gb301 hg w109 hbox hb; have BK301 := Aside0.mk (hbox); have GW301 := Aside0.mk (geB hg (hbp HB.out)); have GE301 := Aside0.mk (geB hg (hbp HB.out)); have NB283_301 := Aside0.mk (ltB hg (pl BK283.out)); have NB301_283 := Aside0.mk (gtB hg (pl BK283.out)); have NB284_301 := Aside0.mk (ltB hg (pl BK284.out)); have NB301_284 := Aside0.mk (gtB hg (pl BK284.out)); have NB285_301 := Aside0.mk (ltB hg (pl BK285.out)); have NB301_285 := Aside0.mk (gtB hg (pl BK285.out)); have NB286_301 := Aside0.mk (ltB hg (pl BK286.out)); have NB301_286 := Aside0.mk (gtB hg (pl BK286.out)); replace BK283 := Aside0.mk (blk_below (pl BK283.out) hb); replace BK284 := Aside0.mk (blk_below (pl BK284.out) hb); replace BK285 := Aside0.mk (blk_below (pl BK285.out) hb); replace BK286 := Aside0.mk (blk_below (pl BK286.out) hb); replace HB := Aside0.mk (below_step (hbp HB.out) hb); clear hb hbox hg; have hnb110 := NB301_283.out; have hnc110 := NB283_301.out; have hnb111 := NB301_284.out; have hnc111 := NB284_301.out; have hnb112 := NB301_285.out; have hnc112 := NB285_301.out; have hnb113 := NB301_286.out; have hnc113 := NB286_301.out; have hcz114_0 := cB (x := 0) BK301.out 0; have hcz114_1 := cB (x := 0) BK301.out 1; have hcz114_2 := cB (x := 0) BK301.out 2; have hcz114_3 := cB (x := 0) BK301.out 3; have hcz114_4 := cB (x := 0) BK301.out 4; have hcz114_5 := cB (x := 0) BK301.out 5; have hcz114_6 := cB (x := 0) BK301.out 6; have hcz114_7 := cB (x := 0) BK301.out 7; have hcz114_8 := cB (x := 0) BK301.out 8; have hcz114_9 := cB (x := 0) BK301.out 9; have hcz114_10 := cB (x := 0) BK301.out 10; have hcz114_11 := cB (x := 0) BK301.out 11; have hcz114_12 := cB (x := 0) BK301.out 12; have hfz114_0 := blk_frozen BK301.out 0; have hfz114_1 := blk_frozen BK301.out 1; have hfz114_2 := blk_frozen BK301.out 2; have hfz114_3 := blk_frozen BK301.out 3; have hfz114_4 := blk_frozen BK301.out 4; have hfz114_5 := blk_frozen BK301.out 5; have hfz114_6 := blk_frozen BK301.out 6; have hfz114_7 := blk_frozen BK301.out 7; have hfz114_8 := blk_frozen BK301.out 8; have hfz114_9 := blk_frozen BK301.out 9; have hfz114_10 := blk_frozen BK301.out 10; have hfz114_11 := blk_frozen BK301.out 11; have hfz114_12 := blk_frozen BK301.out 12; have hnb115 := NB284_285.out; have hnc115 := NB285_284.out; have hnb116 := NB284_286.out; have hnc116 := NB286_284.out; have hcz117_0 := cB (x := a1_0) BK284.out 0; have hcz117_1 := cB (x := a1_1) BK284.out 1; have hfz117_0 := blk_frozen BK284.out 0; have hfz117_1 := blk_frozen BK284.out 1) | ((with_reducible refine gate_callee (f := 95) rfl ?_); refine goesL_ (some 25) rfl rfl Try.func95 (by kernel_rfl) rfl #[.agg #[.int .i64 a1_0, .int .i64 a1_1]] rfl (by (try simp only [List.map_toArray, List.map_cons, List.map_nil]); first | done | rfl | (simp only [List.length_drop, List.length_take]; rfl)) ?_; (with_reducible refine (bolt_isForce.calls a1_0 a1_1 true _ A6.out).mono ?_); rintro e w118 ⟨rfl, hb⟩; refine ⟨_, rfl, ?_⟩; have n0_ := Aside0.mk (blk_below (plf BK283.out) hb); have n1_ := Aside0.mk (blk_below (plf BK284.out) hb); have n2_ := Aside0.mk (blk_below (plf BK285.out) hb); have n3_ := Aside0.mk (blk_below (plf BK286.out) hb); have n4_ := Aside0.mk (blk_below (g := gb301) (o := .cells #[.int .i64 t287, .int .i64 t288, .int .i64 t289, .int .i64 t290, .int .i64 t291, .int .i64 t292, .int .i64 t293, .int .i64 t294, .int .i64 t295, .int .i64 t296, .int .i64 t297, .int .i64 t298, .int .i64 t299] 164 (0, 0)) (by refine pl ?_; refine blk_put (cs := #[.int .i64 t287, .int .i64 t288, .int .i64 t289, .int .i64 t290, .int .i64 t291, .int .i64 t292, .int .i64 t293, .int .i64 t294, .int .i64 t295, .int .i64 t296, .int .i64 t297, .int .i64 t298, .int .i64 0]) ?_ 12 _ rfl; refine pl ?_; refine blk_put (cs := #[.int .i64 t287, .int .i64 t288, .int .i64 t289, .int .i64 t290, .int .i64 t291, .int .i64 t292, .int .i64 t293, .int .i64 t294, .int .i64 t295, .int .i64 t296, .int .i64 t297, .int .i64 0, .int .i64 0]) ?_ 11 _ rfl; refine pl ?_; refine blk_put (cs := #[.int .i64 t287, .int .i64 t288, .int .i64 t289, .int .i64 t290, .int .i64 t291, .int .i64 t292, .int .i64 t293, .int .i64 t294, .int .i64 t295, .int .i64 t296, .int .i64 0, .int .i64 0, .int .i64 0]) ?_ 10 _ rfl; refine pl ?_; refine blk_put (cs := #[.int .i64 t287, .int .i64 t288, .int .i64 t289, .int .i64 t290, .int .i64 t291, .int .i64 t292, .int .i64 t293, .int .i64 t294, .int .i64 t295, .int .i64 0, .int .i64 0, .int .i64 0, .int .i64 0]) ?_ 9 _ rfl; refine pl ?_; refine blk_put (cs := #[.int .i64 t287, .int .i64 t288, .int .i64 t289, .int .i64 t290, .int .i64 t291, .int .i64 t292, .int .i64 t293, .int .i64 t294, .int .i64 0, .int .i64 0, .int .i64 0, .int .i64 0, .int .i64 0]) ?_ 8 _ rfl; refine pl ?_; refine blk_put (cs := #[.int .i64 t287, .int .i64 t288, .int .i64 t289, .int .i64 t290, .int .i64 t291, .int .i64 t292, .int .i64 t293, .int .i64 0, .int .i64 0, .int .i64 0, .int .i64 0, .int .i64 0, .int .i64 0]) ?_ 7 _ rfl; refine pl ?_; refine blk_put (cs := #[.int .i64 t287, .int .i64 t288, .int .i64 t289, .int .i64 t290, .int .i64 t291, .int .i64 t292, .int .i64 0, .int .i64 0, .int .i64 0, .int .i64 0, .int .i64 0, .int .i64 0, .int .i64 0]) ?_ 6 _ rfl; refine pl ?_; refine blk_put (cs := #[.int .i64 t287, .int .i64 t288, .int .i64 t289, .int .i64 t290, .int .i64 t291, .int .i64 0, .int .i64 0, .int .i64 0, .int .i64 0, .int .i64 0, .int .i64 0, .int .i64 0, .int .i64 0]) ?_ 5 _ rfl; refine pl ?_; refine blk_put (cs := #[.int .i64 t287, .int .i64 t288, .int .i64 t289, .int .i64 t290, .int .i64 0, .int .i64 0, .int .i64 0, .int .i64 0, .int .i64 0, .int .i64 0, .int .i64 0, .int .i64 0, .int .i64 0]) ?_ 4 _ rfl; refine pl ?_; refine blk_put (cs := #[.int .i64 t287, .int .i64 t288, .int .i64 t289, .int .i64 0, .int .i64 0, .int .i64 0, .int .i64 0, .int .i64 0, .int .i64 0, .int .i64 0, .int .i64 0, .int .i64 0, .int .i64 0]) ?_ 3 _ rfl; refine pl ?_; refine blk_put (cs := #[.int .i64 t287, .int .i64 t288, .int .i64 0, .int .i64 0, .int .i64 0, .int .i64 0, .int .i64 0, .int .i64 0, .int .i64 0, .int .i64 0, .int .i64 0, .int .i64 0, .int .i64 0]) ?_ 2 _ rfl; refine pl ?_; refine blk_put (cs := #[.int .i64 t287, .int .i64 0, .int .i64 0, .int .i64 0, .int .i64 0, .int .i64 0, .int .i64 0, .int .i64 0, .int .i64 0, .int .i64 0, .int .i64 0, .int .i64 0, .int .i64 0]) ?_ 1 _ rfl; refine pl ?_; refine blk_put (cs := #[.int .i64 0, .int .i64 0, .int .i64 0, .int .i64 0, .int .i64 0, .int .i64 0, .int .i64 0, .int .i64 0, .int .i64 0, .int .i64 0, .int .i64 0, .int .i64 0, .int .i64 0]) ?_ 0 _ rfl; refine pl ?_; exact BK301.out) hb); have n5_ := Aside0.mk (below_step (hbp HB.out) hb); clear BK283; clear BK284; clear BK285; clear BK286; clear BK301; clear HB; have BK283 := n0_; have BK284 := n1_; have BK285 := n2_; have BK286 := n3_; have BK301 := n4_; have HB := n5_; clear n0_ n1_ n2_ n3_ n4_ n5_; (try clear hb); (try clear hb2); (try clear hk); (try clear hi); have hnb119 := NB285_286.out; have hnc119 := NB286_285.out; have hcz120_0 := cB (x := a2_0) BK285.out 0; have hcz120_1 := cB (x := a2_1) BK285.out 1; have hfz120_0 := blk_frozen BK285.out 0; have hfz120_1 := blk_frozen BK285.out 1) | ((with_reducible refine gate_callee (f := 131) rfl ?_); refine goesL_ (some 28) rfl rfl Try.func131 (by kernel_rfl) rfl #[.agg #[.int .i64 a2_0, .int .i64 a2_1], .int .i64 (-10000000000000), .int .i64 10000000000000] rfl (by (try simp only [List.map_toArray, List.map_cons, List.map_nil]); first | done | rfl | (simp only [List.length_drop, List.length_take]; rfl)) ?_; (with_reducible refine (bolt_isSpan.calls a2_0 a2_1 (-10000000000000) 10000000000000 true _ A8.out).mono ?_); rintro e w121 ⟨rfl, hb⟩; refine ⟨_, rfl, ?_⟩; replace BK283 := Aside0.mk (blk_below (pl BK283.out) hb); replace BK284 := Aside0.mk (blk_below (pl BK284.out) hb); replace BK285 := Aside0.mk (blk_below (pl BK285.out) hb); replace BK286 := Aside0.mk (blk_below (pl BK286.out) hb); replace BK301 := Aside0.mk (blk_below (pl BK301.out) hb); replace HB := Aside0.mk (below_step (hbp HB.out) hb); (try clear hb); (try clear hb2); (try clear hk); (try clear hi)))
       replace BK283 := Aside0.mk (blk_drew BK283.out); replace BK284 := Aside0.mk (blk_drew BK284.out); replace BK285 := Aside0.mk (blk_drew BK285.out); replace BK286 := Aside0.mk (blk_drew BK286.out); replace BK301 := Aside0.mk (blk_drew BK301.out); replace HB := Aside0.mk (below_drew1 HB.out)
       refine start_ (n := 9) (S := fun w' => True) (ds := []) #[false, false, false, false, false, false, false, false, false] (by kernel_rfl) rfl rfl trivial (fun hHeld => ?_); refine with_tabW bolt_Right.tab2_7 bolt_Right.bits2_7 (fun HT_ HW_ => ?_)
       generalize w121.drew = w122 at BK283 BK284 BK285 BK286 BK301 HB hHeld ⊢
       refine inv_at [0, 1, 2, 3, 4, 5, 6, 7, 8] (fun a0_ b a w' => ∃ (gb308 : Nat) (gb309 : Nat) (m5_ : Value) (m6_ : Value), a = putSel a0_ b [(0, 31, .agg #[.int .i64 t287, .int .i64 t288, .int .i64 t289, .int .i64 t290, .int .i64 t291, .int .i64 t292, .int .i64 t293, .int .i64 t294, .int .i64 t295, .int .i64 t296, .int .i64 t297, .int .i64 t298, .int .i64 t299]), (1, 32, .agg #[.int .i64 a1_0, .int .i64 a1_1]), (2, 33, .agg #[.int .i64 t304, .int .i64 t305]), (3, 34, .agg #[.int .i64 t287, .int .i64 t288, .int .i64 t289, .int .i64 t290, .int .i64 t291, .int .i64 t292, .int .i64 t293, .int .i64 t294, .int .i64 t295, .int .i64 t296, .int .i64 t297, .int .i64 t298, .int .i64 t299]), (4, 35, .agg #[.int .i64 t306, .int .i64 t307]), (5, 9, m5_), (6, 10, m6_)] ∧ (w'.heap[gb283]? = some (.cells #[.int .i64 a0_0, .int .i64 a0_1, .int .i64 a0_2, .int .i64 a0_3, .int .i64 a0_4, .int .i64 a0_5, .int .i64 a0_6, .int .i64 a0_7, .int .i64 a0_8, .int .i64 a0_9, .int .i64 a0_10, .int .i64 a0_11, .int .i64 a0_12] 38 (0, 0))) ∧ (w'.heap[gb284]? = some (.cells #[.int .i64 a1_0, .int .i64 a1_1] 36 (0, 0))) ∧ (w'.heap[gb285]? = some (.cells #[.int .i64 a2_0, .int .i64 a2_1] 36 (0, 0))) ∧ (w'.heap[gb286]? = some (.cells #[.int .i64 0, .int .i64 0] 36 (0, 0))) ∧ (w'.heap[gb301]? = some (.cells #[.int .i64 t287, .int .i64 t288, .int .i64 t289, .int .i64 t290, .int .i64 t291, .int .i64 t292, .int .i64 t293, .int .i64 t294, .int .i64 t295, .int .i64 t296, .int .i64 t297, .int .i64 t298, .int .i64 t299] 164 (0, 0))) ∧ (Below w.heap.size w w') ∧ (b 5 = true → b 6 = true → gb309 ≠ gb308) ∧ (b 5 = true → b 6 = true → gb308 ≠ gb309) ∧ (b 5 = true → b 7 = false → w'.heap[gb308]? = some (.cells #[.int .i64 0, .int .i64 0] 36 (0, 0))) ∧ (b 5 = true → w.heap.size ≤ gb308) ∧ (b 5 = true → w.heap.size ≤ gb308) ∧ (b 5 = true → gb283 ≠ gb308) ∧ (b 5 = true → gb308 ≠ gb283) ∧ (b 5 = true → gb284 ≠ gb308) ∧ (b 5 = true → gb308 ≠ gb284) ∧ (b 5 = true → gb285 ≠ gb308) ∧ (b 5 = true → gb308 ≠ gb285) ∧ (b 5 = true → gb286 ≠ gb308) ∧ (b 5 = true → gb308 ≠ gb286) ∧ (b 5 = true → gb301 ≠ gb308) ∧ (b 5 = true → gb308 ≠ gb301) ∧ (b 6 = true → b 8 = false → w'.heap[gb309]? = some (.cells #[.int .i64 0, .int .i64 0] 36 (0, 0))) ∧ (b 6 = true → w.heap.size ≤ gb309) ∧ (b 6 = true → w.heap.size ≤ gb309) ∧ (b 6 = true → gb283 ≠ gb309) ∧ (b 6 = true → gb309 ≠ gb283) ∧ (b 6 = true → gb284 ≠ gb309) ∧ (b 6 = true → gb309 ≠ gb284) ∧ (b 6 = true → gb285 ≠ gb309) ∧ (b 6 = true → gb309 ≠ gb285) ∧ (b 6 = true → gb286 ≠ gb309) ∧ (b 6 = true → gb309 ≠ gb286) ∧ (b 6 = true → gb301 ≠ gb309) ∧ (b 6 = true → gb309 ≠ gb301) ∧ (b 7 = true → w'.heap[gb308]? = some (.cells #[.int .i64 t304, .int .i64 t305] 36 (0, 0))) ∧ (b 8 = true → w'.heap[gb309]? = some (.cells #[.int .i64 t306, .int .i64 t307] 36 (0, 0))) ∧ (b 5 = true → (m5_ : Value) = .pointer (some ⟨gb308, 0, none⟩)) ∧ (b 6 = true → (m6_ : Value) = .pointer (some ⟨gb309, 0, none⟩))) HT_.out HW_.out (by kernel_rfl) (by kernel_rfl) ?_ ?_ ?_
       · exact ⟨0, 0, .bool false, .bool false, by simp only [putSel, Bool.false_eq_true, if_false], BK283.out, BK284.out, BK285.out, BK286.out, BK301.out, HB.out, nof, nof, nof, nof, nof, nof, nof, nof, nof, nof, nof, nof, nof, nof, nof, nof, nof, nof, nof, nof, nof, nof, nof, nof, nof, nof, nof, nof, nof, nof, nof, nof⟩
       ·
        clear BK283 BK284 BK285 BK286 BK301 HB
        refine steps_cons ?_ ?_
        ·
         rintro b a w' ⟨gb308, gb309, m5_, m6_, ha, Q_BK283, Q_BK284, Q_BK285, Q_BK286, Q_BK301, Q_HB, Q_NB309_308, Q_NB308_309, Q_BK308, Q_GW308, Q_GE308, Q_NB283_308, Q_NB308_283, Q_NB284_308, Q_NB308_284, Q_NB285_308, Q_NB308_285, Q_NB286_308, Q_NB308_286, Q_NB301_308, Q_NB308_301, Q_BK309, Q_GW309, Q_GE309, Q_NB283_309, Q_NB309_283, Q_NB284_309, Q_NB309_284, Q_NB285_309, Q_NB309_285, Q_NB286_309, Q_NB309_286, Q_NB301_309, Q_NB309_301, Q_BK308_e7, Q_BK309_e8, Q_X5_, Q_X6_⟩ hb_ hon hoff
         refine ⟨_, rfl, fun K hK => ?_⟩
         have e8 : a.tmps[8]? = some (.pointer (some ⟨gb301, 0, none⟩)) := by rw [ha]; exact (putSel_off rfl).trans rfl
         replace ha := Aside0.mk ha; have BK283 := Aside0.mk Q_BK283; have BK284 := Aside0.mk Q_BK284; have BK285 := Aside0.mk Q_BK285; have BK286 := Aside0.mk Q_BK286; have BK301 := Aside0.mk Q_BK301; have HB := Aside0.mk Q_HB; have hc0_ := cB (x := t287) BK301.out 0; have hc1_ := cB (x := t288) BK301.out 1; have hc2_ := cB (x := t289) BK301.out 2; have hc3_ := cB (x := t290) BK301.out 3; have hc4_ := cB (x := t291) BK301.out 4; have hc5_ := cB (x := t292) BK301.out 5; have hc6_ := cB (x := t293) BK301.out 6; have hc7_ := cB (x := t294) BK301.out 7; have hc8_ := cB (x := t295) BK301.out 8; have hc9_ := cB (x := t296) BK301.out 9; have hc10_ := cB (x := t297) BK301.out 10; have hc11_ := cB (x := t298) BK301.out 11; have hc12_ := cB (x := t299) BK301.out 12
         refine value_ (w1 := w') (v := .agg #[.int .i64 t287, .int .i64 t288, .int .i64 t289, .int .i64 t290, .int .i64 t291, .int .i64 t292, .int .i64 t293, .int .i64 t294, .int .i64 t295, .int .i64 t296, .int .i64 t297, .int .i64 t298, .int .i64 t299]) (by rfl) rfl ?_ ?_
         ·
          go_simp
          (try simp only [i64_w])
          try rfl
         refine hK.out _ _ ⟨gb308, gb309, m5_, m6_, (by rw [ha.out]; exact putSel_upk 0 hb_ rfl rfl rfl), Q_BK283, Q_BK284, Q_BK285, Q_BK286, Q_BK301, Q_HB, Q_NB309_308, Q_NB308_309, Q_BK308, Q_GW308, Q_GE308, Q_NB283_308, Q_NB308_283, Q_NB284_308, Q_NB308_284, Q_NB285_308, Q_NB308_285, Q_NB286_308, Q_NB308_286, Q_NB301_308, Q_NB308_301, Q_BK309, Q_GW309, Q_GE309, Q_NB283_309, Q_NB309_283, Q_NB284_309, Q_NB309_284, Q_NB285_309, Q_NB309_285, Q_NB286_309, Q_NB309_286, Q_NB301_309, Q_NB309_301, offA (hoff 7 (by kernel_rfl)), offA (hoff 8 (by kernel_rfl)), Q_X5_, Q_X6_⟩
        refine steps_cons ?_ ?_
        ·
         rintro b a w' ⟨gb308, gb309, m5_, m6_, ha, Q_BK283, Q_BK284, Q_BK285, Q_BK286, Q_BK301, Q_HB, Q_NB309_308, Q_NB308_309, Q_BK308, Q_GW308, Q_GE308, Q_NB283_308, Q_NB308_283, Q_NB284_308, Q_NB308_284, Q_NB285_308, Q_NB308_285, Q_NB286_308, Q_NB308_286, Q_NB301_308, Q_NB308_301, Q_BK309, Q_GW309, Q_GE309, Q_NB283_309, Q_NB309_283, Q_NB284_309, Q_NB309_284, Q_NB285_309, Q_NB309_285, Q_NB286_309, Q_NB309_286, Q_NB301_309, Q_NB309_301, Q_BK308_e7, Q_BK309_e8, Q_X5_, Q_X6_⟩ hb_ hon hoff
         refine ⟨_, rfl, fun K hK => ?_⟩
         have e4 : a.tmps[4]? = some (.pointer (some ⟨gb284, 0, none⟩)) := by rw [ha]; exact (putSel_off rfl).trans rfl
         replace ha := Aside0.mk ha; have BK283 := Aside0.mk Q_BK283; have BK284 := Aside0.mk Q_BK284; have BK285 := Aside0.mk Q_BK285; have BK286 := Aside0.mk Q_BK286; have BK301 := Aside0.mk Q_BK301; have HB := Aside0.mk Q_HB; have hc0_ := cB (x := a1_0) BK284.out 0; have hc1_ := cB (x := a1_1) BK284.out 1
         refine value_ (w1 := w') (v := .agg #[.int .i64 a1_0, .int .i64 a1_1]) (by rfl) rfl ?_ ?_
         ·
          go_simp
          (try simp only [i64_w])
          try rfl
         refine hK.out _ _ ⟨gb308, gb309, m5_, m6_, (by rw [ha.out]; exact putSel_upk 1 hb_ rfl rfl rfl), Q_BK283, Q_BK284, Q_BK285, Q_BK286, Q_BK301, Q_HB, Q_NB309_308, Q_NB308_309, Q_BK308, Q_GW308, Q_GE308, Q_NB283_308, Q_NB308_283, Q_NB284_308, Q_NB308_284, Q_NB285_308, Q_NB308_285, Q_NB286_308, Q_NB308_286, Q_NB301_308, Q_NB308_301, Q_BK309, Q_GW309, Q_GE309, Q_NB283_309, Q_NB309_283, Q_NB284_309, Q_NB309_284, Q_NB285_309, Q_NB309_285, Q_NB286_309, Q_NB309_286, Q_NB301_309, Q_NB309_301, offA (hoff 7 (by kernel_rfl)), offA (hoff 8 (by kernel_rfl)), Q_X5_, Q_X6_⟩
        refine steps_cons ?_ ?_
        ·
         rintro b a w' ⟨gb308, gb309, m5_, m6_, ha, Q_BK283, Q_BK284, Q_BK285, Q_BK286, Q_BK301, Q_HB, Q_NB309_308, Q_NB308_309, Q_BK308, Q_GW308, Q_GE308, Q_NB283_308, Q_NB308_283, Q_NB284_308, Q_NB308_284, Q_NB285_308, Q_NB308_285, Q_NB286_308, Q_NB308_286, Q_NB301_308, Q_NB308_301, Q_BK309, Q_GW309, Q_GE309, Q_NB283_309, Q_NB309_283, Q_NB284_309, Q_NB309_284, Q_NB285_309, Q_NB309_285, Q_NB286_309, Q_NB309_286, Q_NB301_309, Q_NB309_301, Q_BK308_e7, Q_BK309_e8, Q_X5_, Q_X6_⟩ hb_ hon hoff
         refine ⟨_, rfl, fun K hK => ?_⟩
         have e31 : a.tmps[31]? = some (.agg #[.int .i64 t287, .int .i64 t288, .int .i64 t289, .int .i64 t290, .int .i64 t291, .int .i64 t292, .int .i64 t293, .int .i64 t294, .int .i64 t295, .int .i64 t296, .int .i64 t297, .int .i64 t298, .int .i64 t299]) := by rw [ha]; exact putSel_on (e := (0, 31, .agg #[.int .i64 t287, .int .i64 t288, .int .i64 t289, .int .i64 t290, .int .i64 t291, .int .i64 t292, .int .i64 t293, .int .i64 t294, .int .i64 t295, .int .i64 t296, .int .i64 t297, .int .i64 t298, .int .i64 t299])) 0 rfl rfl (hon 0 (by kernel_rfl)) rfl
         have e32 : a.tmps[32]? = some (.agg #[.int .i64 a1_0, .int .i64 a1_1]) := by rw [ha]; exact putSel_on (e := (1, 32, .agg #[.int .i64 a1_0, .int .i64 a1_1])) 1 rfl rfl (hon 1 (by kernel_rfl)) rfl
         replace ha := Aside0.mk ha; have BK283 := Aside0.mk Q_BK283; have BK284 := Aside0.mk Q_BK284; have BK285 := Aside0.mk Q_BK285; have BK286 := Aside0.mk Q_BK286; have BK301 := Aside0.mk Q_BK301; have HB := Aside0.mk Q_HB
         refine goes_ Try.func132 (by kernel_rfl) rfl #[.agg #[.int .i64 t287, .int .i64 t288, .int .i64 t289, .int .i64 t290, .int .i64 t291, .int .i64 t292, .int .i64 t293, .int .i64 t294, .int .i64 t295, .int .i64 t296, .int .i64 t297, .int .i64 t298, .int .i64 t299], .agg #[.int .i64 a1_0, .int .i64 a1_1]] (by rfl) rfl rfl (by first | (simp only [List.map_toArray, List.map_cons, List.map_nil, Act.eval, Array.getD_eq_getD_getElem?, Option.getD_some, e31, e32]; done) | (simp only [List.map_toArray, List.map_cons, List.map_nil, Act.eval, Array.getD_eq_getD_getElem?, Option.getD_some, e31, e32]; rfl)) ?_
         with_reducible refine (bolt_kind_within.calls t287 t288 t289 t290 t291 t292 t293 t294 t295 t296 t297 t298 t299 a1_0 a1_1 t304 t305 _ A10.out).mono ?_
         rintro e w123 ⟨rfl, hb⟩
         refine ⟨_, rfl, ?_⟩
         have n0_ := Aside0.mk (blk_below (pl BK283.out) hb); have n1_ := Aside0.mk (blk_below (pl BK284.out) hb); have n2_ := Aside0.mk (blk_below (pl BK285.out) hb); have n3_ := Aside0.mk (blk_below (pl BK286.out) hb); have n4_ := Aside0.mk (blk_below (pl BK301.out) hb); have n5_ := Aside0.mk (below_step (hbp HB.out) hb)
         have z_BK308 := fun (h0_ : b 5 = true) (h1_ : b 7 = false) => (show w123.heap[gb308]? = some (.cells #[.int .i64 0, .int .i64 0] 36 (0, 0)) from by first | exact (blk_below (g := gb308) (pl (Q_BK308 h0_ h1_)) hb))
         have z_BK309 := fun (h0_ : b 6 = true) (h1_ : b 8 = false) => (show w123.heap[gb309]? = some (.cells #[.int .i64 0, .int .i64 0] 36 (0, 0)) from by first | exact (blk_below (g := gb309) (pl (Q_BK309 h0_ h1_)) hb))
         clear BK283 BK284 BK285 BK286 BK301 HB; have BK283 := n0_; have BK284 := n1_; have BK285 := n2_; have BK286 := n3_; have BK301 := n4_; have HB := n5_; clear n0_ n1_ n2_ n3_ n4_ n5_; (try clear hb); (try clear hb2); (try clear hk); (try clear hi)
         refine hK.out _ _ ⟨gb308, gb309, m5_, m6_, (by rw [ha.out]; exact putSel_upk 2 hb_ rfl rfl rfl), (pl BK283.out), (pl BK284.out), (pl BK285.out), (pl BK286.out), (pl BK301.out), (hbp HB.out), Q_NB309_308, Q_NB308_309, z_BK308, Q_GW308, Q_GE308, Q_NB283_308, Q_NB308_283, Q_NB284_308, Q_NB308_284, Q_NB285_308, Q_NB308_285, Q_NB286_308, Q_NB308_286, Q_NB301_308, Q_NB308_301, z_BK309, Q_GW309, Q_GE309, Q_NB283_309, Q_NB309_283, Q_NB284_309, Q_NB309_284, Q_NB285_309, Q_NB309_285, Q_NB286_309, Q_NB309_286, Q_NB301_309, Q_NB309_301, offA (hoff 7 (by kernel_rfl)), offA (hoff 8 (by kernel_rfl)), Q_X5_, Q_X6_⟩
        refine steps_cons ?_ ?_
        ·
         rintro b a w' ⟨gb308, gb309, m5_, m6_, ha, Q_BK283, Q_BK284, Q_BK285, Q_BK286, Q_BK301, Q_HB, Q_NB309_308, Q_NB308_309, Q_BK308, Q_GW308, Q_GE308, Q_NB283_308, Q_NB308_283, Q_NB284_308, Q_NB308_284, Q_NB285_308, Q_NB308_285, Q_NB286_308, Q_NB308_286, Q_NB301_308, Q_NB308_301, Q_BK309, Q_GW309, Q_GE309, Q_NB283_309, Q_NB309_283, Q_NB284_309, Q_NB309_284, Q_NB285_309, Q_NB309_285, Q_NB286_309, Q_NB309_286, Q_NB301_309, Q_NB309_301, Q_BK308_e7, Q_BK309_e8, Q_X5_, Q_X6_⟩ hb_ hon hoff
         refine ⟨_, rfl, fun K hK => ?_⟩
         have e8 : a.tmps[8]? = some (.pointer (some ⟨gb301, 0, none⟩)) := by rw [ha]; exact (putSel_off rfl).trans rfl
         replace ha := Aside0.mk ha; have BK283 := Aside0.mk Q_BK283; have BK284 := Aside0.mk Q_BK284; have BK285 := Aside0.mk Q_BK285; have BK286 := Aside0.mk Q_BK286; have BK301 := Aside0.mk Q_BK301; have HB := Aside0.mk Q_HB; have hc0_ := cB (x := t287) BK301.out 0; have hc1_ := cB (x := t288) BK301.out 1; have hc2_ := cB (x := t289) BK301.out 2; have hc3_ := cB (x := t290) BK301.out 3; have hc4_ := cB (x := t291) BK301.out 4; have hc5_ := cB (x := t292) BK301.out 5; have hc6_ := cB (x := t293) BK301.out 6; have hc7_ := cB (x := t294) BK301.out 7; have hc8_ := cB (x := t295) BK301.out 8; have hc9_ := cB (x := t296) BK301.out 9; have hc10_ := cB (x := t297) BK301.out 10; have hc11_ := cB (x := t298) BK301.out 11; have hc12_ := cB (x := t299) BK301.out 12
         refine value_ (w1 := w') (v := .agg #[.int .i64 t287, .int .i64 t288, .int .i64 t289, .int .i64 t290, .int .i64 t291, .int .i64 t292, .int .i64 t293, .int .i64 t294, .int .i64 t295, .int .i64 t296, .int .i64 t297, .int .i64 t298, .int .i64 t299]) (by rfl) rfl ?_ ?_
         ·
          go_simp
          (try simp only [i64_w])
          try rfl
         refine hK.out _ _ ⟨gb308, gb309, m5_, m6_, (by rw [ha.out]; exact putSel_upk 3 hb_ rfl rfl rfl), Q_BK283, Q_BK284, Q_BK285, Q_BK286, Q_BK301, Q_HB, Q_NB309_308, Q_NB308_309, Q_BK308, Q_GW308, Q_GE308, Q_NB283_308, Q_NB308_283, Q_NB284_308, Q_NB308_284, Q_NB285_308, Q_NB308_285, Q_NB286_308, Q_NB308_286, Q_NB301_308, Q_NB308_301, Q_BK309, Q_GW309, Q_GE309, Q_NB283_309, Q_NB309_283, Q_NB284_309, Q_NB309_284, Q_NB285_309, Q_NB309_285, Q_NB286_309, Q_NB309_286, Q_NB301_309, Q_NB309_301, offA (hoff 7 (by kernel_rfl)), offA (hoff 8 (by kernel_rfl)), Q_X5_, Q_X6_⟩
        refine steps_cons ?_ ?_
        ·
         rintro b a w' ⟨gb308, gb309, m5_, m6_, ha, Q_BK283, Q_BK284, Q_BK285, Q_BK286, Q_BK301, Q_HB, Q_NB309_308, Q_NB308_309, Q_BK308, Q_GW308, Q_GE308, Q_NB283_308, Q_NB308_283, Q_NB284_308, Q_NB308_284, Q_NB285_308, Q_NB308_285, Q_NB286_308, Q_NB308_286, Q_NB301_308, Q_NB308_301, Q_BK309, Q_GW309, Q_GE309, Q_NB283_309, Q_NB309_283, Q_NB284_309, Q_NB309_284, Q_NB285_309, Q_NB309_285, Q_NB286_309, Q_NB309_286, Q_NB301_309, Q_NB309_301, Q_BK308_e7, Q_BK309_e8, Q_X5_, Q_X6_⟩ hb_ hon hoff
         refine ⟨_, rfl, fun K hK => ?_⟩
         have e34 : a.tmps[34]? = some (.agg #[.int .i64 t287, .int .i64 t288, .int .i64 t289, .int .i64 t290, .int .i64 t291, .int .i64 t292, .int .i64 t293, .int .i64 t294, .int .i64 t295, .int .i64 t296, .int .i64 t297, .int .i64 t298, .int .i64 t299]) := by rw [ha]; exact putSel_on (e := (3, 34, .agg #[.int .i64 t287, .int .i64 t288, .int .i64 t289, .int .i64 t290, .int .i64 t291, .int .i64 t292, .int .i64 t293, .int .i64 t294, .int .i64 t295, .int .i64 t296, .int .i64 t297, .int .i64 t298, .int .i64 t299])) 3 rfl rfl (hon 3 (by kernel_rfl)) rfl
         replace ha := Aside0.mk ha; have BK283 := Aside0.mk Q_BK283; have BK284 := Aside0.mk Q_BK284; have BK285 := Aside0.mk Q_BK285; have BK286 := Aside0.mk Q_BK286; have BK301 := Aside0.mk Q_BK301; have HB := Aside0.mk Q_HB
         refine goes_ Try.func133 (by kernel_rfl) rfl #[.agg #[.int .i64 t287, .int .i64 t288, .int .i64 t289, .int .i64 t290, .int .i64 t291, .int .i64 t292, .int .i64 t293, .int .i64 t294, .int .i64 t295, .int .i64 t296, .int .i64 t297, .int .i64 t298, .int .i64 t299]] (by rfl) rfl rfl (by first | (simp only [List.map_toArray, List.map_cons, List.map_nil, Act.eval, Array.getD_eq_getD_getElem?, Option.getD_some, e34]; done) | (simp only [List.map_toArray, List.map_cons, List.map_nil, Act.eval, Array.getD_eq_getD_getElem?, Option.getD_some, e34]; rfl)) ?_
         with_reducible refine (bolt_kind_arms.calls t287 t288 t289 t290 t291 t292 t293 t294 t295 t296 t297 t298 t299 t306 t307 _ A11.out).mono ?_
         rintro e w125 ⟨rfl, hb⟩
         refine ⟨_, rfl, ?_⟩
         have n0_ := Aside0.mk (blk_below (pl BK283.out) hb); have n1_ := Aside0.mk (blk_below (pl BK284.out) hb); have n2_ := Aside0.mk (blk_below (pl BK285.out) hb); have n3_ := Aside0.mk (blk_below (pl BK286.out) hb); have n4_ := Aside0.mk (blk_below (pl BK301.out) hb); have n5_ := Aside0.mk (below_step (hbp HB.out) hb)
         have z_BK308 := fun (h0_ : b 5 = true) (h1_ : b 7 = false) => (show w125.heap[gb308]? = some (.cells #[.int .i64 0, .int .i64 0] 36 (0, 0)) from by first | exact (blk_below (g := gb308) (pl (Q_BK308 h0_ h1_)) hb))
         have z_BK309 := fun (h0_ : b 6 = true) (h1_ : b 8 = false) => (show w125.heap[gb309]? = some (.cells #[.int .i64 0, .int .i64 0] 36 (0, 0)) from by first | exact (blk_below (g := gb309) (pl (Q_BK309 h0_ h1_)) hb))
         clear BK283 BK284 BK285 BK286 BK301 HB; have BK283 := n0_; have BK284 := n1_; have BK285 := n2_; have BK286 := n3_; have BK301 := n4_; have HB := n5_; clear n0_ n1_ n2_ n3_ n4_ n5_; (try clear hb); (try clear hb2); (try clear hk); (try clear hi)
         refine hK.out _ _ ⟨gb308, gb309, m5_, m6_, (by rw [ha.out]; exact putSel_upk 4 hb_ rfl rfl rfl), (pl BK283.out), (pl BK284.out), (pl BK285.out), (pl BK286.out), (pl BK301.out), (hbp HB.out), Q_NB309_308, Q_NB308_309, z_BK308, Q_GW308, Q_GE308, Q_NB283_308, Q_NB308_283, Q_NB284_308, Q_NB308_284, Q_NB285_308, Q_NB308_285, Q_NB286_308, Q_NB308_286, Q_NB301_308, Q_NB308_301, z_BK309, Q_GW309, Q_GE309, Q_NB283_309, Q_NB309_283, Q_NB284_309, Q_NB309_284, Q_NB285_309, Q_NB309_285, Q_NB286_309, Q_NB309_286, Q_NB301_309, Q_NB309_301, offA (hoff 7 (by kernel_rfl)), offA (hoff 8 (by kernel_rfl)), Q_X5_, Q_X6_⟩
        refine steps_cons ?_ ?_
        ·
         rintro b a w' ⟨gb308, gb309, m5_, m6_, ha, Q_BK283, Q_BK284, Q_BK285, Q_BK286, Q_BK301, Q_HB, Q_NB309_308, Q_NB308_309, Q_BK308, Q_GW308, Q_GE308, Q_NB283_308, Q_NB308_283, Q_NB284_308, Q_NB308_284, Q_NB285_308, Q_NB308_285, Q_NB286_308, Q_NB308_286, Q_NB301_308, Q_NB308_301, Q_BK309, Q_GW309, Q_GE309, Q_NB283_309, Q_NB309_283, Q_NB284_309, Q_NB309_284, Q_NB285_309, Q_NB309_285, Q_NB286_309, Q_NB309_286, Q_NB301_309, Q_NB309_301, Q_BK308_e7, Q_BK309_e8, Q_X5_, Q_X6_⟩ hb_ hon hoff
         refine ⟨_, rfl, fun K hK => ?_⟩
         replace ha := Aside0.mk ha; have BK283 := Aside0.mk Q_BK283; have BK284 := Aside0.mk Q_BK284; have BK285 := Aside0.mk Q_BK285; have BK286 := Aside0.mk Q_BK286; have BK301 := Aside0.mk Q_BK301; have HB := Aside0.mk Q_HB
         refine box_step ?hg (N := 9) ?hd (cs := #[.int .i64 0, .int .i64 0]) (t := 36) ?hr ?_; (case hd => rfl); (case hg => rfl); (case hr => first | (go_simp; done) | (go_simp; rfl))
         intro gb308 hg w123 hbox hb
         have n0_ := Aside0.mk (blk_below (pl BK283.out) hb); have n1_ := Aside0.mk (blk_below (pl BK284.out) hb); have n2_ := Aside0.mk (blk_below (pl BK285.out) hb); have n3_ := Aside0.mk (blk_below (pl BK286.out) hb); have n4_ := Aside0.mk (blk_below (pl BK301.out) hb); have n5_ := Aside0.mk (below_step (hbp HB.out) hb); have n6_ := Aside0.mk (hbox); have n7_ := Aside0.mk (geB hg (hbp HB.out)); have n8_ := Aside0.mk (geB hg (hbp HB.out)); have n9_ := Aside0.mk (ltB hg (pl BK283.out)); have n10_ := Aside0.mk (gtB hg (pl BK283.out)); have n11_ := Aside0.mk (ltB hg (pl BK284.out)); have n12_ := Aside0.mk (gtB hg (pl BK284.out)); have n13_ := Aside0.mk (ltB hg (pl BK285.out)); have n14_ := Aside0.mk (gtB hg (pl BK285.out)); have n15_ := Aside0.mk (ltB hg (pl BK286.out)); have n16_ := Aside0.mk (gtB hg (pl BK286.out)); have n17_ := Aside0.mk (ltB hg (pl BK301.out)); have n18_ := Aside0.mk (gtB hg (pl BK301.out))
         have z_NB309_308 := fun (h0_ : up b 5 5 = true) (h1_ : up b 5 6 = true) => (show gb309 ≠ gb308 from (by cases hq_ : b 8 with | false => exact ((by rw [hg]; exact Nat.ne_of_lt (blk_lt (g := gb309) (pl (Q_BK309 h1_ hq_))) : gb309 ≠ gb308)) | true => exact ((by rw [hg]; exact Nat.ne_of_lt (blk_lt (g := gb309) (pl (Q_BK309_e8 hq_))) : gb309 ≠ gb308))))
         have z_NB308_309 := fun (h0_ : up b 5 5 = true) (h1_ : up b 5 6 = true) => (show gb308 ≠ gb309 from (by cases hq_ : b 8 with | false => exact ((by rw [hg]; exact Nat.ne_of_gt (blk_lt (g := gb309) (pl (Q_BK309 h1_ hq_))) : gb308 ≠ gb309)) | true => exact ((by rw [hg]; exact Nat.ne_of_gt (blk_lt (g := gb309) (pl (Q_BK309_e8 hq_))) : gb308 ≠ gb309))))
         have z_BK309 := fun (h0_ : b 6 = true) (h1_ : b 8 = false) => (show w123.heap[gb309]? = some (.cells #[.int .i64 0, .int .i64 0] 36 (0, 0)) from by first | exact (blk_below (g := gb309) (pl (Q_BK309 h0_ h1_)) hb))
         clear BK283 BK284 BK285 BK286 BK301 HB; have BK283 := n0_; have BK284 := n1_; have BK285 := n2_; have BK286 := n3_; have BK301 := n4_; have HB := n5_; have BK308 := n6_; have GW308 := n7_; have GE308 := n8_; have NB283_308 := n9_; have NB308_283 := n10_; have NB284_308 := n11_; have NB308_284 := n12_; have NB285_308 := n13_; have NB308_285 := n14_; have NB286_308 := n15_; have NB308_286 := n16_; have NB301_308 := n17_; have NB308_301 := n18_; clear n0_ n1_ n2_ n3_ n4_ n5_ n6_ n7_ n8_ n9_ n10_ n11_ n12_ n13_ n14_ n15_ n16_ n17_ n18_ hb hbox hg
         refine hK.out _ _ ⟨gb308, gb309, (.pointer (some ⟨gb308, 0, none⟩)), m6_, (by rw [ha.out]; exact putSel_upk 5 hb_ rfl rfl rfl), (pl BK283.out), (pl BK284.out), (pl BK285.out), (pl BK286.out), (pl BK301.out), (hbp HB.out), z_NB309_308, z_NB308_309, fun _ _ => (pl BK308.out), fun _ => GW308.out, fun _ => GE308.out, fun _ => NB283_308.out, fun _ => NB308_283.out, fun _ => NB284_308.out, fun _ => NB308_284.out, fun _ => NB285_308.out, fun _ => NB308_285.out, fun _ => NB286_308.out, fun _ => NB308_286.out, fun _ => NB301_308.out, fun _ => NB308_301.out, z_BK309, Q_GW309, Q_GE309, Q_NB283_309, Q_NB309_283, Q_NB284_309, Q_NB309_284, Q_NB285_309, Q_NB309_285, Q_NB286_309, Q_NB309_286, Q_NB301_309, Q_NB309_301, offA (hoff 7 (by kernel_rfl)), offA (hoff 8 (by kernel_rfl)), fun _ => rfl, Q_X6_⟩
        refine steps_cons ?_ ?_
        ·
         rintro b a w' ⟨gb308, gb309, m5_, m6_, ha, Q_BK283, Q_BK284, Q_BK285, Q_BK286, Q_BK301, Q_HB, Q_NB309_308, Q_NB308_309, Q_BK308, Q_GW308, Q_GE308, Q_NB283_308, Q_NB308_283, Q_NB284_308, Q_NB308_284, Q_NB285_308, Q_NB308_285, Q_NB286_308, Q_NB308_286, Q_NB301_308, Q_NB308_301, Q_BK309, Q_GW309, Q_GE309, Q_NB283_309, Q_NB309_283, Q_NB284_309, Q_NB309_284, Q_NB285_309, Q_NB309_285, Q_NB286_309, Q_NB309_286, Q_NB301_309, Q_NB309_301, Q_BK308_e7, Q_BK309_e8, Q_X5_, Q_X6_⟩ hb_ hon hoff
         refine ⟨_, rfl, fun K hK => ?_⟩
         replace ha := Aside0.mk ha; have BK283 := Aside0.mk Q_BK283; have BK284 := Aside0.mk Q_BK284; have BK285 := Aside0.mk Q_BK285; have BK286 := Aside0.mk Q_BK286; have BK301 := Aside0.mk Q_BK301; have HB := Aside0.mk Q_HB
         refine box_step ?hg (N := 10) ?hd (cs := #[.int .i64 0, .int .i64 0]) (t := 36) ?hr ?_; (case hd => rfl); (case hg => rfl); (case hr => first | (go_simp; done) | (go_simp; rfl))
         intro gb309 hg w123 hbox hb
         have n0_ := Aside0.mk (blk_below (pl BK283.out) hb); have n1_ := Aside0.mk (blk_below (pl BK284.out) hb); have n2_ := Aside0.mk (blk_below (pl BK285.out) hb); have n3_ := Aside0.mk (blk_below (pl BK286.out) hb); have n4_ := Aside0.mk (blk_below (pl BK301.out) hb); have n5_ := Aside0.mk (below_step (hbp HB.out) hb); have n6_ := Aside0.mk (hbox); have n7_ := Aside0.mk (geB hg (hbp HB.out)); have n8_ := Aside0.mk (geB hg (hbp HB.out)); have n9_ := Aside0.mk (ltB hg (pl BK283.out)); have n10_ := Aside0.mk (gtB hg (pl BK283.out)); have n11_ := Aside0.mk (ltB hg (pl BK284.out)); have n12_ := Aside0.mk (gtB hg (pl BK284.out)); have n13_ := Aside0.mk (ltB hg (pl BK285.out)); have n14_ := Aside0.mk (gtB hg (pl BK285.out)); have n15_ := Aside0.mk (ltB hg (pl BK286.out)); have n16_ := Aside0.mk (gtB hg (pl BK286.out)); have n17_ := Aside0.mk (ltB hg (pl BK301.out)); have n18_ := Aside0.mk (gtB hg (pl BK301.out))
         have z_NB309_308 := fun (h0_ : up b 6 5 = true) (h1_ : up b 6 6 = true) => (show gb309 ≠ gb308 from (by cases hq_ : b 7 with | false => exact ((by rw [hg]; exact Nat.ne_of_gt (blk_lt (g := gb308) (pl (Q_BK308 h0_ hq_))) : gb309 ≠ gb308)) | true => exact ((by rw [hg]; exact Nat.ne_of_gt (blk_lt (g := gb308) (pl (Q_BK308_e7 hq_))) : gb309 ≠ gb308))))
         have z_NB308_309 := fun (h0_ : up b 6 5 = true) (h1_ : up b 6 6 = true) => (show gb308 ≠ gb309 from (by cases hq_ : b 7 with | false => exact ((by rw [hg]; exact Nat.ne_of_lt (blk_lt (g := gb308) (pl (Q_BK308 h0_ hq_))) : gb308 ≠ gb309)) | true => exact ((by rw [hg]; exact Nat.ne_of_lt (blk_lt (g := gb308) (pl (Q_BK308_e7 hq_))) : gb308 ≠ gb309))))
         have z_BK308 := fun (h0_ : b 5 = true) (h1_ : b 7 = false) => (show w123.heap[gb308]? = some (.cells #[.int .i64 0, .int .i64 0] 36 (0, 0)) from by first | exact (blk_below (g := gb308) (pl (Q_BK308 h0_ h1_)) hb))
         clear BK283 BK284 BK285 BK286 BK301 HB; have BK283 := n0_; have BK284 := n1_; have BK285 := n2_; have BK286 := n3_; have BK301 := n4_; have HB := n5_; have BK309 := n6_; have GW309 := n7_; have GE309 := n8_; have NB283_309 := n9_; have NB309_283 := n10_; have NB284_309 := n11_; have NB309_284 := n12_; have NB285_309 := n13_; have NB309_285 := n14_; have NB286_309 := n15_; have NB309_286 := n16_; have NB301_309 := n17_; have NB309_301 := n18_; clear n0_ n1_ n2_ n3_ n4_ n5_ n6_ n7_ n8_ n9_ n10_ n11_ n12_ n13_ n14_ n15_ n16_ n17_ n18_ hb hbox hg
         refine hK.out _ _ ⟨gb308, gb309, m5_, (.pointer (some ⟨gb309, 0, none⟩)), (by rw [ha.out]; exact putSel_upk 6 hb_ rfl rfl rfl), (pl BK283.out), (pl BK284.out), (pl BK285.out), (pl BK286.out), (pl BK301.out), (hbp HB.out), z_NB309_308, z_NB308_309, z_BK308, Q_GW308, Q_GE308, Q_NB283_308, Q_NB308_283, Q_NB284_308, Q_NB308_284, Q_NB285_308, Q_NB308_285, Q_NB286_308, Q_NB308_286, Q_NB301_308, Q_NB308_301, fun _ _ => (pl BK309.out), fun _ => GW309.out, fun _ => GE309.out, fun _ => NB283_309.out, fun _ => NB309_283.out, fun _ => NB284_309.out, fun _ => NB309_284.out, fun _ => NB285_309.out, fun _ => NB309_285.out, fun _ => NB286_309.out, fun _ => NB309_286.out, fun _ => NB301_309.out, fun _ => NB309_301.out, offA (hoff 7 (by kernel_rfl)), offA (hoff 8 (by kernel_rfl)), Q_X5_, fun _ => rfl⟩
        refine steps_cons ?_ ?_
        ·
         rintro b a w' ⟨gb308, gb309, m5_, m6_, ha, Q_BK283, Q_BK284, Q_BK285, Q_BK286, Q_BK301, Q_HB, Q_NB309_308, Q_NB308_309, Q_BK308, Q_GW308, Q_GE308, Q_NB283_308, Q_NB308_283, Q_NB284_308, Q_NB308_284, Q_NB285_308, Q_NB308_285, Q_NB286_308, Q_NB308_286, Q_NB301_308, Q_NB308_301, Q_BK309, Q_GW309, Q_GE309, Q_NB283_309, Q_NB309_283, Q_NB284_309, Q_NB309_284, Q_NB285_309, Q_NB309_285, Q_NB286_309, Q_NB309_286, Q_NB301_309, Q_NB309_301, Q_BK308_e7, Q_BK309_e8, Q_X5_, Q_X6_⟩ hb_ hon hoff
         refine ⟨_, rfl, fun K hK => ?_⟩
         have e9 : a.tmps[9]? = some (m5_) := by rw [ha]; exact putSel_on (e := (5, 9, m5_)) 5 rfl rfl (hon 5 (by kernel_rfl)) rfl
         rw [Q_X5_ (hon 5 (by kernel_rfl))] at e9
         have e33 : a.tmps[33]? = some (.agg #[.int .i64 t304, .int .i64 t305]) := by rw [ha]; exact putSel_on (e := (2, 33, .agg #[.int .i64 t304, .int .i64 t305])) 2 rfl rfl (hon 2 (by kernel_rfl)) rfl
         replace ha := Aside0.mk ha; have BK283 := Aside0.mk Q_BK283; have BK284 := Aside0.mk Q_BK284; have BK285 := Aside0.mk Q_BK285; have BK286 := Aside0.mk Q_BK286; have BK301 := Aside0.mk Q_BK301; have HB := Aside0.mk Q_HB; have NB309_308 := Aside0.mk (Q_NB309_308 (hon 5 (by kernel_rfl)) (hon 6 (by kernel_rfl))); have NB308_309 := Aside0.mk (Q_NB308_309 (hon 5 (by kernel_rfl)) (hon 6 (by kernel_rfl))); have BK308 := Aside0.mk (Q_BK308 (hon 5 (by kernel_rfl)) hb_); have GW308 := Aside0.mk (Q_GW308 (hon 5 (by kernel_rfl))); have GE308 := Aside0.mk (Q_GE308 (hon 5 (by kernel_rfl))); have NB283_308 := Aside0.mk (Q_NB283_308 (hon 5 (by kernel_rfl))); have NB308_283 := Aside0.mk (Q_NB308_283 (hon 5 (by kernel_rfl))); have NB284_308 := Aside0.mk (Q_NB284_308 (hon 5 (by kernel_rfl))); have NB308_284 := Aside0.mk (Q_NB308_284 (hon 5 (by kernel_rfl))); have NB285_308 := Aside0.mk (Q_NB285_308 (hon 5 (by kernel_rfl))); have NB308_285 := Aside0.mk (Q_NB308_285 (hon 5 (by kernel_rfl))); have NB286_308 := Aside0.mk (Q_NB286_308 (hon 5 (by kernel_rfl))); have NB308_286 := Aside0.mk (Q_NB308_286 (hon 5 (by kernel_rfl))); have NB301_308 := Aside0.mk (Q_NB301_308 (hon 5 (by kernel_rfl))); have NB308_301 := Aside0.mk (Q_NB308_301 (hon 5 (by kernel_rfl))); have BK309 := Aside0.mk (Q_BK309 (hon 6 (by kernel_rfl)) (hoff 8 (by kernel_rfl))); have GW309 := Aside0.mk (Q_GW309 (hon 6 (by kernel_rfl))); have GE309 := Aside0.mk (Q_GE309 (hon 6 (by kernel_rfl))); have NB283_309 := Aside0.mk (Q_NB283_309 (hon 6 (by kernel_rfl))); have NB309_283 := Aside0.mk (Q_NB309_283 (hon 6 (by kernel_rfl))); have NB284_309 := Aside0.mk (Q_NB284_309 (hon 6 (by kernel_rfl))); have NB309_284 := Aside0.mk (Q_NB309_284 (hon 6 (by kernel_rfl))); have NB285_309 := Aside0.mk (Q_NB285_309 (hon 6 (by kernel_rfl))); have NB309_285 := Aside0.mk (Q_NB309_285 (hon 6 (by kernel_rfl))); have NB286_309 := Aside0.mk (Q_NB286_309 (hon 6 (by kernel_rfl))); have NB309_286 := Aside0.mk (Q_NB309_286 (hon 6 (by kernel_rfl))); have NB301_309 := Aside0.mk (Q_NB301_309 (hon 6 (by kernel_rfl))); have NB309_301 := Aside0.mk (Q_NB309_301 (hon 6 (by kernel_rfl))); have hs128 := cB (x := 0) BK308.out 0; have hfs128 := blk_frozen BK308.out 0; have hns128_0 := NB283_308.out; have hns128_1 := NB284_308.out; have hns128_2 := NB285_308.out; have hns128_3 := NB286_308.out; have hns128_4 := NB301_308.out; have hns128_6 := NB309_308.out; have hms128_0 := NB308_283.out; have hms128_1 := NB308_284.out; have hms128_2 := NB308_285.out; have hms128_3 := NB308_286.out; have hms128_4 := NB308_301.out; have hms128_6 := NB308_309.out; have hs129 := cB (x := 0) BK308.out 1; have hfs129 := blk_frozen BK308.out 1; have hns129_0 := NB283_308.out; have hns129_1 := NB284_308.out; have hns129_2 := NB285_308.out; have hns129_3 := NB286_308.out; have hns129_4 := NB301_308.out; have hns129_6 := NB309_308.out; have hms129_0 := NB308_283.out; have hms129_1 := NB308_284.out; have hms129_2 := NB308_285.out; have hms129_3 := NB308_286.out; have hms129_4 := NB308_301.out; have hms129_6 := NB308_309.out
         refine skip_ (w1 := ?_) (by rfl) rfl ?_ ?_
         rotate_left
         ·
          go_simp
          rfl
         refine hK.out _ _ ⟨gb308, gb309, m5_, m6_, (by rw [ha.out]; exact putSel_none (v := undef) rfl), (plf BK283.out), (plf BK284.out), (plf BK285.out), (plf BK286.out), (plf BK301.out), (hbp HB.out), fun _ _ => NB309_308.out, fun _ _ => NB308_309.out, fun _ h1_ => absurd ((up_self b 7).symm.trans h1_) (by decide), fun _ => GW308.out, fun _ => GE308.out, fun _ => NB283_308.out, fun _ => NB308_283.out, fun _ => NB284_308.out, fun _ => NB308_284.out, fun _ => NB285_308.out, fun _ => NB308_285.out, fun _ => NB286_308.out, fun _ => NB308_286.out, fun _ => NB301_308.out, fun _ => NB308_301.out, fun _ _ => (plf BK309.out), fun _ => GW309.out, fun _ => GE309.out, fun _ => NB283_309.out, fun _ => NB309_283.out, fun _ => NB284_309.out, fun _ => NB309_284.out, fun _ => NB285_309.out, fun _ => NB309_285.out, fun _ => NB286_309.out, fun _ => NB309_286.out, fun _ => NB301_309.out, fun _ => NB309_301.out, fun _ => (by refine pl ?_; refine blk_put (cs := #[.int .i64 t304, .int .i64 0]) ?_ 1 _ rfl; refine pl ?_; refine blk_put (cs := #[.int .i64 0, .int .i64 0]) ?_ 0 _ rfl; refine pl ?_; exact BK308.out), offA (hoff 8 (by kernel_rfl)), Q_X5_, Q_X6_⟩
        refine steps_cons ?_ ?_
        ·
         rintro b a w' ⟨gb308, gb309, m5_, m6_, ha, Q_BK283, Q_BK284, Q_BK285, Q_BK286, Q_BK301, Q_HB, Q_NB309_308, Q_NB308_309, Q_BK308, Q_GW308, Q_GE308, Q_NB283_308, Q_NB308_283, Q_NB284_308, Q_NB308_284, Q_NB285_308, Q_NB308_285, Q_NB286_308, Q_NB308_286, Q_NB301_308, Q_NB308_301, Q_BK309, Q_GW309, Q_GE309, Q_NB283_309, Q_NB309_283, Q_NB284_309, Q_NB309_284, Q_NB285_309, Q_NB309_285, Q_NB286_309, Q_NB309_286, Q_NB301_309, Q_NB309_301, Q_BK308_e7, Q_BK309_e8, Q_X5_, Q_X6_⟩ hb_ hon hoff
         refine ⟨_, rfl, fun K hK => ?_⟩
         have e10 : a.tmps[10]? = some (m6_) := by rw [ha]; exact putSel_on (e := (6, 10, m6_)) 6 rfl rfl (hon 6 (by kernel_rfl)) rfl
         rw [Q_X6_ (hon 6 (by kernel_rfl))] at e10
         have e35 : a.tmps[35]? = some (.agg #[.int .i64 t306, .int .i64 t307]) := by rw [ha]; exact putSel_on (e := (4, 35, .agg #[.int .i64 t306, .int .i64 t307])) 4 rfl rfl (hon 4 (by kernel_rfl)) rfl
         replace ha := Aside0.mk ha; have BK283 := Aside0.mk Q_BK283; have BK284 := Aside0.mk Q_BK284; have BK285 := Aside0.mk Q_BK285; have BK286 := Aside0.mk Q_BK286; have BK301 := Aside0.mk Q_BK301; have HB := Aside0.mk Q_HB; have NB309_308 := Aside0.mk (Q_NB309_308 (hon 5 (by kernel_rfl)) (hon 6 (by kernel_rfl))); have NB308_309 := Aside0.mk (Q_NB308_309 (hon 5 (by kernel_rfl)) (hon 6 (by kernel_rfl))); have GW308 := Aside0.mk (Q_GW308 (hon 5 (by kernel_rfl))); have GE308 := Aside0.mk (Q_GE308 (hon 5 (by kernel_rfl))); have NB283_308 := Aside0.mk (Q_NB283_308 (hon 5 (by kernel_rfl))); have NB308_283 := Aside0.mk (Q_NB308_283 (hon 5 (by kernel_rfl))); have NB284_308 := Aside0.mk (Q_NB284_308 (hon 5 (by kernel_rfl))); have NB308_284 := Aside0.mk (Q_NB308_284 (hon 5 (by kernel_rfl))); have NB285_308 := Aside0.mk (Q_NB285_308 (hon 5 (by kernel_rfl))); have NB308_285 := Aside0.mk (Q_NB308_285 (hon 5 (by kernel_rfl))); have NB286_308 := Aside0.mk (Q_NB286_308 (hon 5 (by kernel_rfl))); have NB308_286 := Aside0.mk (Q_NB308_286 (hon 5 (by kernel_rfl))); have NB301_308 := Aside0.mk (Q_NB301_308 (hon 5 (by kernel_rfl))); have NB308_301 := Aside0.mk (Q_NB308_301 (hon 5 (by kernel_rfl))); have BK309 := Aside0.mk (Q_BK309 (hon 6 (by kernel_rfl)) hb_); have GW309 := Aside0.mk (Q_GW309 (hon 6 (by kernel_rfl))); have GE309 := Aside0.mk (Q_GE309 (hon 6 (by kernel_rfl))); have NB283_309 := Aside0.mk (Q_NB283_309 (hon 6 (by kernel_rfl))); have NB309_283 := Aside0.mk (Q_NB309_283 (hon 6 (by kernel_rfl))); have NB284_309 := Aside0.mk (Q_NB284_309 (hon 6 (by kernel_rfl))); have NB309_284 := Aside0.mk (Q_NB309_284 (hon 6 (by kernel_rfl))); have NB285_309 := Aside0.mk (Q_NB285_309 (hon 6 (by kernel_rfl))); have NB309_285 := Aside0.mk (Q_NB309_285 (hon 6 (by kernel_rfl))); have NB286_309 := Aside0.mk (Q_NB286_309 (hon 6 (by kernel_rfl))); have NB309_286 := Aside0.mk (Q_NB309_286 (hon 6 (by kernel_rfl))); have NB301_309 := Aside0.mk (Q_NB301_309 (hon 6 (by kernel_rfl))); have NB309_301 := Aside0.mk (Q_NB309_301 (hon 6 (by kernel_rfl))); have BK308 := Aside0.mk (Q_BK308_e7 (hon 7 (by kernel_rfl))); have hs130 := cB (x := 0) BK309.out 0; have hfs130 := blk_frozen BK309.out 0; have hns130_0 := NB283_309.out; have hns130_1 := NB284_309.out; have hns130_2 := NB285_309.out; have hns130_3 := NB286_309.out; have hns130_4 := NB301_309.out; have hns130_5 := NB308_309.out; have hms130_0 := NB309_283.out; have hms130_1 := NB309_284.out; have hms130_2 := NB309_285.out; have hms130_3 := NB309_286.out; have hms130_4 := NB309_301.out; have hms130_5 := NB309_308.out; have hs131 := cB (x := 0) BK309.out 1; have hfs131 := blk_frozen BK309.out 1; have hns131_0 := NB283_309.out; have hns131_1 := NB284_309.out; have hns131_2 := NB285_309.out; have hns131_3 := NB286_309.out; have hns131_4 := NB301_309.out; have hns131_5 := NB308_309.out; have hms131_0 := NB309_283.out; have hms131_1 := NB309_284.out; have hms131_2 := NB309_285.out; have hms131_3 := NB309_286.out; have hms131_4 := NB309_301.out; have hms131_5 := NB309_308.out
         refine skip_ (w1 := ?_) (by rfl) rfl ?_ ?_
         rotate_left
         ·
          go_simp
          rfl
         refine hK.out _ _ ⟨gb308, gb309, m5_, m6_, (by rw [ha.out]; exact putSel_none (v := undef) rfl), (plf BK283.out), (plf BK284.out), (plf BK285.out), (plf BK286.out), (plf BK301.out), (hbp HB.out), fun _ _ => NB309_308.out, fun _ _ => NB308_309.out, fun _ h1_ => absurd ((hon 7 (by kernel_rfl)).symm.trans h1_) (by decide), fun _ => GW308.out, fun _ => GE308.out, fun _ => NB283_308.out, fun _ => NB308_283.out, fun _ => NB284_308.out, fun _ => NB308_284.out, fun _ => NB285_308.out, fun _ => NB308_285.out, fun _ => NB286_308.out, fun _ => NB308_286.out, fun _ => NB301_308.out, fun _ => NB308_301.out, fun _ h1_ => absurd ((up_self b 8).symm.trans h1_) (by decide), fun _ => GW309.out, fun _ => GE309.out, fun _ => NB283_309.out, fun _ => NB309_283.out, fun _ => NB284_309.out, fun _ => NB309_284.out, fun _ => NB285_309.out, fun _ => NB309_285.out, fun _ => NB286_309.out, fun _ => NB309_286.out, fun _ => NB301_309.out, fun _ => NB309_301.out, fun _ => (plf BK308.out), fun _ => (by refine pl ?_; refine blk_put (cs := #[.int .i64 t306, .int .i64 0]) ?_ 1 _ rfl; refine pl ?_; refine blk_put (cs := #[.int .i64 0, .int .i64 0]) ?_ 0 _ rfl; refine pl ?_; exact BK309.out), Q_X5_, Q_X6_⟩
        exact steps_nil
       rintro b a w131 hall ⟨gb308, gb309, m5_, m6_, ha, Q_BK283, Q_BK284, Q_BK285, Q_BK286, Q_BK301, Q_HB, Q_NB309_308, Q_NB308_309, Q_BK308, Q_GW308, Q_GE308, Q_NB283_308, Q_NB308_283, Q_NB284_308, Q_NB308_284, Q_NB285_308, Q_NB308_285, Q_NB286_308, Q_NB308_286, Q_NB301_308, Q_NB308_301, Q_BK309, Q_GW309, Q_GE309, Q_NB283_309, Q_NB309_283, Q_NB284_309, Q_NB309_284, Q_NB285_309, Q_NB309_285, Q_NB286_309, Q_NB309_286, Q_NB301_309, Q_NB309_301, Q_BK308_e7, Q_BK309_e8, Q_X5_, Q_X6_⟩
       clear BK283 BK284 BK285 BK286 BK301 HB
       have hb0_ := hall 0 (by kernel_rfl); have hb1_ := hall 1 (by kernel_rfl); have hb2_ := hall 2 (by kernel_rfl); have hb3_ := hall 3 (by kernel_rfl); have hb4_ := hall 4 (by kernel_rfl); have hb5_ := hall 5 (by kernel_rfl); have hb6_ := hall 6 (by kernel_rfl); have hb7_ := hall 7 (by kernel_rfl); have hb8_ := hall 8 (by kernel_rfl)
       subst ha
       obtain rfl := Q_X5_ hb5_
       obtain rfl := Q_X6_ hb6_
       simp only [putSel, hb0_, hb1_, hb2_, hb3_, hb4_, hb5_, hb6_, hb7_, hb8_, if_true, Act.put, List.setIfInBounds_toArray, List.set_cons_zero, List.set_cons_succ]
       have BK283 := Aside0.mk Q_BK283
       clear Q_BK283
       have BK284 := Aside0.mk Q_BK284
       clear Q_BK284
       have BK285 := Aside0.mk Q_BK285
       clear Q_BK285
       have BK286 := Aside0.mk Q_BK286
       clear Q_BK286
       have BK301 := Aside0.mk Q_BK301
       clear Q_BK301
       have HB := Aside0.mk Q_HB
       clear Q_HB
       have NB309_308 := Aside0.mk (Q_NB309_308 hb5_ hb6_)
       clear Q_NB309_308
       have NB308_309 := Aside0.mk (Q_NB308_309 hb5_ hb6_)
       clear Q_NB308_309 Q_BK308
       have GW308 := Aside0.mk (Q_GW308 hb5_)
       clear Q_GW308
       have GE308 := Aside0.mk (Q_GE308 hb5_)
       clear Q_GE308
       have NB283_308 := Aside0.mk (Q_NB283_308 hb5_)
       clear Q_NB283_308
       have NB308_283 := Aside0.mk (Q_NB308_283 hb5_)
       clear Q_NB308_283
       have NB284_308 := Aside0.mk (Q_NB284_308 hb5_)
       clear Q_NB284_308
       have NB308_284 := Aside0.mk (Q_NB308_284 hb5_)
       clear Q_NB308_284
       have NB285_308 := Aside0.mk (Q_NB285_308 hb5_)
       clear Q_NB285_308
       have NB308_285 := Aside0.mk (Q_NB308_285 hb5_)
       clear Q_NB308_285
       have NB286_308 := Aside0.mk (Q_NB286_308 hb5_)
       clear Q_NB286_308
       have NB308_286 := Aside0.mk (Q_NB308_286 hb5_)
       clear Q_NB308_286
       have NB301_308 := Aside0.mk (Q_NB301_308 hb5_)
       clear Q_NB301_308
       have NB308_301 := Aside0.mk (Q_NB308_301 hb5_)
       clear Q_NB308_301 Q_BK309
       have GW309 := Aside0.mk (Q_GW309 hb6_)
       clear Q_GW309
       have GE309 := Aside0.mk (Q_GE309 hb6_)
       clear Q_GE309
       have NB283_309 := Aside0.mk (Q_NB283_309 hb6_)
       clear Q_NB283_309
       have NB309_283 := Aside0.mk (Q_NB309_283 hb6_)
       clear Q_NB309_283
       have NB284_309 := Aside0.mk (Q_NB284_309 hb6_)
       clear Q_NB284_309
       have NB309_284 := Aside0.mk (Q_NB309_284 hb6_)
       clear Q_NB309_284
       have NB285_309 := Aside0.mk (Q_NB285_309 hb6_)
       clear Q_NB285_309
       have NB309_285 := Aside0.mk (Q_NB309_285 hb6_)
       clear Q_NB309_285
       have NB286_309 := Aside0.mk (Q_NB286_309 hb6_)
       clear Q_NB286_309
       have NB309_286 := Aside0.mk (Q_NB309_286 hb6_)
       clear Q_NB309_286
       have NB301_309 := Aside0.mk (Q_NB301_309 hb6_)
       clear Q_NB301_309
       have NB309_301 := Aside0.mk (Q_NB309_301 hb6_)
       clear Q_NB309_301
       have BK308 := Aside0.mk (Q_BK308_e7 hb7_)
       clear Q_BK308_e7
       have BK309 := Aside0.mk (Q_BK309_e8 hb8_)
       clear Q_BK309_e8 hall hb0_ hb1_ hb2_ hb3_ hb4_ hb5_ hb6_ hb7_ hb8_
       try go_wp2
       replace BK283 := Aside0.mk (blk_drew BK283.out); replace BK284 := Aside0.mk (blk_drew BK284.out); replace BK285 := Aside0.mk (blk_drew BK285.out); replace BK286 := Aside0.mk (blk_drew BK286.out); replace BK301 := Aside0.mk (blk_drew BK301.out); replace BK308 := Aside0.mk (blk_drew BK308.out); replace BK309 := Aside0.mk (blk_drew BK309.out); replace HB := Aside0.mk (below_drew1 HB.out)
       refine start_ (n := 16) (S := fun w' => w'.cell? ⟨gb308, 0, none⟩ = some (.int .i64 t304) ∧ w'.cell? ⟨gb308, 1, none⟩ = some (.int .i64 t305) ∧ w'.cell? ⟨gb309, 0, none⟩ = some (.int .i64 t306) ∧ w'.cell? ⟨gb309, 1, none⟩ = some (.int .i64 t307)) (ds := []) #[false, false, false, false, false, false, false, false, false, false, false, false, false, false, false, false] (by kernel_rfl) rfl rfl ⟨(blk_cell BK308.out 0).trans rfl, (blk_cell BK308.out 1).trans rfl, (blk_cell BK309.out 0).trans rfl, (blk_cell BK309.out 1).trans rfl⟩ (fun hHeld => ?_); refine with_tabW bolt_Right.tab2_8 bolt_Right.bits2_8 (fun HT_ HW_ => ?_)
       generalize w131.drew = w132 at BK283 BK284 BK285 BK286 BK301 BK308 BK309 HB hHeld ⊢
       refine pure_ (i := 0) (N := some 36) (v := ?_) (a' := ?_) #[true, false, false, false, false, false, false, false, false, false, false, false, false, false, false, false] rfl rfl (any_of HT_.out (by kernel_rfl)) (fun _ _ _ h => h) (Or.inl ⟨by rfl, ?_⟩) ?_ ?_
       rotate_left
       ·
        intro w'
        go_simp
        with_reducible rfl
       rotate_left
       ·
        simp only [Act.put, List.setIfInBounds_toArray, List.set_cons_zero, List.set_cons_succ, i64_w, i32_w]
        rfl
       refine pure_ (i := 2) (N := some 38) (v := ?_) (a' := ?_) #[true, false, true, false, false, false, false, false, false, false, false, false, false, false, false, false] rfl rfl (any_of HT_.out (by kernel_rfl)) (fun _ _ _ h => h) (Or.inl ⟨by rfl, ?_⟩) ?_ ?_
       rotate_left
       ·
        intro w'
        go_simp
        with_reducible rfl
       rotate_left
       ·
        simp only [Act.put, List.setIfInBounds_toArray, List.set_cons_zero, List.set_cons_succ, i64_w, i32_w]
        rfl
       refine pure_ (i := 6) (N := some 42) (v := ?_) (a' := ?_) #[true, false, true, false, false, false, true, false, false, false, false, false, false, false, false, false] rfl rfl (any_of HT_.out (by kernel_rfl)) (fun _ _ _ h => h) (Or.inl ⟨by rfl, ?_⟩) ?_ ?_
       rotate_left
       ·
        intro w'
        go_simp
        with_reducible rfl
       rotate_left
       ·
        simp only [Act.put, List.setIfInBounds_toArray, List.set_cons_zero, List.set_cons_succ, i64_w, i32_w]
        rfl
       refine pure_ (i := 9) (N := some 45) (v := ?_) (a' := ?_) #[true, false, true, false, false, false, true, false, false, true, false, false, false, false, false, false] rfl rfl (any_of HT_.out (by kernel_rfl)) (fun _ _ _ h => h) (Or.inl ⟨by rfl, ?_⟩) ?_ ?_
       rotate_left
       ·
        intro w'
        go_simp
        with_reducible rfl
       rotate_left
       ·
        simp only [Act.put, List.setIfInBounds_toArray, List.set_cons_zero, List.set_cons_succ, i64_w, i32_w]
        rfl
       refine take_ (i := 1) (N := some 37) (v := ?_) (a' := ?_) #[true, true, true, false, false, false, true, false, false, true, false, false, false, false, false, false] rfl rfl (take_ofW HT_.out HW_.out (by kernel_rfl)) (fun _ _ _ h => h) (Or.inl ⟨by rfl, ?_⟩) hHeld ?_ ?_
       rotate_left
       ·
        rintro w' ⟨s0, s1, s2, s3⟩
        go_simp
        with_reducible rfl
       rotate_left
       ·
        simp only [Act.put, List.setIfInBounds_toArray, List.set_cons_zero, List.set_cons_succ, i64_w, i32_w]
        rfl
       refine take_ (i := 3) (N := some 39) (v := ?_) (a' := ?_) #[true, true, true, true, false, false, true, false, false, true, false, false, false, false, false, false] rfl rfl (take_ofW HT_.out HW_.out (by kernel_rfl)) (fun _ _ _ h => h) (Or.inl ⟨by rfl, ?_⟩) hHeld ?_ ?_
       rotate_left
       ·
        rintro w' ⟨s0, s1, s2, s3⟩
        go_simp
        with_reducible rfl
       rotate_left
       ·
        simp only [Act.put, List.setIfInBounds_toArray, List.set_cons_zero, List.set_cons_succ, i64_w, i32_w]
        rfl
       refine pure_ (i := 4) (N := some 40) (v := ?_) (a' := ?_) #[true, true, true, true, true, false, true, false, false, true, false, false, false, false, false, false] rfl rfl (any_of HT_.out (by kernel_rfl)) (fun _ _ _ h => h) (Or.inl ⟨by rfl, ?_⟩) ?_ ?_
       rotate_left
       ·
        intro w'
        go_simp
        with_reducible rfl
       rotate_left
       ·
        simp only [Act.put, List.setIfInBounds_toArray, List.set_cons_zero, List.set_cons_succ, i64_w, i32_w]
        rfl
       refine take_ (i := 7) (N := some 43) (v := ?_) (a' := ?_) #[true, true, true, true, true, false, true, true, false, true, false, false, false, false, false, false] rfl rfl (take_ofW HT_.out HW_.out (by kernel_rfl)) (fun _ _ _ h => h) (Or.inl ⟨by rfl, ?_⟩) hHeld ?_ ?_
       rotate_left
       ·
        rintro w' ⟨s0, s1, s2, s3⟩
        go_simp
        with_reducible rfl
       rotate_left
       ·
        simp only [Act.put, List.setIfInBounds_toArray, List.set_cons_zero, List.set_cons_succ, i64_w, i32_w]
        rfl
       refine pure_ (i := 8) (N := some 44) (v := ?_) (a' := ?_) #[true, true, true, true, true, false, true, true, true, true, false, false, false, false, false, false] rfl rfl (any_of HT_.out (by kernel_rfl)) (fun _ _ _ h => h) (Or.inl ⟨by rfl, ?_⟩) ?_ ?_
       rotate_left
       ·
        intro w'
        go_simp
        with_reducible rfl
       rotate_left
       ·
        simp only [Act.put, List.setIfInBounds_toArray, List.set_cons_zero, List.set_cons_succ, i64_w, i32_w]
        rfl
       refine take_ (i := 10) (N := some 46) (v := ?_) (a' := ?_) #[true, true, true, true, true, false, true, true, true, true, true, false, false, false, false, false] rfl rfl (take_ofW HT_.out HW_.out (by kernel_rfl)) (fun _ _ _ h => h) (Or.inl ⟨by rfl, ?_⟩) hHeld ?_ ?_
       rotate_left
       ·
        rintro w' ⟨s0, s1, s2, s3⟩
        go_simp
        with_reducible rfl
       rotate_left
       ·
        simp only [Act.put, List.setIfInBounds_toArray, List.set_cons_zero, List.set_cons_succ, i64_w, i32_w]
        rfl
       refine pure_ (i := 11) (N := some 47) (v := ?_) (a' := ?_) #[true, true, true, true, true, false, true, true, true, true, true, true, false, false, false, false] rfl rfl (any_of HT_.out (by kernel_rfl)) (fun _ _ _ h => h) (Or.inl ⟨by rfl, ?_⟩) ?_ ?_
       rotate_left
       ·
        intro w'
        go_simp
        with_reducible rfl
       rotate_left
       ·
        simp only [Act.put, List.setIfInBounds_toArray, List.set_cons_zero, List.set_cons_succ, i64_w, i32_w]
        rfl
       refine one_ (i := 5) (N := some 41) #[true, true, true, true, true, true, true, true, true, true, true, true, false, false, false, false] rfl rfl (one_of HT_.out (by kernel_rfl)) (by decide) (fun K hK => ?_)
       refine goes_ Try.func134 (by kernel_rfl) rfl #[.int .i64 (wrap64 (t304 * t307)), .int .i64 1000] (by rfl) rfl rfl (by (try simp only [List.map_toArray, List.map_cons, List.map_nil]); first | done | rfl | (simp only [List.length_drop, List.length_take]; rfl)) ?_
       with_reducible refine (bolt_up.calls (wrap64 (t304 * t307)) 1000 t310 _ A12.out).mono ?_
       rintro e w' ⟨rfl, ⟨nd, rfl⟩⟩
       refine ⟨_, rfl, ?_⟩
       refine hK.out _ _ ⟨(blk_cell BK308.out 0).trans rfl, (blk_cell BK308.out 1).trans rfl, (blk_cell BK309.out 0).trans rfl, (blk_cell BK309.out 1).trans rfl⟩ (fun hHeld => ?_)
       clear hK K
       refine norm_ (a' := ?_) ?_ ?_
       rotate_left
       ·
        show Act.put _ (some 41) _ = _
        simp only [Act.put, List.setIfInBounds_toArray, List.set_cons_zero, List.set_cons_succ, i64_w, i32_w]
        rfl
       refine one_ (i := 12) (N := some 48) #[true, true, true, true, true, true, true, true, true, true, true, true, true, false, false, false] rfl rfl (one_of HT_.out (by kernel_rfl)) (by decide) (fun K hK => ?_)
       refine goes_ Try.func134 (by kernel_rfl) rfl #[.int .i64 (wrap64 ((wrap64 (t305 + 1)) * t306)), .int .i64 1000] (by rfl) rfl rfl (by (try simp only [List.map_toArray, List.map_cons, List.map_nil]); first | done | rfl | (simp only [List.length_drop, List.length_take]; rfl)) ?_
       with_reducible refine (bolt_up.calls (wrap64 ((wrap64 (t305 + 1)) * t306)) 1000 t311 _ A13.out).mono ?_
       rintro e w' ⟨rfl, ⟨nd, rfl⟩⟩
       refine ⟨_, rfl, ?_⟩
       refine hK.out _ _ ⟨(blk_cell BK308.out 0).trans rfl, (blk_cell BK308.out 1).trans rfl, (blk_cell BK309.out 0).trans rfl, (blk_cell BK309.out 1).trans rfl⟩ (fun hHeld => ?_)
       clear hK K
       refine norm_ (a' := ?_) ?_ ?_
       rotate_left
       ·
        show Act.put _ (some 48) _ = _
        simp only [Act.put, List.setIfInBounds_toArray, List.set_cons_zero, List.set_cons_succ, i64_w, i32_w]
        rfl
       refine pure_ (i := 13) (N := some 49) (v := ?_) (a' := ?_) #[true, true, true, true, true, true, true, true, true, true, true, true, true, true, false, false] rfl rfl (any_of HT_.out (by kernel_rfl)) (fun _ _ _ h => h) (Or.inl ⟨by rfl, ?_⟩) ?_ ?_
       rotate_left
       ·
        intro w'
        go_simp
        with_reducible rfl
       rotate_left
       ·
        simp only [Act.put, List.setIfInBounds_toArray, List.set_cons_zero, List.set_cons_succ, i64_w, i32_w]
        rfl
       refine pure_ (i := 14) (N := some 11) (v := ?_) (a' := ?_) #[true, true, true, true, true, true, true, true, true, true, true, true, true, true, true, false] rfl rfl (any_of HT_.out (by kernel_rfl)) (fun _ _ _ h => h) (Or.inl ⟨by rfl, ?_⟩) ?_ ?_
       rotate_left
       ·
        intro w'
        go_simp
        with_reducible rfl
       rotate_left
       ·
        simp only [Act.put, List.setIfInBounds_toArray, List.set_cons_zero, List.set_cons_succ, i64_w, i32_w]
        rfl
       refine pure_ (i := 15) (N := some 12) (v := ?_) (a' := ?_) #[true, true, true, true, true, true, true, true, true, true, true, true, true, true, true, true] rfl rfl (any_of HT_.out (by kernel_rfl)) (fun _ _ _ h => h) (Or.inl ⟨by rfl, ?_⟩) ?_ ?_
       rotate_left
       ·
        intro w'
        go_simp
        with_reducible rfl
       rotate_left
       ·
        simp only [Act.put, List.setIfInBounds_toArray, List.set_cons_zero, List.set_cons_succ, i64_w, i32_w]
        rfl
       refine done_ (done_of HT_.out (by kernel_rfl)) ?_
       have hnb133 := NB285_308.out; have hnc133 := NB308_285.out; have hnb134 := NB285_309.out; have hnc134 := NB309_285.out; have hcz135_0 := cB (x := a2_0) BK285.out 0; have hcz135_1 := cB (x := a2_1) BK285.out 1; have hfz135_0 := blk_frozen BK285.out 0; have hfz135_1 := blk_frozen BK285.out 1; have hnb136 := NB286_308.out; have hnc136 := NB308_286.out; have hnb137 := NB286_309.out; have hnc137 := NB309_286.out; have hcz138_0 := cB (x := 0) BK286.out 0; have hcz138_1 := cB (x := 0) BK286.out 1; have hfz138_0 := blk_frozen BK286.out 0; have hfz138_1 := blk_frozen BK286.out 1
       try go_wp2
       refine bodyPost_ret (results_ct rfl _ _ gb286 36 #[.int .i64 ji98, .int .i64 10000000000000] (0, 0) _ rfl (by refine pl ?_; refine blk_put (cs := #[.int .i64 ji98, .int .i64 10000000000000]) ?_ 1 _ rfl; refine pl ?_; refine blk_put (cs := #[.int .i64 ji98, .int .i64 10000000000000]) ?_ 0 _ rfl; refine pl ?_; refine blk_put (cs := #[.int .i64 0, .int .i64 10000000000000]) ?_ 0 _ rfl; refine pl ?_; refine blk_put (cs := #[.int .i64 0, .int .i64 0]) ?_ 1 _ rfl; refine pl ?_; refine blk_put (cs := #[.int .i64 0, .int .i64 0]) ?_ 0 _ rfl; refine pl ?_; exact BK286.out) Try.underlying36 rfl (by kernel_rfl)) rfl ?_
       exact ⟨by first | rfl | (simp [errW_none, errW_some] <;> rfl) | (simp only [← hji98]; first | rfl | (simp [errW_none, errW_some] <;> rfl)) | (simp [*, errW_none, errW_some] <;> rfl), by repeat (first | (with_reducible first | exact HB.out | apply below_alloc | apply pw_below_drewN | apply below_drew1 | refine below_set ?_ GE283.out | refine below_set ?_ GE284.out | refine below_set ?_ GE285.out | refine below_set ?_ GE286.out | refine below_set ?_ GE301.out | refine below_set ?_ GE308.out | refine below_set ?_ GE309.out) | exact HB.out)⟩
     ·
      rw [if_neg c97] at H
      have c97b0 : decide (0 < t310) = false := decide_eq_false c97
      clear c97
      by_cases c139 : 0 > 10000000000000
      ·
       rw [if_pos c139] at H
       exact absurd H (by simp)
      ·
       rw [if_neg c139] at H
       have c139b0 : decide (10000000000000 < 0) = false := decide_eq_false c139
       clear c139
       exact absurd H (by simp)
   ·
    replace c9 := Bool.eq_false_iff.mpr c9
    subst c9
    have H1 : (none) = some (r1, r2, r3) := by rw [if_neg (show ¬ (false = true) by decide)] at H; exact H
    clear H
    have H := H1
    clear H1
    exact absurd H (by simp)
  ·
   replace c7 := Bool.eq_false_iff.mpr c7
   subst c7
   have H1 : (none) = some (r1, r2, r3) := by rw [if_neg (show ¬ (false = true) by decide)] at H; exact H
   clear H
   have H := H1
   clear H1
   exact absurd H (by simp)
 ·
  rw [if_neg c5] at H
  exact absurd H (by simp)

end Go.Proofs.Ytbnbikkhnjcmdab.PBT
