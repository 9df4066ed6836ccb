-- Written by a program of this session (wip/pr/drive.py).
import Derived.Test.YtbnbikkhnjcmdabPBTx0
import Derived.Test.YtbnbikkhnjcmdabPBTx1
import Derived.Test.YtbnbikkhnjcmdabPBTx3
import Derived.Test.YtbnbikkhnjcmdabPBTx7
import Derived.Test.YtbnbikkhnjcmdabPBTx8
namespace Go.Proofs.Ytbnbikkhnjcmdab.PBT
open Go.RowKit Go.Proofs.YtbnbikkhnjcmdabW.PrintWords Go.Proofs.YtbnbikkhnjcmdabW.PrintLast Go.Proofs.YtbnbikkhnjcmdabW.PrintMore
attribute [local go_sem] max2_int min2_int max_two min_two max_three min_three max_four min_four   -- for this text's walks alone
set_option linter.unusedVariables false
set_option linter.unusedSimpArgs false

attribute [local go_sem high] eqA36
/-! ### acmetop_armBolt: function 20 -/
def acmetop_armBolt.f  : Option (Bool) := (acmetop_armSpan.f 100 160).bind fun bt312 => ((acmetop_armSpan.f 120 150).bind fun bt314 => ((acmetop_armSpan.f 50000 60000).bind fun bt316 => ((acmetop_armSpan.f 90 110).bind fun bt318 => ((acmetop_armSpan.f 30000 33000).bind fun bt320 => ((acmetop_armSpan.f 66800000 66800000).bind fun bt323 => ((bolt_Force.f 2000 5000 7000 bt312.1 bt312.2 bt314.1 bt314.2 bt316.1 bt316.2 bt318.1 bt318.2 bt320.1 bt320.2 1 bt323.1 bt323.2 0 0 0 0).bind fun bt325 => ((acmetop_armSpan.f 17000 21000).bind fun bt329 => ((acmetop_armSpan.f (-500000) 500000).bind fun bt331 => ((bolt_Right.f 2000 5000 7000 bt312.1 bt312.2 bt314.1 bt314.2 bt316.1 bt316.2 bt318.1 bt318.2 bt320.1 bt320.2 bt329.1 bt329.2 bt331.1 bt331.2).bind fun bt333 => (if bt325.2.2 = 0 then (if bt333.2.2 = 0 then ((acmetop_armSpan.f 17350 20000).bind fun bt337 => (if (bt325.1 == bt337.1 && (bt325.2.1 == bt337.2)) = true then ((acmetop_armSpan.f 65950000 69643339).bind fun bt339 => (some (bt333.1 == bt339.1 && (bt333.2.1 == bt339.2)))) else (none))) else (none)) else (none)))))))))))
def acmetop_armBolt.T2 : Bool × List (List Nat × List Nat) := (true, [([], []), ([], []), ([1], [1]), ([0, 2, 1], [0, 2]), ([3], [3]), ([4], [4]), ([4], [4]), ([], []), ([7, 5, 3, 0, 1, 2, 3, 4, 5, 7], [5, 7]), ([6, 8, 0, 1, 2, 3, 4, 5, 6, 7, 8], [6])])
def acmetop_armBolt.B2 : List Nat := [0, 0, 2, 7, 15, 31, 31, 0, 191, 511]
theorem acmetop_armBolt.tab2 : rtab .any (opsOf Try.f20 2) = acmetop_armBolt.T2 := by kernel_rfl
theorem acmetop_armBolt.bits2 : waitsOk acmetop_armBolt.T2.2 acmetop_armBolt.B2 = true := by kernel_rfl
def acmetop_armBolt.T3 : Bool × List (List Nat × List Nat) := (true, [([], []), ([], []), ([1], []), ([0, 1, 2, 2], [0, 1, 2]), ([3], [3]), ([4], [4]), ([4], [4]), ([], []), ([7, 5, 3, 0, 1, 2, 3, 4, 5, 7], [5, 7]), ([6, 8, 0, 1, 2, 3, 4, 5, 6, 7, 8], [6])])
def acmetop_armBolt.B3 : List Nat := [0, 0, 2, 7, 15, 31, 31, 0, 191, 511]
theorem acmetop_armBolt.tab3 : rtab .any (opsOf Try.f20 3) = acmetop_armBolt.T3 := by kernel_rfl
theorem acmetop_armBolt.bits3 : waitsOk acmetop_armBolt.T3.2 acmetop_armBolt.B3 = true := by kernel_rfl
def acmetop_armBolt.T4 : Bool × List (List Nat × List Nat) := (true, [([], []), ([0], [0]), ([1], [1]), ([2], [2]), ([3, 2], [2, 3]), ([2, 4], [2, 4]), ([5, 2], [5]), ([6], [6]), ([6, 6], [6]), ([7, 8, 6], [6, 7, 8]), ([6, 9], [6, 9]), ([10, 8], [10]), ([11], [11]), ([11, 11], [11]), ([12, 13, 11], [11, 12, 13]), ([11, 14], [11, 14]), ([15, 13, 0, 1, 2, 3, 4, 5, 6, 7, 8, 9, 10, 11, 12, 13, 14, 15], [15])])
def acmetop_armBolt.B4 : List Nat := [0, 1, 3, 7, 15, 31, 63, 127, 127, 511, 1023, 2047, 4095, 4095, 16383, 32767, 65535]
theorem acmetop_armBolt.tab4 : rtab .any (opsOf Try.f20 4) = acmetop_armBolt.T4 := by kernel_rfl
theorem acmetop_armBolt.bits4 : waitsOk acmetop_armBolt.T4.2 acmetop_armBolt.B4 = true := by kernel_rfl
set_option maxHeartbeats 8000000 in
set_option maxRecDepth 100000 in
theorem acmetop_armBolt.calls  (r : Bool) (w : World) (h : acmetop_armBolt.f  = some r) :
  Calls Try.prog 20 #[] w fun e w' => e = .returned (.bool r) ∧ Below w.heap.size w w' := by
 have hu38 := Try.underlying38
 have hu51 := Try.underlying51
 have hu36 := Try.underlying36
 have HB := Aside0.mk (Below.refl w.heap.size w)
 have H : ((acmetop_armSpan.f 100 160).bind fun bt312 => ((acmetop_armSpan.f 120 150).bind fun bt314 => ((acmetop_armSpan.f 50000 60000).bind fun bt316 => ((acmetop_armSpan.f 90 110).bind fun bt318 => ((acmetop_armSpan.f 30000 33000).bind fun bt320 => ((acmetop_armSpan.f 66800000 66800000).bind fun bt323 => ((bolt_Force.f 2000 5000 7000 bt312.1 bt312.2 bt314.1 bt314.2 bt316.1 bt316.2 bt318.1 bt318.2 bt320.1 bt320.2 1 bt323.1 bt323.2 0 0 0 0).bind fun bt325 => ((acmetop_armSpan.f 17000 21000).bind fun bt329 => ((acmetop_armSpan.f (-500000) 500000).bind fun bt331 => ((bolt_Right.f 2000 5000 7000 bt312.1 bt312.2 bt314.1 bt314.2 bt316.1 bt316.2 bt318.1 bt318.2 bt320.1 bt320.2 bt329.1 bt329.2 bt331.1 bt331.2).bind fun bt333 => (if bt325.2.2 = 0 then (if bt333.2.2 = 0 then ((acmetop_armSpan.f 17350 20000).bind fun bt337 => (if (bt325.1 == bt337.1 && (bt325.2.1 == bt337.2)) = true then ((acmetop_armSpan.f 65950000 69643339).bind fun bt339 => (some (bt333.1 == bt339.1 && (bt333.2.1 == bt339.2)))) else (none))) else (none)) else (none)))))))))))) = some r := h
 clear h
 replace H := Option.bind_eq_some_iff.mp H
 obtain ⟨⟨t312, t313⟩, A10, H⟩ := H
 replace H : ((acmetop_armSpan.f 120 150).bind fun bt314 => ((acmetop_armSpan.f 50000 60000).bind fun bt316 => ((acmetop_armSpan.f 90 110).bind fun bt318 => ((acmetop_armSpan.f 30000 33000).bind fun bt320 => ((acmetop_armSpan.f 66800000 66800000).bind fun bt323 => ((bolt_Force.f 2000 5000 7000 t312 t313 bt314.1 bt314.2 bt316.1 bt316.2 bt318.1 bt318.2 bt320.1 bt320.2 1 bt323.1 bt323.2 0 0 0 0).bind fun bt325 => ((acmetop_armSpan.f 17000 21000).bind fun bt329 => ((acmetop_armSpan.f (-500000) 500000).bind fun bt331 => ((bolt_Right.f 2000 5000 7000 t312 t313 bt314.1 bt314.2 bt316.1 bt316.2 bt318.1 bt318.2 bt320.1 bt320.2 bt329.1 bt329.2 bt331.1 bt331.2).bind fun bt333 => (if bt325.2.2 = 0 then (if bt333.2.2 = 0 then ((acmetop_armSpan.f 17350 20000).bind fun bt337 => (if (bt325.1 == bt337.1 && (bt325.2.1 == bt337.2)) = true then ((acmetop_armSpan.f 65950000 69643339).bind fun bt339 => (some (bt333.1 == bt339.1 && (bt333.2.1 == bt339.2)))) else (none))) else (none)) else (none))))))))))) = some r := H
 have A1 := Aside0.mk A10
 clear A10
 replace H := Option.bind_eq_some_iff.mp H
 obtain ⟨⟨t314, t315⟩, A20, H⟩ := H
 replace H : ((acmetop_armSpan.f 50000 60000).bind fun bt316 => ((acmetop_armSpan.f 90 110).bind fun bt318 => ((acmetop_armSpan.f 30000 33000).bind fun bt320 => ((acmetop_armSpan.f 66800000 66800000).bind fun bt323 => ((bolt_Force.f 2000 5000 7000 t312 t313 t314 t315 bt316.1 bt316.2 bt318.1 bt318.2 bt320.1 bt320.2 1 bt323.1 bt323.2 0 0 0 0).bind fun bt325 => ((acmetop_armSpan.f 17000 21000).bind fun bt329 => ((acmetop_armSpan.f (-500000) 500000).bind fun bt331 => ((bolt_Right.f 2000 5000 7000 t312 t313 t314 t315 bt316.1 bt316.2 bt318.1 bt318.2 bt320.1 bt320.2 bt329.1 bt329.2 bt331.1 bt331.2).bind fun bt333 => (if bt325.2.2 = 0 then (if bt333.2.2 = 0 then ((acmetop_armSpan.f 17350 20000).bind fun bt337 => (if (bt325.1 == bt337.1 && (bt325.2.1 == bt337.2)) = true then ((acmetop_armSpan.f 65950000 69643339).bind fun bt339 => (some (bt333.1 == bt339.1 && (bt333.2.1 == bt339.2)))) else (none))) else (none)) else (none)))))))))) = some r := H
 have A2 := Aside0.mk A20
 clear A20
 replace H := Option.bind_eq_some_iff.mp H
 obtain ⟨⟨t316, t317⟩, A30, H⟩ := H
 replace H : ((acmetop_armSpan.f 90 110).bind fun bt318 => ((acmetop_armSpan.f 30000 33000).bind fun bt320 => ((acmetop_armSpan.f 66800000 66800000).bind fun bt323 => ((bolt_Force.f 2000 5000 7000 t312 t313 t314 t315 t316 t317 bt318.1 bt318.2 bt320.1 bt320.2 1 bt323.1 bt323.2 0 0 0 0).bind fun bt325 => ((acmetop_armSpan.f 17000 21000).bind fun bt329 => ((acmetop_armSpan.f (-500000) 500000).bind fun bt331 => ((bolt_Right.f 2000 5000 7000 t312 t313 t314 t315 t316 t317 bt318.1 bt318.2 bt320.1 bt320.2 bt329.1 bt329.2 bt331.1 bt331.2).bind fun bt333 => (if bt325.2.2 = 0 then (if bt333.2.2 = 0 then ((acmetop_armSpan.f 17350 20000).bind fun bt337 => (if (bt325.1 == bt337.1 && (bt325.2.1 == bt337.2)) = true then ((acmetop_armSpan.f 65950000 69643339).bind fun bt339 => (some (bt333.1 == bt339.1 && (bt333.2.1 == bt339.2)))) else (none))) else (none)) else (none))))))))) = some r := H
 have A3 := Aside0.mk A30
 clear A30
 replace H := Option.bind_eq_some_iff.mp H
 obtain ⟨⟨t318, t319⟩, A40, H⟩ := H
 replace H : ((acmetop_armSpan.f 30000 33000).bind fun bt320 => ((acmetop_armSpan.f 66800000 66800000).bind fun bt323 => ((bolt_Force.f 2000 5000 7000 t312 t313 t314 t315 t316 t317 t318 t319 bt320.1 bt320.2 1 bt323.1 bt323.2 0 0 0 0).bind fun bt325 => ((acmetop_armSpan.f 17000 21000).bind fun bt329 => ((acmetop_armSpan.f (-500000) 500000).bind fun bt331 => ((bolt_Right.f 2000 5000 7000 t312 t313 t314 t315 t316 t317 t318 t319 bt320.1 bt320.2 bt329.1 bt329.2 bt331.1 bt331.2).bind fun bt333 => (if bt325.2.2 = 0 then (if bt333.2.2 = 0 then ((acmetop_armSpan.f 17350 20000).bind fun bt337 => (if (bt325.1 == bt337.1 && (bt325.2.1 == bt337.2)) = true then ((acmetop_armSpan.f 65950000 69643339).bind fun bt339 => (some (bt333.1 == bt339.1 && (bt333.2.1 == bt339.2)))) else (none))) else (none)) else (none)))))))) = some r := H
 have A4 := Aside0.mk A40
 clear A40
 replace H := Option.bind_eq_some_iff.mp H
 obtain ⟨⟨t320, t321⟩, A50, H⟩ := H
 replace H : ((acmetop_armSpan.f 66800000 66800000).bind fun bt323 => ((bolt_Force.f 2000 5000 7000 t312 t313 t314 t315 t316 t317 t318 t319 t320 t321 1 bt323.1 bt323.2 0 0 0 0).bind fun bt325 => ((acmetop_armSpan.f 17000 21000).bind fun bt329 => ((acmetop_armSpan.f (-500000) 500000).bind fun bt331 => ((bolt_Right.f 2000 5000 7000 t312 t313 t314 t315 t316 t317 t318 t319 t320 t321 bt329.1 bt329.2 bt331.1 bt331.2).bind fun bt333 => (if bt325.2.2 = 0 then (if bt333.2.2 = 0 then ((acmetop_armSpan.f 17350 20000).bind fun bt337 => (if (bt325.1 == bt337.1 && (bt325.2.1 == bt337.2)) = true then ((acmetop_armSpan.f 65950000 69643339).bind fun bt339 => (some (bt333.1 == bt339.1 && (bt333.2.1 == bt339.2)))) else (none))) else (none)) else (none))))))) = some r := H
 have A5 := Aside0.mk A50
 clear A50
 replace H := Option.bind_eq_some_iff.mp H
 obtain ⟨⟨t323, t324⟩, A60, H⟩ := H
 replace H : ((bolt_Force.f 2000 5000 7000 t312 t313 t314 t315 t316 t317 t318 t319 t320 t321 1 t323 t324 0 0 0 0).bind fun bt325 => ((acmetop_armSpan.f 17000 21000).bind fun bt329 => ((acmetop_armSpan.f (-500000) 500000).bind fun bt331 => ((bolt_Right.f 2000 5000 7000 t312 t313 t314 t315 t316 t317 t318 t319 t320 t321 bt329.1 bt329.2 bt331.1 bt331.2).bind fun bt333 => (if bt325.2.2 = 0 then (if bt333.2.2 = 0 then ((acmetop_armSpan.f 17350 20000).bind fun bt337 => (if (bt325.1 == bt337.1 && (bt325.2.1 == bt337.2)) = true then ((acmetop_armSpan.f 65950000 69643339).bind fun bt339 => (some (bt333.1 == bt339.1 && (bt333.2.1 == bt339.2)))) else (none))) else (none)) else (none)))))) = some r := H
 have A6 := Aside0.mk A60
 clear A60
 replace H := Option.bind_eq_some_iff.mp H
 obtain ⟨⟨t325, t326, t327⟩, A70, H⟩ := H
 replace H : ((acmetop_armSpan.f 17000 21000).bind fun bt329 => ((acmetop_armSpan.f (-500000) 500000).bind fun bt331 => ((bolt_Right.f 2000 5000 7000 t312 t313 t314 t315 t316 t317 t318 t319 t320 t321 bt329.1 bt329.2 bt331.1 bt331.2).bind fun bt333 => (if t327 = 0 then (if bt333.2.2 = 0 then ((acmetop_armSpan.f 17350 20000).bind fun bt337 => (if (t325 == bt337.1 && (t326 == bt337.2)) = true then ((acmetop_armSpan.f 65950000 69643339).bind fun bt339 => (some (bt333.1 == bt339.1 && (bt333.2.1 == bt339.2)))) else (none))) else (none)) else (none))))) = some r := H
 have A7 := Aside0.mk A70
 clear A70
 replace H := Option.bind_eq_some_iff.mp H
 obtain ⟨⟨t329, t330⟩, A80, H⟩ := H
 replace H : ((acmetop_armSpan.f (-500000) 500000).bind fun bt331 => ((bolt_Right.f 2000 5000 7000 t312 t313 t314 t315 t316 t317 t318 t319 t320 t321 t329 t330 bt331.1 bt331.2).bind fun bt333 => (if t327 = 0 then (if bt333.2.2 = 0 then ((acmetop_armSpan.f 17350 20000).bind fun bt337 => (if (t325 == bt337.1 && (t326 == bt337.2)) = true then ((acmetop_armSpan.f 65950000 69643339).bind fun bt339 => (some (bt333.1 == bt339.1 && (bt333.2.1 == bt339.2)))) else (none))) else (none)) else (none)))) = some r := H
 have A8 := Aside0.mk A80
 clear A80
 replace H := Option.bind_eq_some_iff.mp H
 obtain ⟨⟨t331, t332⟩, A90, H⟩ := H
 replace H : ((bolt_Right.f 2000 5000 7000 t312 t313 t314 t315 t316 t317 t318 t319 t320 t321 t329 t330 t331 t332).bind fun bt333 => (if t327 = 0 then (if bt333.2.2 = 0 then ((acmetop_armSpan.f 17350 20000).bind fun bt337 => (if (t325 == bt337.1 && (t326 == bt337.2)) = true then ((acmetop_armSpan.f 65950000 69643339).bind fun bt339 => (some (bt333.1 == bt339.1 && (bt333.2.1 == bt339.2)))) else (none))) else (none)) else (none))) = some r := H
 have A9 := Aside0.mk A90
 clear A90
 replace H := Option.bind_eq_some_iff.mp H
 obtain ⟨⟨t333, t334, t335⟩, A100, H⟩ := H
 replace H : (if t327 = 0 then (if t335 = 0 then ((acmetop_armSpan.f 17350 20000).bind fun bt337 => (if (t325 == bt337.1 && (t326 == bt337.2)) = true then ((acmetop_armSpan.f 65950000 69643339).bind fun bt339 => (some (t333 == bt339.1 && (t334 == bt339.2)))) else (none))) else (none)) else (none)) = some r := H
 have A10 := Aside0.mk A100
 clear A100
 by_cases c11 : t327 = 0
 ·
  rw [if_pos c11] at H
  have c11b0 : (t327 == 0) = true := beq_iff_eq.mpr c11
  have c11b1 : (t327 != 0) = false := bne_eq_false_iff_eq.mpr c11
  clear c11
  by_cases c12 : t335 = 0
  ·
   rw [if_pos c12] at H
   have c12b0 : (t335 == 0) = true := beq_iff_eq.mpr c12
   have c12b1 : (t335 != 0) = false := bne_eq_false_iff_eq.mpr c12
   clear c12
   replace H := Option.bind_eq_some_iff.mp H
   obtain ⟨⟨t337, t338⟩, A130, H⟩ := H
   replace H : (if (t325 == t337 && (t326 == t338)) = true then ((acmetop_armSpan.f 65950000 69643339).bind fun bt339 => (some (t333 == bt339.1 && (t334 == bt339.2)))) else (none)) = some r := H
   have A13 := Aside0.mk A130
   clear A130
   by_cases c14 : (t325 == t337 && (t326 == t338)) = true
   ·
    rw [if_pos c14] at H
    have c14b0 : (t325 == t337 && (t326 == t338)) = true := c14
    (try (have c14b1 : decide (t325 = t337 && (t326 == t338)) = true := by simpa using c14))
    (try (have c14b2 : (t325 == t337 && (t326 == t338)) = true := by simpa using c14))
    clear c14
    replace H := Option.bind_eq_some_iff.mp H
    obtain ⟨⟨t339, t340⟩, A150, H⟩ := H
    replace H : (some (t333 == t339 && (t334 == t340))) = some r := H
    have A15 := Aside0.mk A150
    clear A150
    obtain rfl := Option.some.inj H
    go_enter Try.func20, Try.ntmps20
    try go_wp2_with (first | ((with_reducible refine gate_callee (f := 17) rfl ?_); refine goesL_ (some 6) rfl rfl Try.func17 (by kernel_rfl) rfl #[.int .i64 100, .int .i64 160] rfl (by (try simp only [List.map_toArray, List.map_cons, List.map_nil]); first | done | rfl | (simp only [List.length_drop, List.length_take]; rfl)) ?_; (with_reducible refine (acmetop_armSpan.calls 100 160 t312 t313 _ A1.out).mono ?_); rintro e w16 ⟨rfl, hb⟩; refine ⟨_, rfl, ?_⟩; have n0_ := Aside0.mk (below_step (hbp HB.out) hb); clear HB; have HB := n0_; clear n0_; (try clear hb); (try clear hb2); (try clear hk); (try clear hi)) | ((with_reducible refine gate_callee (f := 17) rfl ?_); refine goesL_ (some 7) rfl rfl Try.func17 (by kernel_rfl) rfl #[.int .i64 120, .int .i64 150] rfl (by (try simp only [List.map_toArray, List.map_cons, List.map_nil]); first | done | rfl | (simp only [List.length_drop, List.length_take]; rfl)) ?_; (with_reducible refine (acmetop_armSpan.calls 120 150 t314 t315 _ A2.out).mono ?_); rintro e w17 ⟨rfl, hb⟩; refine ⟨_, rfl, ?_⟩; have n0_ := Aside0.mk (below_step (hbp HB.out) hb); clear HB; have HB := n0_; clear n0_; (try clear hb); (try clear hb2); (try clear hk); (try clear hi)) | ((with_reducible refine gate_callee (f := 17) rfl ?_); refine goesL_ (some 8) rfl rfl Try.func17 (by kernel_rfl) rfl #[.int .i64 50000, .int .i64 60000] rfl (by (try simp only [List.map_toArray, List.map_cons, List.map_nil]); first | done | rfl | (simp only [List.length_drop, List.length_take]; rfl)) ?_; (with_reducible refine (acmetop_armSpan.calls 50000 60000 t316 t317 _ A3.out).mono ?_); rintro e w18 ⟨rfl, hb⟩; refine ⟨_, rfl, ?_⟩; have n0_ := Aside0.mk (below_step (hbp HB.out) hb); clear HB; have HB := n0_; clear n0_; (try clear hb); (try clear hb2); (try clear hk); (try clear hi)) | ((with_reducible refine gate_callee (f := 17) rfl ?_); refine goesL_ (some 9) rfl rfl Try.func17 (by kernel_rfl) rfl #[.int .i64 90, .int .i64 110] rfl (by (try simp only [List.map_toArray, List.map_cons, List.map_nil]); first | done | rfl | (simp only [List.length_drop, List.length_take]; rfl)) ?_; (with_reducible refine (acmetop_armSpan.calls 90 110 t318 t319 _ A4.out).mono ?_); rintro e w19 ⟨rfl, hb⟩; refine ⟨_, rfl, ?_⟩; have n0_ := Aside0.mk (below_step (hbp HB.out) hb); clear HB; have HB := n0_; clear n0_; (try clear hb); (try clear hb2); (try clear hk); (try clear hi)) | ((with_reducible refine gate_callee (f := 17) rfl ?_); refine goesL_ (some 10) rfl rfl Try.func17 (by kernel_rfl) rfl #[.int .i64 30000, .int .i64 33000] rfl (by (try simp only [List.map_toArray, List.map_cons, List.map_nil]); first | done | rfl | (simp only [List.length_drop, List.length_take]; rfl)) ?_; (with_reducible refine (acmetop_armSpan.calls 30000 33000 t320 t321 _ A5.out).mono ?_); rintro e w20 ⟨rfl, hb⟩; refine ⟨_, rfl, ?_⟩; have n0_ := Aside0.mk (below_step (hbp HB.out) hb); clear HB; have HB := n0_; clear n0_; (try clear hb); (try clear hb2); (try clear hk); (try clear hi)) | ((with_reducible refine gate_dst (N := 1) rfl ?_); refine box_event ?hg (N := 1) ?hd (cs := #[.int .i64 0, .int .i64 0, .int .i64 0, .int .i64 0, .int .i64 0, .int .i64 0, .int .i64 0, .int .i64 0, .int .i64 0, .int .i64 0, .int .i64 0, .int .i64 0, .int .i64 0]) (t := 38) ?hr ?_; (case hd => rfl); (case hg => rfl); (case hr => first | (go_simp; done) | (go_simp; rfl)); intro gb322 hg w21 hbox hb; have n0_ := Aside0.mk (below_step (hbp HB.out) hb); have n1_ := Aside0.mk (hbox); have n2_ := Aside0.mk (geB hg (hbp HB.out)); have n3_ := Aside0.mk (geB hg (hbp HB.out)); clear HB; have HB := n0_; have BK322 := n1_; have GW322 := n2_; have GE322 := n3_; clear n0_ n1_ n2_ n3_; clear hb hbox hg; have hcz22_0 : w21.cell? ⟨gb322, 0, none⟩ = some (.int .i64 0) := (blk_cell BK322.out 0).trans rfl; have hcz22_1 : w21.cell? ⟨gb322, 1, none⟩ = some (.int .i64 0) := (blk_cell BK322.out 1).trans rfl; have hcz22_2 : w21.cell? ⟨gb322, 2, none⟩ = some (.int .i64 0) := (blk_cell BK322.out 2).trans rfl; have hcz22_3 : w21.cell? ⟨gb322, 3, none⟩ = some (.int .i64 0) := (blk_cell BK322.out 3).trans rfl; have hcz22_4 : w21.cell? ⟨gb322, 4, none⟩ = some (.int .i64 0) := (blk_cell BK322.out 4).trans rfl; have hcz22_5 : w21.cell? ⟨gb322, 5, none⟩ = some (.int .i64 0) := (blk_cell BK322.out 5).trans rfl; have hcz22_6 : w21.cell? ⟨gb322, 6, none⟩ = some (.int .i64 0) := (blk_cell BK322.out 6).trans rfl; have hcz22_7 : w21.cell? ⟨gb322, 7, none⟩ = some (.int .i64 0) := (blk_cell BK322.out 7).trans rfl; have hcz22_8 : w21.cell? ⟨gb322, 8, none⟩ = some (.int .i64 0) := (blk_cell BK322.out 8).trans rfl; have hcz22_9 : w21.cell? ⟨gb322, 9, none⟩ = some (.int .i64 0) := (blk_cell BK322.out 9).trans rfl; have hcz22_10 : w21.cell? ⟨gb322, 10, none⟩ = some (.int .i64 0) := (blk_cell BK322.out 10).trans rfl; have hcz22_11 : w21.cell? ⟨gb322, 11, none⟩ = some (.int .i64 0) := (blk_cell BK322.out 11).trans rfl; have hcz22_12 : w21.cell? ⟨gb322, 12, none⟩ = some (.int .i64 0) := (blk_cell BK322.out 12).trans rfl; have hfz22_0 := blk_frozen BK322.out 0; have hfz22_1 := blk_frozen BK322.out 1; have hfz22_2 := blk_frozen BK322.out 2; have hfz22_3 := blk_frozen BK322.out 3; have hfz22_4 := blk_frozen BK322.out 4; have hfz22_5 := blk_frozen BK322.out 5; have hfz22_6 := blk_frozen BK322.out 6; have hfz22_7 := blk_frozen BK322.out 7; have hfz22_8 := blk_frozen BK322.out 8; have hfz22_9 := blk_frozen BK322.out 9; have hfz22_10 := blk_frozen BK322.out 10; have hfz22_11 := blk_frozen BK322.out 11; have hfz22_12 := blk_frozen BK322.out 12))
    have n0_ : Aside0 ((((((((((((((w21.setCell ⟨gb322, 0, none⟩ (.int .i64 2000)).setCell ⟨gb322, 1, none⟩ (.int .i64 5000)).setCell ⟨gb322, 2, none⟩ (.int .i64 7000)).setCell ⟨gb322, 3, none⟩ (.int .i64 t312)).setCell ⟨gb322, 4, none⟩ (.int .i64 t313)).setCell ⟨gb322, 5, none⟩ (.int .i64 t314)).setCell ⟨gb322, 6, none⟩ (.int .i64 t315)).setCell ⟨gb322, 7, none⟩ (.int .i64 t316)).setCell ⟨gb322, 8, none⟩ (.int .i64 t317)).setCell ⟨gb322, 9, none⟩ (.int .i64 t318)).setCell ⟨gb322, 10, none⟩ (.int .i64 t319)).setCell ⟨gb322, 11, none⟩ (.int .i64 t320)).setCell ⟨gb322, 12, none⟩ (.int .i64 t321)).heap[gb322]? = some (.cells #[.int .i64 2000, .int .i64 5000, .int .i64 7000, .int .i64 t312, .int .i64 t313, .int .i64 t314, .int .i64 t315, .int .i64 t316, .int .i64 t317, .int .i64 t318, .int .i64 t319, .int .i64 t320, .int .i64 t321] 38 (0, 0))) := ⟨by (with_reducible repeat (first | refine blk_drewN ?_ _ | refine blk_drew ?_ | refine blk_alloc ?_ _)); refine blk_put (cs := #[.int .i64 2000, .int .i64 5000, .int .i64 7000, .int .i64 t312, .int .i64 t313, .int .i64 t314, .int .i64 t315, .int .i64 t316, .int .i64 t317, .int .i64 t318, .int .i64 t319, .int .i64 t320, .int .i64 0]) ?_ 12 _ rfl; (with_reducible repeat (first | refine blk_drewN ?_ _ | refine blk_drew ?_ | refine blk_alloc ?_ _)); refine blk_put (cs := #[.int .i64 2000, .int .i64 5000, .int .i64 7000, .int .i64 t312, .int .i64 t313, .int .i64 t314, .int .i64 t315, .int .i64 t316, .int .i64 t317, .int .i64 t318, .int .i64 t319, .int .i64 0, .int .i64 0]) ?_ 11 _ rfl; (with_reducible repeat (first | refine blk_drewN ?_ _ | refine blk_drew ?_ | refine blk_alloc ?_ _)); refine blk_put (cs := #[.int .i64 2000, .int .i64 5000, .int .i64 7000, .int .i64 t312, .int .i64 t313, .int .i64 t314, .int .i64 t315, .int .i64 t316, .int .i64 t317, .int .i64 t318, .int .i64 0, .int .i64 0, .int .i64 0]) ?_ 10 _ rfl; (with_reducible repeat (first | refine blk_drewN ?_ _ | refine blk_drew ?_ | refine blk_alloc ?_ _)); refine blk_put (cs := #[.int .i64 2000, .int .i64 5000, .int .i64 7000, .int .i64 t312, .int .i64 t313, .int .i64 t314, .int .i64 t315, .int .i64 t316, .int .i64 t317, .int .i64 0, .int .i64 0, .int .i64 0, .int .i64 0]) ?_ 9 _ rfl; (with_reducible repeat (first | refine blk_drewN ?_ _ | refine blk_drew ?_ | refine blk_alloc ?_ _)); refine blk_put (cs := #[.int .i64 2000, .int .i64 5000, .int .i64 7000, .int .i64 t312, .int .i64 t313, .int .i64 t314, .int .i64 t315, .int .i64 t316, .int .i64 0, .int .i64 0, .int .i64 0, .int .i64 0, .int .i64 0]) ?_ 8 _ rfl; (with_reducible repeat (first | refine blk_drewN ?_ _ | refine blk_drew ?_ | refine blk_alloc ?_ _)); refine blk_put (cs := #[.int .i64 2000, .int .i64 5000, .int .i64 7000, .int .i64 t312, .int .i64 t313, .int .i64 t314, .int .i64 t315, .int .i64 0, .int .i64 0, .int .i64 0, .int .i64 0, .int .i64 0, .int .i64 0]) ?_ 7 _ rfl; (with_reducible repeat (first | refine blk_drewN ?_ _ | refine blk_drew ?_ | refine blk_alloc ?_ _)); refine blk_put (cs := #[.int .i64 2000, .int .i64 5000, .int .i64 7000, .int .i64 t312, .int .i64 t313, .int .i64 t314, .int .i64 0, .int .i64 0, .int .i64 0, .int .i64 0, .int .i64 0, .int .i64 0, .int .i64 0]) ?_ 6 _ rfl; (with_reducible repeat (first | refine blk_drewN ?_ _ | refine blk_drew ?_ | refine blk_alloc ?_ _)); refine blk_put (cs := #[.int .i64 2000, .int .i64 5000, .int .i64 7000, .int .i64 t312, .int .i64 t313, .int .i64 0, .int .i64 0, .int .i64 0, .int .i64 0, .int .i64 0, .int .i64 0, .int .i64 0, .int .i64 0]) ?_ 5 _ rfl; (with_reducible repeat (first | refine blk_drewN ?_ _ | refine blk_drew ?_ | refine blk_alloc ?_ _)); refine blk_put (cs := #[.int .i64 2000, .int .i64 5000, .int .i64 7000, .int .i64 t312, .int .i64 0, .int .i64 0, .int .i64 0, .int .i64 0, .int .i64 0, .int .i64 0, .int .i64 0, .int .i64 0, .int .i64 0]) ?_ 4 _ rfl; (with_reducible repeat (first | refine blk_drewN ?_ _ | refine blk_drew ?_ | refine blk_alloc ?_ _)); refine blk_put (cs := #[.int .i64 2000, .int .i64 5000, .int .i64 7000, .int .i64 0, .int .i64 0, .int .i64 0, .int .i64 0, .int .i64 0, .int .i64 0, .int .i64 0, .int .i64 0, .int .i64 0, .int .i64 0]) ?_ 3 _ rfl; (with_reducible repeat (first | refine blk_drewN ?_ _ | refine blk_drew ?_ | refine blk_alloc ?_ _)); refine blk_put (cs := #[.int .i64 2000, .int .i64 5000, .int .i64 0, .int .i64 0, .int .i64 0, .int .i64 0, .int .i64 0, .int .i64 0, .int .i64 0, .int .i64 0, .int .i64 0, .int .i64 0, .int .i64 0]) ?_ 2 _ rfl; (with_reducible repeat (first | refine blk_drewN ?_ _ | refine blk_drew ?_ | refine blk_alloc ?_ _)); refine blk_put (cs := #[.int .i64 2000, .int .i64 0, .int .i64 0, .int .i64 0, .int .i64 0, .int .i64 0, .int .i64 0, .int .i64 0, .int .i64 0, .int .i64 0, .int .i64 0, .int .i64 0, .int .i64 0]) ?_ 1 _ rfl; (with_reducible repeat (first | refine blk_drewN ?_ _ | refine blk_drew ?_ | refine blk_alloc ?_ _)); refine blk_put (cs := #[.int .i64 0, .int .i64 0, .int .i64 0, .int .i64 0, .int .i64 0, .int .i64 0, .int .i64 0, .int .i64 0, .int .i64 0, .int .i64 0, .int .i64 0, .int .i64 0, .int .i64 0]) ?_ 0 _ rfl; (with_reducible repeat (first | refine blk_drewN ?_ _ | refine blk_drew ?_ | refine blk_alloc ?_ _)); exact BK322.out⟩
    have n1_ : Aside0 (Below w.heap.size w (((((((((((((w21.setCell ⟨gb322, 0, none⟩ (.int .i64 2000)).setCell ⟨gb322, 1, none⟩ (.int .i64 5000)).setCell ⟨gb322, 2, none⟩ (.int .i64 7000)).setCell ⟨gb322, 3, none⟩ (.int .i64 t312)).setCell ⟨gb322, 4, none⟩ (.int .i64 t313)).setCell ⟨gb322, 5, none⟩ (.int .i64 t314)).setCell ⟨gb322, 6, none⟩ (.int .i64 t315)).setCell ⟨gb322, 7, none⟩ (.int .i64 t316)).setCell ⟨gb322, 8, none⟩ (.int .i64 t317)).setCell ⟨gb322, 9, none⟩ (.int .i64 t318)).setCell ⟨gb322, 10, none⟩ (.int .i64 t319)).setCell ⟨gb322, 11, none⟩ (.int .i64 t320)).setCell ⟨gb322, 12, none⟩ (.int .i64 t321))) := ⟨hbp HB.out⟩
    (try clear BK322); (try clear HB)
    generalize (((((((((((((w21.setCell ⟨gb322, 0, none⟩ (.int .i64 2000)).setCell ⟨gb322, 1, none⟩ (.int .i64 5000)).setCell ⟨gb322, 2, none⟩ (.int .i64 7000)).setCell ⟨gb322, 3, none⟩ (.int .i64 t312)).setCell ⟨gb322, 4, none⟩ (.int .i64 t313)).setCell ⟨gb322, 5, none⟩ (.int .i64 t314)).setCell ⟨gb322, 6, none⟩ (.int .i64 t315)).setCell ⟨gb322, 7, none⟩ (.int .i64 t316)).setCell ⟨gb322, 8, none⟩ (.int .i64 t317)).setCell ⟨gb322, 9, none⟩ (.int .i64 t318)).setCell ⟨gb322, 10, none⟩ (.int .i64 t319)).setCell ⟨gb322, 11, none⟩ (.int .i64 t320)).setCell ⟨gb322, 12, none⟩ (.int .i64 t321)) = w23 at n0_ n1_ ⊢
    have BK322 := n0_; have HB := n1_; clear n0_ n1_
    have n0_ := Aside0.mk (blk_drew BK322.out)
    have n1_ := Aside0.mk (below_drew1 HB.out)
    clear BK322 HB; have BK322 := n0_; have HB := n1_; clear n0_ n1_
    refine start_ (n := 10) (S := fun w' => True) (ds := []) #[false, false, false, false, false, false, false, false, false, false] (by kernel_rfl) rfl rfl trivial (fun hHeld => ?_); refine with_tabW acmetop_armBolt.tab2 acmetop_armBolt.bits2 (fun HT_ HW_ => ?_)
    generalize w23.drew = w24 at BK322 HB hHeld ⊢
    refine inv_at [0, 1, 2, 3, 4, 5, 6, 7, 8, 9] (fun a0_ b a w' => ∃ (gb328 : Nat) (m7_ : Value), a = putSel a0_ b [(0, 13, .agg #[.int .i64 2000, .int .i64 5000, .int .i64 7000, .int .i64 t312, .int .i64 t313, .int .i64 t314, .int .i64 t315, .int .i64 t316, .int .i64 t317, .int .i64 t318, .int .i64 t319, .int .i64 t320, .int .i64 t321]), (1, 14, .agg #[.int .i64 t323, .int .i64 t324]), (2, 15, .agg #[.int .i64 1, .int .i64 t323, .int .i64 t324, .int .i64 0, .int .i64 0, .int .i64 0, .int .i64 0]), (3, 16, .tuple #[.agg #[.int .i64 t325, .int .i64 t326], .int .i64 t327]), (4, 12, .tuple #[.agg #[.int .i64 t325, .int .i64 t326], .int .i64 t327]), (5, 17, .agg #[.int .i64 t325, .int .i64 t326]), (6, 18, .int .i64 t327), (7, 2, m7_), (9, 3, .int .i64 t327)] ∧ (w'.heap[gb322]? = some (.cells #[.int .i64 2000, .int .i64 5000, .int .i64 7000, .int .i64 t312, .int .i64 t313, .int .i64 t314, .int .i64 t315, .int .i64 t316, .int .i64 t317, .int .i64 t318, .int .i64 t319, .int .i64 t320, .int .i64 t321] 38 (0, 0))) ∧ (Below w.heap.size w w') ∧ (b 7 = true → b 8 = false → w'.heap[gb328]? = some (.cells #[.int .i64 0, .int .i64 0] 36 (0, 0))) ∧ (b 7 = true → w.heap.size ≤ gb328) ∧ (b 7 = true → w.heap.size ≤ gb328) ∧ (b 7 = true → gb322 ≠ gb328) ∧ (b 7 = true → gb328 ≠ gb322) ∧ (b 8 = true → w'.heap[gb328]? = some (.cells #[.int .i64 t325, .int .i64 t326] 36 (0, 0))) ∧ (b 7 = true → (m7_ : Value) = .pointer (some ⟨gb328, 0, none⟩))) HT_.out HW_.out (by kernel_rfl) (by kernel_rfl) ?_ ?_ ?_
    · exact ⟨0, .bool false, by simp only [putSel, Bool.false_eq_true, if_false], BK322.out, HB.out, fun h_ => absurd h_ (by decide), fun h_ => absurd h_ (by decide), fun h_ => absurd h_ (by decide), fun h_ => absurd h_ (by decide), fun h_ => absurd h_ (by decide), fun h_ => absurd h_ (by decide), fun h_ => absurd h_ (by decide)⟩
    ·
     clear BK322 HB
     refine steps_cons ?_ ?_
     ·
      rintro b a w' ⟨gb328, m7_, ha, Q_BK322, Q_HB, Q_BK328, Q_GW328, Q_GE328, Q_NB322_328, Q_NB328_322, Q_BK328_e8, Q_X7_⟩ hb_ hon hoff
      refine ⟨_, rfl, fun K hK => ?_⟩
      have e1 : a.tmps[1]? = some (.pointer (some ⟨gb322, 0, none⟩)) := by rw [ha]; exact (putSel_off rfl).trans rfl
      replace ha := Aside0.mk ha
      have BK322 := Aside0.mk Q_BK322
      have HB := Aside0.mk Q_HB
      have hc0_ : w'.cell? ⟨gb322, 0, none⟩ = some (.int .i64 2000) := (blk_cell BK322.out 0).trans rfl
      have hc1_ : w'.cell? ⟨gb322, 1, none⟩ = some (.int .i64 5000) := (blk_cell BK322.out 1).trans rfl
      have hc2_ : w'.cell? ⟨gb322, 2, none⟩ = some (.int .i64 7000) := (blk_cell BK322.out 2).trans rfl
      have hc3_ : w'.cell? ⟨gb322, 3, none⟩ = some (.int .i64 t312) := (blk_cell BK322.out 3).trans rfl
      have hc4_ : w'.cell? ⟨gb322, 4, none⟩ = some (.int .i64 t313) := (blk_cell BK322.out 4).trans rfl
      have hc5_ : w'.cell? ⟨gb322, 5, none⟩ = some (.int .i64 t314) := (blk_cell BK322.out 5).trans rfl
      have hc6_ : w'.cell? ⟨gb322, 6, none⟩ = some (.int .i64 t315) := (blk_cell BK322.out 6).trans rfl
      have hc7_ : w'.cell? ⟨gb322, 7, none⟩ = some (.int .i64 t316) := (blk_cell BK322.out 7).trans rfl
      have hc8_ : w'.cell? ⟨gb322, 8, none⟩ = some (.int .i64 t317) := (blk_cell BK322.out 8).trans rfl
      have hc9_ : w'.cell? ⟨gb322, 9, none⟩ = some (.int .i64 t318) := (blk_cell BK322.out 9).trans rfl
      have hc10_ : w'.cell? ⟨gb322, 10, none⟩ = some (.int .i64 t319) := (blk_cell BK322.out 10).trans rfl
      have hc11_ : w'.cell? ⟨gb322, 11, none⟩ = some (.int .i64 t320) := (blk_cell BK322.out 11).trans rfl
      have hc12_ : w'.cell? ⟨gb322, 12, none⟩ = some (.int .i64 t321) := (blk_cell BK322.out 12).trans rfl
      refine value_ (w1 := w') (v := .agg #[.int .i64 2000, .int .i64 5000, .int .i64 7000, .int .i64 t312, .int .i64 t313, .int .i64 t314, .int .i64 t315, .int .i64 t316, .int .i64 t317, .int .i64 t318, .int .i64 t319, .int .i64 t320, .int .i64 t321]) (by rfl) rfl ?_ ?_
      ·
       go_simp
       (try simp only [i64_w])
       try rfl
      refine hK.out _ _ ⟨gb328, m7_, (by rw [ha.out]; exact putSel_upk 0 hb_ rfl rfl rfl), Q_BK322, Q_HB, Q_BK328, Q_GW328, Q_GE328, Q_NB322_328, Q_NB328_322, fun h0_ => absurd ((hoff 8 (by kernel_rfl)).symm.trans h0_) (by decide), Q_X7_⟩
     refine steps_cons ?_ ?_
     ·
      rintro b a w' ⟨gb328, m7_, ha, Q_BK322, Q_HB, Q_BK328, Q_GW328, Q_GE328, Q_NB322_328, Q_NB328_322, Q_BK328_e8, Q_X7_⟩ hb_ hon hoff
      refine ⟨_, rfl, fun K hK => ?_⟩
      replace ha := Aside0.mk ha
      have BK322 := Aside0.mk Q_BK322
      have HB := Aside0.mk Q_HB
      refine goes_ Try.func17 (by kernel_rfl) rfl #[.int .i64 66800000, .int .i64 66800000] (by rfl) rfl rfl (by first | (simp only [List.map_toArray, List.map_cons, List.map_nil, Act.eval, Array.getD_eq_getD_getElem?, Option.getD_some]; done) | (simp only [List.map_toArray, List.map_cons, List.map_nil, Act.eval, Array.getD_eq_getD_getElem?, Option.getD_some]; rfl)) ?_
      with_reducible refine (acmetop_armSpan.calls 66800000 66800000 t323 t324 _ A6.out).mono ?_
      rintro e w25 ⟨rfl, hb⟩
      refine ⟨_, rfl, ?_⟩
      have n0_ := Aside0.mk (blk_below (pl BK322.out) hb)
      have n1_ := Aside0.mk (below_step (hbp HB.out) hb)
      have z_BK328 := fun (h0_ : b 7 = true) (h1_ : b 8 = false) => (show w25.heap[gb328]? = some (.cells #[.int .i64 0, .int .i64 0] 36 (0, 0)) from by first | exact (blk_below (g := gb328) (pl (Q_BK328 h0_ h1_)) hb))
      clear BK322 HB; have BK322 := n0_; have HB := n1_; clear n0_ n1_; (try clear hb); (try clear hb2); (try clear hk); (try clear hi)
      refine hK.out _ _ ⟨gb328, m7_, (by rw [ha.out]; exact putSel_upk 1 hb_ rfl rfl rfl), (pl BK322.out), (hbp HB.out), z_BK328, Q_GW328, Q_GE328, Q_NB322_328, Q_NB328_322, fun h0_ => absurd ((hoff 8 (by kernel_rfl)).symm.trans h0_) (by decide), Q_X7_⟩
     refine steps_cons ?_ ?_
     ·
      rintro b a w' ⟨gb328, m7_, ha, Q_BK322, Q_HB, Q_BK328, Q_GW328, Q_GE328, Q_NB322_328, Q_NB328_322, Q_BK328_e8, Q_X7_⟩ hb_ hon hoff
      refine ⟨_, rfl, fun K hK => ?_⟩
      have e14 : a.tmps[14]? = some (.agg #[.int .i64 t323, .int .i64 t324]) := by rw [ha]; exact putSel_on (e := (1, 14, .agg #[.int .i64 t323, .int .i64 t324])) 1 rfl rfl (hon 1 (by kernel_rfl)) rfl
      replace ha := Aside0.mk ha
      have BK322 := Aside0.mk Q_BK322
      have HB := Aside0.mk Q_HB
      refine value_ (w1 := w') (v := .agg #[.int .i64 1, .int .i64 t323, .int .i64 t324, .int .i64 0, .int .i64 0, .int .i64 0, .int .i64 0]) (by rfl) rfl ?_ ?_
      ·
       go_simp
       (try simp only [i64_w])
       try rfl
      refine hK.out _ _ ⟨gb328, m7_, (by rw [ha.out]; exact putSel_upk 2 hb_ rfl rfl rfl), Q_BK322, Q_HB, Q_BK328, Q_GW328, Q_GE328, Q_NB322_328, Q_NB328_322, fun h0_ => absurd ((hoff 8 (by kernel_rfl)).symm.trans h0_) (by decide), Q_X7_⟩
     refine steps_cons ?_ ?_
     ·
      rintro b a w' ⟨gb328, m7_, ha, Q_BK322, Q_HB, Q_BK328, Q_GW328, Q_GE328, Q_NB322_328, Q_NB328_322, Q_BK328_e8, Q_X7_⟩ hb_ hon hoff
      refine ⟨_, rfl, fun K hK => ?_⟩
      have e13 : a.tmps[13]? = some (.agg #[.int .i64 2000, .int .i64 5000, .int .i64 7000, .int .i64 t312, .int .i64 t313, .int .i64 t314, .int .i64 t315, .int .i64 t316, .int .i64 t317, .int .i64 t318, .int .i64 t319, .int .i64 t320, .int .i64 t321]) := by rw [ha]; exact putSel_on (e := (0, 13, .agg #[.int .i64 2000, .int .i64 5000, .int .i64 7000, .int .i64 t312, .int .i64 t313, .int .i64 t314, .int .i64 t315, .int .i64 t316, .int .i64 t317, .int .i64 t318, .int .i64 t319, .int .i64 t320, .int .i64 t321])) 0 rfl rfl (hon 0 (by kernel_rfl)) rfl
      have e15 : a.tmps[15]? = some (.agg #[.int .i64 1, .int .i64 t323, .int .i64 t324, .int .i64 0, .int .i64 0, .int .i64 0, .int .i64 0]) := by rw [ha]; exact putSel_on (e := (2, 15, .agg #[.int .i64 1, .int .i64 t323, .int .i64 t324, .int .i64 0, .int .i64 0, .int .i64 0, .int .i64 0])) 2 rfl rfl (hon 2 (by kernel_rfl)) rfl
      replace ha := Aside0.mk ha
      have BK322 := Aside0.mk Q_BK322
      have HB := Aside0.mk Q_HB
      refine goes_ Try.func21 (by kernel_rfl) rfl #[.agg #[.int .i64 2000, .int .i64 5000, .int .i64 7000, .int .i64 t312, .int .i64 t313, .int .i64 t314, .int .i64 t315, .int .i64 t316, .int .i64 t317, .int .i64 t318, .int .i64 t319, .int .i64 t320, .int .i64 t321], .agg #[.int .i64 1, .int .i64 t323, .int .i64 t324, .int .i64 0, .int .i64 0, .int .i64 0, .int .i64 0]] (by rfl) rfl rfl (by first | (simp only [List.map_toArray, List.map_cons, List.map_nil, Act.eval, Array.getD_eq_getD_getElem?, Option.getD_some, e13, e15]; done) | (simp only [List.map_toArray, List.map_cons, List.map_nil, Act.eval, Array.getD_eq_getD_getElem?, Option.getD_some, e13, e15]; rfl)) ?_
      with_reducible refine (bolt_Force.calls 2000 5000 7000 t312 t313 t314 t315 t316 t317 t318 t319 t320 t321 1 t323 t324 0 0 0 0 t325 t326 t327 _ A7.out).mono ?_
      rintro e w27 ⟨rfl, hb⟩
      refine ⟨_, rfl, ?_⟩
      have n0_ := Aside0.mk (blk_below (pl BK322.out) hb)
      have n1_ := Aside0.mk (below_step (hbp HB.out) hb)
      have z_BK328 := fun (h0_ : b 7 = true) (h1_ : b 8 = false) => (show w27.heap[gb328]? = some (.cells #[.int .i64 0, .int .i64 0] 36 (0, 0)) from by first | exact (blk_below (g := gb328) (pl (Q_BK328 h0_ h1_)) hb))
      clear BK322 HB; have BK322 := n0_; have HB := n1_; clear n0_ n1_; (try clear hb); (try clear hb2); (try clear hk); (try clear hi)
      refine hK.out _ _ ⟨gb328, m7_, (by rw [ha.out]; exact putSel_upk 3 hb_ rfl rfl rfl), (pl BK322.out), (hbp HB.out), z_BK328, Q_GW328, Q_GE328, Q_NB322_328, Q_NB328_322, fun h0_ => absurd ((hoff 8 (by kernel_rfl)).symm.trans h0_) (by decide), Q_X7_⟩
     refine steps_cons ?_ ?_
     ·
      rintro b a w' ⟨gb328, m7_, ha, Q_BK322, Q_HB, Q_BK328, Q_GW328, Q_GE328, Q_NB322_328, Q_NB328_322, Q_BK328_e8, Q_X7_⟩ hb_ hon hoff
      refine ⟨_, rfl, fun K hK => ?_⟩
      have e16 : a.tmps[16]? = some (.tuple #[.agg #[.int .i64 t325, .int .i64 t326], .int .i64 t327]) := by rw [ha]; exact putSel_on (e := (3, 16, .tuple #[.agg #[.int .i64 t325, .int .i64 t326], .int .i64 t327])) 3 rfl rfl (hon 3 (by kernel_rfl)) rfl
      replace ha := Aside0.mk ha
      have BK322 := Aside0.mk Q_BK322
      have HB := Aside0.mk Q_HB
      refine value_ (w1 := w') (v := .tuple #[.agg #[.int .i64 t325, .int .i64 t326], .int .i64 t327]) (by rfl) rfl ?_ ?_
      ·
       go_simp
       (try simp only [i64_w])
       try rfl
      refine hK.out _ _ ⟨gb328, m7_, (by rw [ha.out]; exact putSel_upk 4 hb_ rfl rfl rfl), Q_BK322, Q_HB, Q_BK328, Q_GW328, Q_GE328, Q_NB322_328, Q_NB328_322, fun h0_ => absurd ((hoff 8 (by kernel_rfl)).symm.trans h0_) (by decide), Q_X7_⟩
     refine steps_cons ?_ ?_
     ·
      rintro b a w' ⟨gb328, m7_, ha, Q_BK322, Q_HB, Q_BK328, Q_GW328, Q_GE328, Q_NB322_328, Q_NB328_322, Q_BK328_e8, Q_X7_⟩ hb_ hon hoff
      refine ⟨_, rfl, fun K hK => ?_⟩
      have e12 : a.tmps[12]? = some (.tuple #[.agg #[.int .i64 t325, .int .i64 t326], .int .i64 t327]) := by rw [ha]; exact putSel_on (e := (4, 12, .tuple #[.agg #[.int .i64 t325, .int .i64 t326], .int .i64 t327])) 4 rfl rfl (hon 4 (by kernel_rfl)) rfl
      replace ha := Aside0.mk ha
      have BK322 := Aside0.mk Q_BK322
      have HB := Aside0.mk Q_HB
      refine value_ (w1 := w') (v := .agg #[.int .i64 t325, .int .i64 t326]) (by rfl) rfl ?_ ?_
      ·
       go_simp
       (try simp only [i64_w])
       try rfl
      refine hK.out _ _ ⟨gb328, m7_, (by rw [ha.out]; exact putSel_upk 5 hb_ rfl rfl rfl), Q_BK322, Q_HB, Q_BK328, Q_GW328, Q_GE328, Q_NB322_328, Q_NB328_322, fun h0_ => absurd ((hoff 8 (by kernel_rfl)).symm.trans h0_) (by decide), Q_X7_⟩
     refine steps_cons ?_ ?_
     ·
      rintro b a w' ⟨gb328, m7_, ha, Q_BK322, Q_HB, Q_BK328, Q_GW328, Q_GE328, Q_NB322_328, Q_NB328_322, Q_BK328_e8, Q_X7_⟩ hb_ hon hoff
      refine ⟨_, rfl, fun K hK => ?_⟩
      have e12 : a.tmps[12]? = some (.tuple #[.agg #[.int .i64 t325, .int .i64 t326], .int .i64 t327]) := by rw [ha]; exact putSel_on (e := (4, 12, .tuple #[.agg #[.int .i64 t325, .int .i64 t326], .int .i64 t327])) 4 rfl rfl (hon 4 (by kernel_rfl)) rfl
      replace ha := Aside0.mk ha
      have BK322 := Aside0.mk Q_BK322
      have HB := Aside0.mk Q_HB
      refine value_ (w1 := w') (v := .int .i64 t327) (by rfl) rfl ?_ ?_
      ·
       go_simp
       (try simp only [i64_w])
       try rfl
      refine hK.out _ _ ⟨gb328, m7_, (by rw [ha.out]; exact putSel_upk 6 hb_ rfl rfl rfl), Q_BK322, Q_HB, Q_BK328, Q_GW328, Q_GE328, Q_NB322_328, Q_NB328_322, Q_BK328_e8, Q_X7_⟩
     refine steps_cons ?_ ?_
     ·
      rintro b a w' ⟨gb328, m7_, ha, Q_BK322, Q_HB, Q_BK328, Q_GW328, Q_GE328, Q_NB322_328, Q_NB328_322, Q_BK328_e8, Q_X7_⟩ hb_ hon hoff
      refine ⟨_, rfl, fun K hK => ?_⟩
      replace ha := Aside0.mk ha
      have BK322 := Aside0.mk Q_BK322
      have HB := Aside0.mk Q_HB
      refine box_step ?hg (N := 2) ?hd (cs := #[.int .i64 0, .int .i64 0]) (t := 36) ?hr ?_; (case hd => rfl); (case hg => rfl); (case hr => first | (go_simp; done) | (go_simp; rfl))
      intro gb328 hg w25 hbox hb
      have n0_ := Aside0.mk (blk_below (pl BK322.out) hb)
      have n1_ := Aside0.mk (below_step (hbp HB.out) hb)
      have n2_ := Aside0.mk (hbox)
      have n3_ := Aside0.mk (geB hg (hbp HB.out))
      have n4_ := Aside0.mk (geB hg (hbp HB.out))
      have n5_ := Aside0.mk (ltB hg (pl BK322.out))
      have n6_ := Aside0.mk (gtB hg (pl BK322.out))
      clear BK322 HB; have BK322 := n0_; have HB := n1_; have BK328 := n2_; have GW328 := n3_; have GE328 := n4_; have NB322_328 := n5_; have NB328_322 := n6_; clear n0_ n1_ n2_ n3_ n4_ n5_ n6_ hb hbox hg
      refine hK.out _ _ ⟨gb328, (.pointer (some ⟨gb328, 0, none⟩)), (by rw [ha.out]; exact putSel_upk 7 hb_ rfl rfl rfl), (pl BK322.out), (hbp HB.out), fun _ _ => (pl BK328.out), fun _ => GW328.out, fun _ => GE328.out, fun _ => NB322_328.out, fun _ => NB328_322.out, fun h0_ => absurd ((hoff 8 (by kernel_rfl)).symm.trans h0_) (by decide), fun _ => rfl⟩
     refine steps_cons ?_ ?_
     ·
      rintro b a w' ⟨gb328, m7_, ha, Q_BK322, Q_HB, Q_BK328, Q_GW328, Q_GE328, Q_NB322_328, Q_NB328_322, Q_BK328_e8, Q_X7_⟩ hb_ hon hoff
      refine ⟨_, rfl, fun K hK => ?_⟩
      have e2 : a.tmps[2]? = some (m7_) := by rw [ha]; exact putSel_on (e := (7, 2, m7_)) 7 rfl rfl (hon 7 (by kernel_rfl)) rfl
      rw [Q_X7_ (hon 7 (by kernel_rfl))] at e2
      have e17 : a.tmps[17]? = some (.agg #[.int .i64 t325, .int .i64 t326]) := by rw [ha]; exact putSel_on (e := (5, 17, .agg #[.int .i64 t325, .int .i64 t326])) 5 rfl rfl (hon 5 (by kernel_rfl)) rfl
      replace ha := Aside0.mk ha
      have BK322 := Aside0.mk Q_BK322
      have HB := Aside0.mk Q_HB
      have BK328 := Aside0.mk (Q_BK328 (hon 7 (by kernel_rfl)) hb_)
      have GW328 := Aside0.mk (Q_GW328 (hon 7 (by kernel_rfl)))
      have GE328 := Aside0.mk (Q_GE328 (hon 7 (by kernel_rfl)))
      have NB322_328 := Aside0.mk (Q_NB322_328 (hon 7 (by kernel_rfl)))
      have NB328_322 := Aside0.mk (Q_NB328_322 (hon 7 (by kernel_rfl)))
      have hs29 : w'.cell? ⟨gb328, 0, none⟩ = some (.int .i64 0) := (blk_cell BK328.out 0).trans rfl
      have hfs29 := blk_frozen BK328.out 0
      have hns29_0 := NB322_328.out
      have hms29_0 := NB328_322.out
      have hs30 : w'.cell? ⟨gb328, 1, none⟩ = some (.int .i64 0) := (blk_cell BK328.out 1).trans rfl
      have hfs30 := blk_frozen BK328.out 1
      have hns30_0 := NB322_328.out
      have hms30_0 := NB328_322.out
      refine skip_ (w1 := ?_) (by rfl) rfl ?_ ?_
      rotate_left
      ·
       go_simp
       rfl
      refine hK.out _ _ ⟨gb328, m7_, (by rw [ha.out]; exact putSel_none (v := undef) rfl), (plf BK322.out), (hbp HB.out), fun _ h1_ => absurd ((up_self b 8).symm.trans h1_) (by decide), fun _ => GW328.out, fun _ => GE328.out, fun _ => NB322_328.out, fun _ => NB328_322.out, fun _ => (by (with_reducible repeat (first | refine blk_drewN ?_ _ | refine blk_drew ?_ | refine blk_alloc ?_ _)); refine blk_put (cs := #[.int .i64 t325, .int .i64 0]) ?_ 1 _ rfl; (with_reducible repeat (first | refine blk_drewN ?_ _ | refine blk_drew ?_ | refine blk_alloc ?_ _)); refine blk_put (cs := #[.int .i64 0, .int .i64 0]) ?_ 0 _ rfl; (with_reducible repeat (first | refine blk_drewN ?_ _ | refine blk_drew ?_ | refine blk_alloc ?_ _)); exact BK328.out), Q_X7_⟩
     refine steps_cons ?_ ?_
     ·
      rintro b a w' ⟨gb328, m7_, ha, Q_BK322, Q_HB, Q_BK328, Q_GW328, Q_GE328, Q_NB322_328, Q_NB328_322, Q_BK328_e8, Q_X7_⟩ hb_ hon hoff
      refine ⟨_, rfl, fun K hK => ?_⟩
      have e18 : a.tmps[18]? = some (.int .i64 t327) := by rw [ha]; exact putSel_on (e := (6, 18, .int .i64 t327)) 6 rfl rfl (hon 6 (by kernel_rfl)) rfl
      replace ha := Aside0.mk ha
      have BK322 := Aside0.mk Q_BK322
      have HB := Aside0.mk Q_HB
      have GW328 := Aside0.mk (Q_GW328 (hon 7 (by kernel_rfl)))
      have GE328 := Aside0.mk (Q_GE328 (hon 7 (by kernel_rfl)))
      have NB322_328 := Aside0.mk (Q_NB322_328 (hon 7 (by kernel_rfl)))
      have NB328_322 := Aside0.mk (Q_NB328_322 (hon 7 (by kernel_rfl)))
      have BK328 := Aside0.mk (Q_BK328_e8 (hon 8 (by kernel_rfl)))
      refine value_ (w1 := w') (v := .int .i64 t327) (by rfl) rfl ?_ ?_
      ·
       go_simp
       (try simp only [i64_w])
       try rfl
      refine hK.out _ _ ⟨gb328, m7_, (by rw [ha.out]; exact putSel_upk 8 hb_ rfl rfl rfl), Q_BK322, Q_HB, fun _ h1_ => absurd ((hon 8 (by kernel_rfl)).symm.trans h1_) (by decide), Q_GW328, Q_GE328, Q_NB322_328, Q_NB328_322, Q_BK328_e8, Q_X7_⟩
     exact steps_nil
    rintro b a w30 hall ⟨gb328, m7_, ha, Q_BK322, Q_HB, Q_BK328, Q_GW328, Q_GE328, Q_NB322_328, Q_NB328_322, Q_BK328_e8, Q_X7_⟩
    clear BK322 HB
    have hb0_ := hall 0 (by kernel_rfl)
    have hb1_ := hall 1 (by kernel_rfl)
    have hb2_ := hall 2 (by kernel_rfl)
    have hb3_ := hall 3 (by kernel_rfl)
    have hb4_ := hall 4 (by kernel_rfl)
    have hb5_ := hall 5 (by kernel_rfl)
    have hb6_ := hall 6 (by kernel_rfl)
    have hb7_ := hall 7 (by kernel_rfl)
    have hb8_ := hall 8 (by kernel_rfl)
    have hb9_ := hall 9 (by kernel_rfl)
    subst ha
    obtain rfl := Q_X7_ hb7_
    simp only [putSel, hb0_, hb1_, hb2_, hb3_, hb4_, hb5_, hb6_, hb7_, hb8_, hb9_, if_true, Act.put, List.setIfInBounds_toArray, List.set_cons_zero, List.set_cons_succ]
    have BK322 := Aside0.mk Q_BK322
    clear Q_BK322
    have HB := Aside0.mk Q_HB
    clear Q_HB Q_BK328
    have GW328 := Aside0.mk (Q_GW328 hb7_)
    clear Q_GW328
    have GE328 := Aside0.mk (Q_GE328 hb7_)
    clear Q_GE328
    have NB322_328 := Aside0.mk (Q_NB322_328 hb7_)
    clear Q_NB322_328
    have NB328_322 := Aside0.mk (Q_NB328_322 hb7_)
    clear Q_NB328_322
    have BK328 := Aside0.mk (Q_BK328_e8 hb8_)
    clear Q_BK328_e8 hall hb0_ hb1_ hb2_ hb3_ hb4_ hb5_ hb6_ hb7_ hb8_ hb9_
    try go_wp2
    have n0_ := Aside0.mk (blk_drew BK322.out)
    have n1_ := Aside0.mk (blk_drew BK328.out)
    have n2_ := Aside0.mk (below_drew1 HB.out)
    clear BK322 BK328 HB; have BK322 := n0_; have BK328 := n1_; have HB := n2_; clear n0_ n1_ n2_
    refine start_ (n := 10) (S := fun w' => True) (ds := []) #[false, false, false, false, false, false, false, false, false, false] (by kernel_rfl) rfl rfl trivial (fun hHeld => ?_); refine with_tabW acmetop_armBolt.tab3 acmetop_armBolt.bits3 (fun HT_ HW_ => ?_)
    generalize w30.drew = w31 at BK322 BK328 HB hHeld ⊢
    refine inv_at [0, 1, 2, 3, 4, 5, 6, 7, 8, 9] (fun a0_ b a w' => ∃ (gb336 : Nat) (m7_ : Value), a = putSel a0_ b [(0, 20, .agg #[.int .i64 2000, .int .i64 5000, .int .i64 7000, .int .i64 t312, .int .i64 t313, .int .i64 t314, .int .i64 t315, .int .i64 t316, .int .i64 t317, .int .i64 t318, .int .i64 t319, .int .i64 t320, .int .i64 t321]), (1, 21, .agg #[.int .i64 t329, .int .i64 t330]), (2, 22, .agg #[.int .i64 t331, .int .i64 t332]), (3, 23, .tuple #[.agg #[.int .i64 t333, .int .i64 t334], .int .i64 t335]), (4, 19, .tuple #[.agg #[.int .i64 t333, .int .i64 t334], .int .i64 t335]), (5, 24, .agg #[.int .i64 t333, .int .i64 t334]), (6, 25, .int .i64 t335), (7, 4, m7_), (9, 5, .int .i64 t335)] ∧ (w'.heap[gb322]? = some (.cells #[.int .i64 2000, .int .i64 5000, .int .i64 7000, .int .i64 t312, .int .i64 t313, .int .i64 t314, .int .i64 t315, .int .i64 t316, .int .i64 t317, .int .i64 t318, .int .i64 t319, .int .i64 t320, .int .i64 t321] 38 (0, 0))) ∧ (w'.heap[gb328]? = some (.cells #[.int .i64 t325, .int .i64 t326] 36 (0, 0))) ∧ (Below w.heap.size w w') ∧ (b 7 = true → b 8 = false → w'.heap[gb336]? = some (.cells #[.int .i64 0, .int .i64 0] 36 (0, 0))) ∧ (b 7 = true → w.heap.size ≤ gb336) ∧ (b 7 = true → w.heap.size ≤ gb336) ∧ (b 7 = true → gb322 ≠ gb336) ∧ (b 7 = true → gb336 ≠ gb322) ∧ (b 7 = true → gb328 ≠ gb336) ∧ (b 7 = true → gb336 ≠ gb328) ∧ (b 8 = true → w'.heap[gb336]? = some (.cells #[.int .i64 t333, .int .i64 t334] 36 (0, 0))) ∧ (b 7 = true → (m7_ : Value) = .pointer (some ⟨gb336, 0, none⟩))) HT_.out HW_.out (by kernel_rfl) (by kernel_rfl) ?_ ?_ ?_
    · exact ⟨0, .bool false, by simp only [putSel, Bool.false_eq_true, if_false], BK322.out, BK328.out, HB.out, fun h_ => absurd h_ (by decide), fun h_ => absurd h_ (by decide), fun h_ => absurd h_ (by decide), fun h_ => absurd h_ (by decide), fun h_ => absurd h_ (by decide), fun h_ => absurd h_ (by decide), fun h_ => absurd h_ (by decide), fun h_ => absurd h_ (by decide), fun h_ => absurd h_ (by decide)⟩
    ·
     clear BK322 BK328 HB
     refine steps_cons ?_ ?_
     ·
      rintro b a w' ⟨gb336, m7_, ha, Q_BK322, Q_BK328, Q_HB, Q_BK336, Q_GW336, Q_GE336, Q_NB322_336, Q_NB336_322, Q_NB328_336, Q_NB336_328, Q_BK336_e8, Q_X7_⟩ hb_ hon hoff
      refine ⟨_, rfl, fun K hK => ?_⟩
      have e1 : a.tmps[1]? = some (.pointer (some ⟨gb322, 0, none⟩)) := by rw [ha]; exact (putSel_off rfl).trans rfl
      replace ha := Aside0.mk ha
      have BK322 := Aside0.mk Q_BK322
      have BK328 := Aside0.mk Q_BK328
      have HB := Aside0.mk Q_HB
      have hc0_ : w'.cell? ⟨gb322, 0, none⟩ = some (.int .i64 2000) := (blk_cell BK322.out 0).trans rfl
      have hc1_ : w'.cell? ⟨gb322, 1, none⟩ = some (.int .i64 5000) := (blk_cell BK322.out 1).trans rfl
      have hc2_ : w'.cell? ⟨gb322, 2, none⟩ = some (.int .i64 7000) := (blk_cell BK322.out 2).trans rfl
      have hc3_ : w'.cell? ⟨gb322, 3, none⟩ = some (.int .i64 t312) := (blk_cell BK322.out 3).trans rfl
      have hc4_ : w'.cell? ⟨gb322, 4, none⟩ = some (.int .i64 t313) := (blk_cell BK322.out 4).trans rfl
      have hc5_ : w'.cell? ⟨gb322, 5, none⟩ = some (.int .i64 t314) := (blk_cell BK322.out 5).trans rfl
      have hc6_ : w'.cell? ⟨gb322, 6, none⟩ = some (.int .i64 t315) := (blk_cell BK322.out 6).trans rfl
      have hc7_ : w'.cell? ⟨gb322, 7, none⟩ = some (.int .i64 t316) := (blk_cell BK322.out 7).trans rfl
      have hc8_ : w'.cell? ⟨gb322, 8, none⟩ = some (.int .i64 t317) := (blk_cell BK322.out 8).trans rfl
      have hc9_ : w'.cell? ⟨gb322, 9, none⟩ = some (.int .i64 t318) := (blk_cell BK322.out 9).trans rfl
      have hc10_ : w'.cell? ⟨gb322, 10, none⟩ = some (.int .i64 t319) := (blk_cell BK322.out 10).trans rfl
      have hc11_ : w'.cell? ⟨gb322, 11, none⟩ = some (.int .i64 t320) := (blk_cell BK322.out 11).trans rfl
      have hc12_ : w'.cell? ⟨gb322, 12, none⟩ = some (.int .i64 t321) := (blk_cell BK322.out 12).trans rfl
      refine value_ (w1 := w') (v := .agg #[.int .i64 2000, .int .i64 5000, .int .i64 7000, .int .i64 t312, .int .i64 t313, .int .i64 t314, .int .i64 t315, .int .i64 t316, .int .i64 t317, .int .i64 t318, .int .i64 t319, .int .i64 t320, .int .i64 t321]) (by rfl) rfl ?_ ?_
      ·
       go_simp
       (try simp only [i64_w])
       try rfl
      refine hK.out _ _ ⟨gb336, m7_, (by rw [ha.out]; exact putSel_upk 0 hb_ rfl rfl rfl), Q_BK322, Q_BK328, Q_HB, Q_BK336, Q_GW336, Q_GE336, Q_NB322_336, Q_NB336_322, Q_NB328_336, Q_NB336_328, fun h0_ => absurd ((hoff 8 (by kernel_rfl)).symm.trans h0_) (by decide), Q_X7_⟩
     refine steps_cons ?_ ?_
     ·
      rintro b a w' ⟨gb336, m7_, ha, Q_BK322, Q_BK328, Q_HB, Q_BK336, Q_GW336, Q_GE336, Q_NB322_336, Q_NB336_322, Q_NB328_336, Q_NB336_328, Q_BK336_e8, Q_X7_⟩ hb_ hon hoff
      refine ⟨_, rfl, fun K hK => ?_⟩
      replace ha := Aside0.mk ha
      have BK322 := Aside0.mk Q_BK322
      have BK328 := Aside0.mk Q_BK328
      have HB := Aside0.mk Q_HB
      refine goes_ Try.func17 (by kernel_rfl) rfl #[.int .i64 17000, .int .i64 21000] (by rfl) rfl rfl (by first | (simp only [List.map_toArray, List.map_cons, List.map_nil, Act.eval, Array.getD_eq_getD_getElem?, Option.getD_some]; done) | (simp only [List.map_toArray, List.map_cons, List.map_nil, Act.eval, Array.getD_eq_getD_getElem?, Option.getD_some]; rfl)) ?_
      with_reducible refine (acmetop_armSpan.calls 17000 21000 t329 t330 _ A8.out).mono ?_
      rintro e w32 ⟨rfl, hb⟩
      refine ⟨_, rfl, ?_⟩
      have n0_ := Aside0.mk (blk_below (pl BK322.out) hb)
      have n1_ := Aside0.mk (blk_below (pl BK328.out) hb)
      have n2_ := Aside0.mk (below_step (hbp HB.out) hb)
      have z_BK336 := fun (h0_ : b 7 = true) (h1_ : b 8 = false) => (show w32.heap[gb336]? = some (.cells #[.int .i64 0, .int .i64 0] 36 (0, 0)) from by first | exact (blk_below (g := gb336) (pl (Q_BK336 h0_ h1_)) hb))
      clear BK322 BK328 HB; have BK322 := n0_; have BK328 := n1_; have HB := n2_; clear n0_ n1_ n2_; (try clear hb); (try clear hb2); (try clear hk); (try clear hi)
      refine hK.out _ _ ⟨gb336, m7_, (by rw [ha.out]; exact putSel_upk 1 hb_ rfl rfl rfl), (pl BK322.out), (pl BK328.out), (hbp HB.out), z_BK336, Q_GW336, Q_GE336, Q_NB322_336, Q_NB336_322, Q_NB328_336, Q_NB336_328, fun h0_ => absurd ((hoff 8 (by kernel_rfl)).symm.trans h0_) (by decide), Q_X7_⟩
     refine steps_cons ?_ ?_
     ·
      rintro b a w' ⟨gb336, m7_, ha, Q_BK322, Q_BK328, Q_HB, Q_BK336, Q_GW336, Q_GE336, Q_NB322_336, Q_NB336_322, Q_NB328_336, Q_NB336_328, Q_BK336_e8, Q_X7_⟩ hb_ hon hoff
      refine ⟨_, rfl, fun K hK => ?_⟩
      replace ha := Aside0.mk ha
      have BK322 := Aside0.mk Q_BK322
      have BK328 := Aside0.mk Q_BK328
      have HB := Aside0.mk Q_HB
      refine goes_ Try.func17 (by kernel_rfl) rfl #[.int .i64 (-500000), .int .i64 500000] (by rfl) rfl rfl (by first | (simp only [List.map_toArray, List.map_cons, List.map_nil, Act.eval, Array.getD_eq_getD_getElem?, Option.getD_some]; done) | (simp only [List.map_toArray, List.map_cons, List.map_nil, Act.eval, Array.getD_eq_getD_getElem?, Option.getD_some]; rfl)) ?_
      with_reducible refine (acmetop_armSpan.calls (-500000) 500000 t331 t332 _ A9.out).mono ?_
      rintro e w34 ⟨rfl, hb⟩
      refine ⟨_, rfl, ?_⟩
      have n0_ := Aside0.mk (blk_below (pl BK322.out) hb)
      have n1_ := Aside0.mk (blk_below (pl BK328.out) hb)
      have n2_ := Aside0.mk (below_step (hbp HB.out) hb)
      have z_BK336 := fun (h0_ : b 7 = true) (h1_ : b 8 = false) => (show w34.heap[gb336]? = some (.cells #[.int .i64 0, .int .i64 0] 36 (0, 0)) from by first | exact (blk_below (g := gb336) (pl (Q_BK336 h0_ h1_)) hb))
      clear BK322 BK328 HB; have BK322 := n0_; have BK328 := n1_; have HB := n2_; clear n0_ n1_ n2_; (try clear hb); (try clear hb2); (try clear hk); (try clear hi)
      refine hK.out _ _ ⟨gb336, m7_, (by rw [ha.out]; exact putSel_upk 2 hb_ rfl rfl rfl), (pl BK322.out), (pl BK328.out), (hbp HB.out), z_BK336, Q_GW336, Q_GE336, Q_NB322_336, Q_NB336_322, Q_NB328_336, Q_NB336_328, fun h0_ => absurd ((hoff 8 (by kernel_rfl)).symm.trans h0_) (by decide), Q_X7_⟩
     refine steps_cons ?_ ?_
     ·
      rintro b a w' ⟨gb336, m7_, ha, Q_BK322, Q_BK328, Q_HB, Q_BK336, Q_GW336, Q_GE336, Q_NB322_336, Q_NB336_322, Q_NB328_336, Q_NB336_328, Q_BK336_e8, Q_X7_⟩ hb_ hon hoff
      refine ⟨_, rfl, fun K hK => ?_⟩
      have e20 : a.tmps[20]? = some (.agg #[.int .i64 2000, .int .i64 5000, .int .i64 7000, .int .i64 t312, .int .i64 t313, .int .i64 t314, .int .i64 t315, .int .i64 t316, .int .i64 t317, .int .i64 t318, .int .i64 t319, .int .i64 t320, .int .i64 t321]) := by rw [ha]; exact putSel_on (e := (0, 20, .agg #[.int .i64 2000, .int .i64 5000, .int .i64 7000, .int .i64 t312, .int .i64 t313, .int .i64 t314, .int .i64 t315, .int .i64 t316, .int .i64 t317, .int .i64 t318, .int .i64 t319, .int .i64 t320, .int .i64 t321])) 0 rfl rfl (hon 0 (by kernel_rfl)) rfl
      have e21 : a.tmps[21]? = some (.agg #[.int .i64 t329, .int .i64 t330]) := by rw [ha]; exact putSel_on (e := (1, 21, .agg #[.int .i64 t329, .int .i64 t330])) 1 rfl rfl (hon 1 (by kernel_rfl)) rfl
      have e22 : a.tmps[22]? = some (.agg #[.int .i64 t331, .int .i64 t332]) := by rw [ha]; exact putSel_on (e := (2, 22, .agg #[.int .i64 t331, .int .i64 t332])) 2 rfl rfl (hon 2 (by kernel_rfl)) rfl
      replace ha := Aside0.mk ha
      have BK322 := Aside0.mk Q_BK322
      have BK328 := Aside0.mk Q_BK328
      have HB := Aside0.mk Q_HB
      refine goes_ Try.func66 (by kernel_rfl) rfl #[.agg #[.int .i64 2000, .int .i64 5000, .int .i64 7000, .int .i64 t312, .int .i64 t313, .int .i64 t314, .int .i64 t315, .int .i64 t316, .int .i64 t317, .int .i64 t318, .int .i64 t319, .int .i64 t320, .int .i64 t321], .agg #[.int .i64 t329, .int .i64 t330], .agg #[.int .i64 t331, .int .i64 t332]] (by rfl) rfl rfl (by first | (simp only [List.map_toArray, List.map_cons, List.map_nil, Act.eval, Array.getD_eq_getD_getElem?, Option.getD_some, e20, e21, e22]; done) | (simp only [List.map_toArray, List.map_cons, List.map_nil, Act.eval, Array.getD_eq_getD_getElem?, Option.getD_some, e20, e21, e22]; rfl)) ?_
      with_reducible refine (bolt_Right.calls 2000 5000 7000 t312 t313 t314 t315 t316 t317 t318 t319 t320 t321 t329 t330 t331 t332 t333 t334 t335 _ A10.out).mono ?_
      rintro e w35 ⟨rfl, hb⟩
      refine ⟨_, rfl, ?_⟩
      have n0_ := Aside0.mk (blk_below (pl BK322.out) hb)
      have n1_ := Aside0.mk (blk_below (pl BK328.out) hb)
      have n2_ := Aside0.mk (below_step (hbp HB.out) hb)
      have z_BK336 := fun (h0_ : b 7 = true) (h1_ : b 8 = false) => (show w35.heap[gb336]? = some (.cells #[.int .i64 0, .int .i64 0] 36 (0, 0)) from by first | exact (blk_below (g := gb336) (pl (Q_BK336 h0_ h1_)) hb))
      clear BK322 BK328 HB; have BK322 := n0_; have BK328 := n1_; have HB := n2_; clear n0_ n1_ n2_; (try clear hb); (try clear hb2); (try clear hk); (try clear hi)
      refine hK.out _ _ ⟨gb336, m7_, (by rw [ha.out]; exact putSel_upk 3 hb_ rfl rfl rfl), (pl BK322.out), (pl BK328.out), (hbp HB.out), z_BK336, Q_GW336, Q_GE336, Q_NB322_336, Q_NB336_322, Q_NB328_336, Q_NB336_328, fun h0_ => absurd ((hoff 8 (by kernel_rfl)).symm.trans h0_) (by decide), Q_X7_⟩
     refine steps_cons ?_ ?_
     ·
      rintro b a w' ⟨gb336, m7_, ha, Q_BK322, Q_BK328, Q_HB, Q_BK336, Q_GW336, Q_GE336, Q_NB322_336, Q_NB336_322, Q_NB328_336, Q_NB336_328, Q_BK336_e8, Q_X7_⟩ hb_ hon hoff
      refine ⟨_, rfl, fun K hK => ?_⟩
      have e23 : a.tmps[23]? = some (.tuple #[.agg #[.int .i64 t333, .int .i64 t334], .int .i64 t335]) := by rw [ha]; exact putSel_on (e := (3, 23, .tuple #[.agg #[.int .i64 t333, .int .i64 t334], .int .i64 t335])) 3 rfl rfl (hon 3 (by kernel_rfl)) rfl
      replace ha := Aside0.mk ha
      have BK322 := Aside0.mk Q_BK322
      have BK328 := Aside0.mk Q_BK328
      have HB := Aside0.mk Q_HB
      refine value_ (w1 := w') (v := .tuple #[.agg #[.int .i64 t333, .int .i64 t334], .int .i64 t335]) (by rfl) rfl ?_ ?_
      ·
       go_simp
       (try simp only [i64_w])
       try rfl
      refine hK.out _ _ ⟨gb336, m7_, (by rw [ha.out]; exact putSel_upk 4 hb_ rfl rfl rfl), Q_BK322, Q_BK328, Q_HB, Q_BK336, Q_GW336, Q_GE336, Q_NB322_336, Q_NB336_322, Q_NB328_336, Q_NB336_328, fun h0_ => absurd ((hoff 8 (by kernel_rfl)).symm.trans h0_) (by decide), Q_X7_⟩
     refine steps_cons ?_ ?_
     ·
      rintro b a w' ⟨gb336, m7_, ha, Q_BK322, Q_BK328, Q_HB, Q_BK336, Q_GW336, Q_GE336, Q_NB322_336, Q_NB336_322, Q_NB328_336, Q_NB336_328, Q_BK336_e8, Q_X7_⟩ hb_ hon hoff
      refine ⟨_, rfl, fun K hK => ?_⟩
      have e19 : a.tmps[19]? = some (.tuple #[.agg #[.int .i64 t333, .int .i64 t334], .int .i64 t335]) := by rw [ha]; exact putSel_on (e := (4, 19, .tuple #[.agg #[.int .i64 t333, .int .i64 t334], .int .i64 t335])) 4 rfl rfl (hon 4 (by kernel_rfl)) rfl
      replace ha := Aside0.mk ha
      have BK322 := Aside0.mk Q_BK322
      have BK328 := Aside0.mk Q_BK328
      have HB := Aside0.mk Q_HB
      refine value_ (w1 := w') (v := .agg #[.int .i64 t333, .int .i64 t334]) (by rfl) rfl ?_ ?_
      ·
       go_simp
       (try simp only [i64_w])
       try rfl
      refine hK.out _ _ ⟨gb336, m7_, (by rw [ha.out]; exact putSel_upk 5 hb_ rfl rfl rfl), Q_BK322, Q_BK328, Q_HB, Q_BK336, Q_GW336, Q_GE336, Q_NB322_336, Q_NB336_322, Q_NB328_336, Q_NB336_328, fun h0_ => absurd ((hoff 8 (by kernel_rfl)).symm.trans h0_) (by decide), Q_X7_⟩
     refine steps_cons ?_ ?_
     ·
      rintro b a w' ⟨gb336, m7_, ha, Q_BK322, Q_BK328, Q_HB, Q_BK336, Q_GW336, Q_GE336, Q_NB322_336, Q_NB336_322, Q_NB328_336, Q_NB336_328, Q_BK336_e8, Q_X7_⟩ hb_ hon hoff
      refine ⟨_, rfl, fun K hK => ?_⟩
      have e19 : a.tmps[19]? = some (.tuple #[.agg #[.int .i64 t333, .int .i64 t334], .int .i64 t335]) := by rw [ha]; exact putSel_on (e := (4, 19, .tuple #[.agg #[.int .i64 t333, .int .i64 t334], .int .i64 t335])) 4 rfl rfl (hon 4 (by kernel_rfl)) rfl
      replace ha := Aside0.mk ha
      have BK322 := Aside0.mk Q_BK322
      have BK328 := Aside0.mk Q_BK328
      have HB := Aside0.mk Q_HB
      refine value_ (w1 := w') (v := .int .i64 t335) (by rfl) rfl ?_ ?_
      ·
       go_simp
       (try simp only [i64_w])
       try rfl
      refine hK.out _ _ ⟨gb336, m7_, (by rw [ha.out]; exact putSel_upk 6 hb_ rfl rfl rfl), Q_BK322, Q_BK328, Q_HB, Q_BK336, Q_GW336, Q_GE336, Q_NB322_336, Q_NB336_322, Q_NB328_336, Q_NB336_328, Q_BK336_e8, Q_X7_⟩
     refine steps_cons ?_ ?_
     ·
      rintro b a w' ⟨gb336, m7_, ha, Q_BK322, Q_BK328, Q_HB, Q_BK336, Q_GW336, Q_GE336, Q_NB322_336, Q_NB336_322, Q_NB328_336, Q_NB336_328, Q_BK336_e8, Q_X7_⟩ hb_ hon hoff
      refine ⟨_, rfl, fun K hK => ?_⟩
      replace ha := Aside0.mk ha
      have BK322 := Aside0.mk Q_BK322
      have BK328 := Aside0.mk Q_BK328
      have HB := Aside0.mk Q_HB
      refine box_step ?hg (N := 4) ?hd (cs := #[.int .i64 0, .int .i64 0]) (t := 36) ?hr ?_; (case hd => rfl); (case hg => rfl); (case hr => first | (go_simp; done) | (go_simp; rfl))
      intro gb336 hg w32 hbox hb
      have n0_ := Aside0.mk (blk_below (pl BK322.out) hb)
      have n1_ := Aside0.mk (blk_below (pl BK328.out) hb)
      have n2_ := Aside0.mk (below_step (hbp HB.out) hb)
      have n3_ := Aside0.mk (hbox)
      have n4_ := Aside0.mk (geB hg (hbp HB.out))
      have n5_ := Aside0.mk (geB hg (hbp HB.out))
      have n6_ := Aside0.mk (ltB hg (pl BK322.out))
      have n7_ := Aside0.mk (gtB hg (pl BK322.out))
      have n8_ := Aside0.mk (ltB hg (pl BK328.out))
      have n9_ := Aside0.mk (gtB hg (pl BK328.out))
      clear BK322 BK328 HB; have BK322 := n0_; have BK328 := n1_; have HB := n2_; have BK336 := n3_; have GW336 := n4_; have GE336 := n5_; have NB322_336 := n6_; have NB336_322 := n7_; have NB328_336 := n8_; have NB336_328 := n9_; clear n0_ n1_ n2_ n3_ n4_ n5_ n6_ n7_ n8_ n9_ hb hbox hg
      refine hK.out _ _ ⟨gb336, (.pointer (some ⟨gb336, 0, none⟩)), (by rw [ha.out]; exact putSel_upk 7 hb_ rfl rfl rfl), (pl BK322.out), (pl BK328.out), (hbp HB.out), fun _ _ => (pl BK336.out), fun _ => GW336.out, fun _ => GE336.out, fun _ => NB322_336.out, fun _ => NB336_322.out, fun _ => NB328_336.out, fun _ => NB336_328.out, fun h0_ => absurd ((hoff 8 (by kernel_rfl)).symm.trans h0_) (by decide), fun _ => rfl⟩
     refine steps_cons ?_ ?_
     ·
      rintro b a w' ⟨gb336, m7_, ha, Q_BK322, Q_BK328, Q_HB, Q_BK336, Q_GW336, Q_GE336, Q_NB322_336, Q_NB336_322, Q_NB328_336, Q_NB336_328, Q_BK336_e8, Q_X7_⟩ hb_ hon hoff
      refine ⟨_, rfl, fun K hK => ?_⟩
      have e4 : a.tmps[4]? = some (m7_) := by rw [ha]; exact putSel_on (e := (7, 4, m7_)) 7 rfl rfl (hon 7 (by kernel_rfl)) rfl
      rw [Q_X7_ (hon 7 (by kernel_rfl))] at e4
      have e24 : a.tmps[24]? = some (.agg #[.int .i64 t333, .int .i64 t334]) := by rw [ha]; exact putSel_on (e := (5, 24, .agg #[.int .i64 t333, .int .i64 t334])) 5 rfl rfl (hon 5 (by kernel_rfl)) rfl
      replace ha := Aside0.mk ha
      have BK322 := Aside0.mk Q_BK322
      have BK328 := Aside0.mk Q_BK328
      have HB := Aside0.mk Q_HB
      have BK336 := Aside0.mk (Q_BK336 (hon 7 (by kernel_rfl)) hb_)
      have GW336 := Aside0.mk (Q_GW336 (hon 7 (by kernel_rfl)))
      have GE336 := Aside0.mk (Q_GE336 (hon 7 (by kernel_rfl)))
      have NB322_336 := Aside0.mk (Q_NB322_336 (hon 7 (by kernel_rfl)))
      have NB336_322 := Aside0.mk (Q_NB336_322 (hon 7 (by kernel_rfl)))
      have NB328_336 := Aside0.mk (Q_NB328_336 (hon 7 (by kernel_rfl)))
      have NB336_328 := Aside0.mk (Q_NB336_328 (hon 7 (by kernel_rfl)))
      have hs37 : w'.cell? ⟨gb336, 0, none⟩ = some (.int .i64 0) := (blk_cell BK336.out 0).trans rfl
      have hfs37 := blk_frozen BK336.out 0
      have hns37_0 := NB322_336.out
      have hns37_1 := NB328_336.out
      have hms37_0 := NB336_322.out
      have hms37_1 := NB336_328.out
      have hs38 : w'.cell? ⟨gb336, 1, none⟩ = some (.int .i64 0) := (blk_cell BK336.out 1).trans rfl
      have hfs38 := blk_frozen BK336.out 1
      have hns38_0 := NB322_336.out
      have hns38_1 := NB328_336.out
      have hms38_0 := NB336_322.out
      have hms38_1 := NB336_328.out
      refine skip_ (w1 := ?_) (by rfl) rfl ?_ ?_
      rotate_left
      ·
       go_simp
       rfl
      refine hK.out _ _ ⟨gb336, m7_, (by rw [ha.out]; exact putSel_none (v := undef) rfl), (plf BK322.out), (plf BK328.out), (hbp HB.out), fun _ h1_ => absurd ((up_self b 8).symm.trans h1_) (by decide), fun _ => GW336.out, fun _ => GE336.out, fun _ => NB322_336.out, fun _ => NB336_322.out, fun _ => NB328_336.out, fun _ => NB336_328.out, fun _ => (by (with_reducible repeat (first | refine blk_drewN ?_ _ | refine blk_drew ?_ | refine blk_alloc ?_ _)); refine blk_put (cs := #[.int .i64 t333, .int .i64 0]) ?_ 1 _ rfl; (with_reducible repeat (first | refine blk_drewN ?_ _ | refine blk_drew ?_ | refine blk_alloc ?_ _)); refine blk_put (cs := #[.int .i64 0, .int .i64 0]) ?_ 0 _ rfl; (with_reducible repeat (first | refine blk_drewN ?_ _ | refine blk_drew ?_ | refine blk_alloc ?_ _)); exact BK336.out), Q_X7_⟩
     refine steps_cons ?_ ?_
     ·
      rintro b a w' ⟨gb336, m7_, ha, Q_BK322, Q_BK328, Q_HB, Q_BK336, Q_GW336, Q_GE336, Q_NB322_336, Q_NB336_322, Q_NB328_336, Q_NB336_328, Q_BK336_e8, Q_X7_⟩ hb_ hon hoff
      refine ⟨_, rfl, fun K hK => ?_⟩
      have e25 : a.tmps[25]? = some (.int .i64 t335) := by rw [ha]; exact putSel_on (e := (6, 25, .int .i64 t335)) 6 rfl rfl (hon 6 (by kernel_rfl)) rfl
      replace ha := Aside0.mk ha
      have BK322 := Aside0.mk Q_BK322
      have BK328 := Aside0.mk Q_BK328
      have HB := Aside0.mk Q_HB
      have GW336 := Aside0.mk (Q_GW336 (hon 7 (by kernel_rfl)))
      have GE336 := Aside0.mk (Q_GE336 (hon 7 (by kernel_rfl)))
      have NB322_336 := Aside0.mk (Q_NB322_336 (hon 7 (by kernel_rfl)))
      have NB336_322 := Aside0.mk (Q_NB336_322 (hon 7 (by kernel_rfl)))
      have NB328_336 := Aside0.mk (Q_NB328_336 (hon 7 (by kernel_rfl)))
      have NB336_328 := Aside0.mk (Q_NB336_328 (hon 7 (by kernel_rfl)))
      have BK336 := Aside0.mk (Q_BK336_e8 (hon 8 (by kernel_rfl)))
      refine value_ (w1 := w') (v := .int .i64 t335) (by rfl) rfl ?_ ?_
      ·
       go_simp
       (try simp only [i64_w])
       try rfl
      refine hK.out _ _ ⟨gb336, m7_, (by rw [ha.out]; exact putSel_upk 8 hb_ rfl rfl rfl), Q_BK322, Q_BK328, Q_HB, fun _ h1_ => absurd ((hon 8 (by kernel_rfl)).symm.trans h1_) (by decide), Q_GW336, Q_GE336, Q_NB322_336, Q_NB336_322, Q_NB328_336, Q_NB336_328, Q_BK336_e8, Q_X7_⟩
     exact steps_nil
    rintro b a w38 hall ⟨gb336, m7_, ha, Q_BK322, Q_BK328, Q_HB, Q_BK336, Q_GW336, Q_GE336, Q_NB322_336, Q_NB336_322, Q_NB328_336, Q_NB336_328, Q_BK336_e8, Q_X7_⟩
    clear BK322 BK328 HB
    have hb0_ := hall 0 (by kernel_rfl)
    have hb1_ := hall 1 (by kernel_rfl)
    have hb2_ := hall 2 (by kernel_rfl)
    have hb3_ := hall 3 (by kernel_rfl)
    have hb4_ := hall 4 (by kernel_rfl)
    have hb5_ := hall 5 (by kernel_rfl)
    have hb6_ := hall 6 (by kernel_rfl)
    have hb7_ := hall 7 (by kernel_rfl)
    have hb8_ := hall 8 (by kernel_rfl)
    have hb9_ := hall 9 (by kernel_rfl)
    subst ha
    obtain rfl := Q_X7_ hb7_
    simp only [putSel, hb0_, hb1_, hb2_, hb3_, hb4_, hb5_, hb6_, hb7_, hb8_, hb9_, if_true, Act.put, List.setIfInBounds_toArray, List.set_cons_zero, List.set_cons_succ]
    have BK322 := Aside0.mk Q_BK322
    clear Q_BK322
    have BK328 := Aside0.mk Q_BK328
    clear Q_BK328
    have HB := Aside0.mk Q_HB
    clear Q_HB Q_BK336
    have GW336 := Aside0.mk (Q_GW336 hb7_)
    clear Q_GW336
    have GE336 := Aside0.mk (Q_GE336 hb7_)
    clear Q_GE336
    have NB322_336 := Aside0.mk (Q_NB322_336 hb7_)
    clear Q_NB322_336
    have NB336_322 := Aside0.mk (Q_NB336_322 hb7_)
    clear Q_NB336_322
    have NB328_336 := Aside0.mk (Q_NB328_336 hb7_)
    clear Q_NB328_336
    have NB336_328 := Aside0.mk (Q_NB336_328 hb7_)
    clear Q_NB336_328
    have BK336 := Aside0.mk (Q_BK336_e8 hb8_)
    clear Q_BK336_e8 hall hb0_ hb1_ hb2_ hb3_ hb4_ hb5_ hb6_ hb7_ hb8_ hb9_
    try go_wp2
    have n0_ := Aside0.mk (blk_drew BK322.out)
    have n1_ := Aside0.mk (blk_drew BK328.out)
    have n2_ := Aside0.mk (blk_drew BK336.out)
    have n3_ := Aside0.mk (below_drew1 HB.out)
    clear BK322 BK328 BK336 HB; have BK322 := n0_; have BK328 := n1_; have BK336 := n2_; have HB := n3_; clear n0_ n1_ n2_ n3_
    refine start_ (n := 17) (S := fun w' => w'.cell? ⟨gb328, 0, none⟩ = some (.int .i64 t325) ∧ w'.cell? ⟨gb328, 1, none⟩ = some (.int .i64 t326) ∧ w'.cell? ⟨gb336, 0, none⟩ = some (.int .i64 t333) ∧ w'.cell? ⟨gb336, 1, none⟩ = some (.int .i64 t334)) (ds := []) #[false, false, false, false, false, false, false, false, false, false, false, false, false, false, false, false, false] (by kernel_rfl) rfl rfl ⟨(blk_cell BK328.out 0).trans rfl, (blk_cell BK328.out 1).trans rfl, (blk_cell BK336.out 0).trans rfl, (blk_cell BK336.out 1).trans rfl⟩ (fun hHeld => ?_); refine with_tabW acmetop_armBolt.tab4 acmetop_armBolt.bits4 (fun HT_ HW_ => ?_)
    generalize w38.drew = w39 at BK322 BK328 BK336 HB hHeld ⊢
    refine pure_ (i := 0) (N := some 26) (v := ?_) (a' := ?_) #[true, false, false, false, false, false, false, false, false, false, false, false, false, false, false, false, false] rfl rfl (any_of HT_.out (by kernel_rfl)) (fun _ _ _ h => h) (Or.inl ⟨by rfl, ?_⟩) ?_ ?_
    rotate_left
    ·
     intro w'
     go_simp
     with_reducible rfl
    rotate_left
    ·
     simp only [Act.put, List.setIfInBounds_toArray, List.set_cons_zero, List.set_cons_succ, i64_w, i32_w]
     rfl
    refine pure_ (i := 1) (N := some 27) (v := ?_) (a' := ?_) #[true, true, false, false, false, false, false, false, false, false, false, false, false, false, false, false, false] rfl rfl (any_of HT_.out (by kernel_rfl)) (fun _ _ _ h => h) (Or.inl ⟨by rfl, ?_⟩) ?_ ?_
    rotate_left
    ·
     intro w'
     go_simp
     with_reducible rfl
    rotate_left
    ·
     simp only [Act.put, List.setIfInBounds_toArray, List.set_cons_zero, List.set_cons_succ, i64_w, i32_w]
     rfl
    refine pure_ (i := 2) (N := some 28) (v := ?_) (a' := ?_) #[true, true, true, false, false, false, false, false, false, false, false, false, false, false, false, false, false] rfl rfl (any_of HT_.out (by kernel_rfl)) (fun _ _ _ h => h) (Or.inl ⟨by rfl, ?_⟩) ?_ ?_
    rotate_left
    ·
     intro w'
     go_simp
     with_reducible rfl
    rotate_left
    ·
     simp only [Act.put, List.setIfInBounds_toArray, List.set_cons_zero, List.set_cons_succ, i64_w, i32_w]
     rfl
    refine pure_ (i := 3) (N := some 29) (v := ?_) (a' := ?_) #[true, true, true, true, false, false, false, false, false, false, false, false, false, false, false, false, false] rfl rfl (any_of HT_.out (by kernel_rfl)) (fun _ _ _ h => h) (Or.inl ⟨by rfl, ?_⟩) ?_ ?_
    rotate_left
    ·
     intro w'
     go_simp
     with_reducible rfl
    rotate_left
    ·
     simp only [Act.put, List.setIfInBounds_toArray, List.set_cons_zero, List.set_cons_succ, i64_w, i32_w]
     rfl
    refine pure_ (i := 4) (N := some 30) (v := ?_) (a' := ?_) #[true, true, true, true, true, false, false, false, false, false, false, false, false, false, false, false, false] rfl rfl (any_of HT_.out (by kernel_rfl)) (fun _ _ _ h => h) (Or.inl ⟨by rfl, ?_⟩) ?_ ?_
    rotate_left
    ·
     intro w'
     go_simp
     with_reducible rfl
    rotate_left
    ·
     simp only [Act.put, List.setIfInBounds_toArray, List.set_cons_zero, List.set_cons_succ, i64_w, i32_w]
     rfl
    refine pure_ (i := 5) (N := some 31) (v := ?_) (a' := ?_) #[true, true, true, true, true, true, false, false, false, false, false, false, false, false, false, false, false] rfl rfl (any_of HT_.out (by kernel_rfl)) (fun _ _ _ h => h) (Or.inl ⟨by rfl, ?_⟩) ?_ ?_
    rotate_left
    ·
     intro w'
     go_simp
     with_reducible rfl
    rotate_left
    ·
     simp only [Act.put, List.setIfInBounds_toArray, List.set_cons_zero, List.set_cons_succ, i64_w, i32_w]
     rfl
    refine pure_ (i := 6) (N := some 32) (v := ?_) (a' := ?_) #[true, true, true, true, true, true, true, false, false, false, false, false, false, false, false, false, false] rfl rfl (any_of HT_.out (by kernel_rfl)) (fun _ _ _ h => h) (Or.inl ⟨by rfl, ?_⟩) ?_ ?_
    rotate_left
    ·
     intro w'
     go_simp
     with_reducible rfl
    rotate_left
    ·
     simp only [Act.put, List.setIfInBounds_toArray, List.set_cons_zero, List.set_cons_succ, i64_w, i32_w]
     rfl
    refine take_ (i := 7) (N := some 33) (v := ?_) (a' := ?_) #[true, true, true, true, true, true, true, true, false, false, false, false, false, false, false, false, false] rfl rfl (take_ofW HT_.out HW_.out (by kernel_rfl)) (fun _ _ _ h => h) (Or.inl ⟨by rfl, ?_⟩) hHeld ?_ ?_
    rotate_left
    ·
     rintro w' ⟨s0, s1, s2, s3⟩
     go_simp
     with_reducible rfl
    rotate_left
    ·
     simp only [Act.put, List.setIfInBounds_toArray, List.set_cons_zero, List.set_cons_succ, i64_w, i32_w]
     rfl
    refine one_ (i := 8) (N := some 34) #[true, true, true, true, true, true, true, true, true, false, false, false, false, false, false, false, false] rfl rfl (one_of HT_.out (by kernel_rfl)) (by decide) (fun K hK => ?_)
    refine goes_ Try.func17 (by kernel_rfl) rfl #[.int .i64 17350, .int .i64 20000] (by rfl) rfl rfl (by (try simp only [List.map_toArray, List.map_cons, List.map_nil]); first | done | rfl | (simp only [List.length_drop, List.length_take]; rfl)) ?_
    with_reducible refine (acmetop_armSpan.calls 17350 20000 t337 t338 _ A13.out).mono ?_
    rintro e w40 ⟨rfl, hb⟩
    refine ⟨_, rfl, ?_⟩
    have n0_ := Aside0.mk (blk_below (pl BK322.out) hb)
    have n1_ := Aside0.mk (blk_below (pl BK328.out) hb)
    have n2_ := Aside0.mk (blk_below (pl BK336.out) hb)
    have n3_ := Aside0.mk (below_step (hbp HB.out) hb)
    clear BK322 BK328 BK336 HB; have BK322 := n0_; have BK328 := n1_; have BK336 := n2_; have HB := n3_; clear n0_ n1_ n2_ n3_; (try clear hb); (try clear hb2); (try clear hk); (try clear hi)
    refine hK.out _ _ ⟨(blk_cell BK328.out 0).trans rfl, (blk_cell BK328.out 1).trans rfl, (blk_cell BK336.out 0).trans rfl, (blk_cell BK336.out 1).trans rfl⟩ (fun hHeld => ?_)
    clear hK K
    refine norm_ (a' := ?_) ?_ ?_
    rotate_left
    ·
     show Act.put _ (some 34) _ = _
     simp only [Act.put, List.setIfInBounds_toArray, List.set_cons_zero, List.set_cons_succ, i64_w, i32_w]
     rfl
    refine pure_ (i := 9) (N := some 35) (v := ?_) (a' := ?_) #[true, true, true, true, true, true, true, true, true, true, false, false, false, false, false, false, false] rfl rfl (any_of HT_.out (by kernel_rfl)) (fun _ _ _ h => h) (Or.inl ⟨by rfl, ?_⟩) ?_ ?_
    rotate_left
    ·
     intro w'
     go_simp
     with_reducible rfl
    rotate_left
    ·
     simp only [Act.put, List.setIfInBounds_toArray, List.set_cons_zero, List.set_cons_succ, i64_w, i32_w]
     rfl
    refine pure_ (i := 10) (N := some 36) (v := ?_) (a' := ?_) #[true, true, true, true, true, true, true, true, true, true, true, false, false, false, false, false, false] rfl rfl (any_of HT_.out (by kernel_rfl)) (fun _ _ _ h => h) (Or.inl ⟨by rfl, ?_⟩) ?_ ?_
    rotate_left
    ·
     intro w'
     go_simp
     with_reducible rfl
    rotate_left
    ·
     simp only [Act.put, List.setIfInBounds_toArray, List.set_cons_zero, List.set_cons_succ, i64_w, i32_w]
     rfl
    refine pure_ (i := 11) (N := some 37) (v := ?_) (a' := ?_) #[true, true, true, true, true, true, true, true, true, true, true, true, false, false, false, false, false] rfl rfl (any_of HT_.out (by kernel_rfl)) (fun _ _ _ h => h) (Or.inl ⟨by rfl, ?_⟩) ?_ ?_
    rotate_left
    ·
     intro w'
     go_simp
     with_reducible rfl
    rotate_left
    ·
     simp only [Act.put, List.setIfInBounds_toArray, List.set_cons_zero, List.set_cons_succ, i64_w, i32_w]
     rfl
    refine take_ (i := 12) (N := some 38) (v := ?_) (a' := ?_) #[true, true, true, true, true, true, true, true, true, true, true, true, true, false, false, false, false] rfl rfl (take_ofW HT_.out HW_.out (by kernel_rfl)) (fun _ _ _ h => h) (Or.inl ⟨by rfl, ?_⟩) hHeld ?_ ?_
    rotate_left
    ·
     rintro w' ⟨s0, s1, s2, s3⟩
     go_simp
     with_reducible rfl
    rotate_left
    ·
     simp only [Act.put, List.setIfInBounds_toArray, List.set_cons_zero, List.set_cons_succ, i64_w, i32_w]
     rfl
    refine one_ (i := 13) (N := some 39) #[true, true, true, true, true, true, true, true, true, true, true, true, true, true, false, false, false] rfl rfl (one_of HT_.out (by kernel_rfl)) (by decide) (fun K hK => ?_)
    refine goes_ Try.func17 (by kernel_rfl) rfl #[.int .i64 65950000, .int .i64 69643339] (by rfl) rfl rfl (by (try simp only [List.map_toArray, List.map_cons, List.map_nil]); first | done | rfl | (simp only [List.length_drop, List.length_take]; rfl)) ?_
    with_reducible refine (acmetop_armSpan.calls 65950000 69643339 t339 t340 _ A15.out).mono ?_
    rintro e w41 ⟨rfl, hb⟩
    refine ⟨_, rfl, ?_⟩
    have n0_ := Aside0.mk (blk_below (pl BK322.out) hb)
    have n1_ := Aside0.mk (blk_below (pl BK328.out) hb)
    have n2_ := Aside0.mk (blk_below (pl BK336.out) hb)
    have n3_ := Aside0.mk (below_step (hbp HB.out) hb)
    clear BK322 BK328 BK336 HB; have BK322 := n0_; have BK328 := n1_; have BK336 := n2_; have HB := n3_; clear n0_ n1_ n2_ n3_; (try clear hb); (try clear hb2); (try clear hk); (try clear hi)
    refine hK.out _ _ ⟨(blk_cell BK328.out 0).trans rfl, (blk_cell BK328.out 1).trans rfl, (blk_cell BK336.out 0).trans rfl, (blk_cell BK336.out 1).trans rfl⟩ (fun hHeld => ?_)
    clear hK K
    refine norm_ (a' := ?_) ?_ ?_
    rotate_left
    ·
     show Act.put _ (some 39) _ = _
     simp only [Act.put, List.setIfInBounds_toArray, List.set_cons_zero, List.set_cons_succ, i64_w, i32_w]
     rfl
    refine pure_ (i := 14) (N := some 40) (v := ?_) (a' := ?_) #[true, true, true, true, true, true, true, true, true, true, true, true, true, true, true, false, false] rfl rfl (any_of HT_.out (by kernel_rfl)) (fun _ _ _ h => h) (Or.inl ⟨by rfl, ?_⟩) ?_ ?_
    rotate_left
    ·
     intro w'
     go_simp
     with_reducible rfl
    rotate_left
    ·
     simp only [Act.put, List.setIfInBounds_toArray, List.set_cons_zero, List.set_cons_succ, i64_w, i32_w]
     rfl
    refine pure_ (i := 15) (N := some 41) (v := ?_) (a' := ?_) #[true, true, true, true, true, true, true, true, true, true, true, true, true, true, true, true, false] rfl rfl (any_of HT_.out (by kernel_rfl)) (fun _ _ _ h => h) (Or.inl ⟨by rfl, ?_⟩) ?_ ?_
    rotate_left
    ·
     intro w'
     go_simp
     with_reducible rfl
    rotate_left
    ·
     simp only [Act.put, List.setIfInBounds_toArray, List.set_cons_zero, List.set_cons_succ, i64_w, i32_w]
     rfl
    refine pure_ (i := 16) (N := some 0) (v := ?_) (a' := ?_) #[true, true, true, true, true, true, true, true, true, true, true, true, true, true, true, true, true] rfl rfl (any_of HT_.out (by kernel_rfl)) (fun _ _ _ h => h) (Or.inl ⟨by rfl, ?_⟩) ?_ ?_
    rotate_left
    ·
     intro w'
     go_simp
     with_reducible rfl
    rotate_left
    ·
     simp only [Act.put, List.setIfInBounds_toArray, List.set_cons_zero, List.set_cons_succ, i64_w, i32_w]
     rfl
    refine done_ (done_of HT_.out (by kernel_rfl)) ?_
    try go_wp2
    go_ret
    exact ⟨by first | rfl | (simp [errW_none, errW_some] <;> rfl) | (simp [*, errW_none, errW_some] <;> rfl), by repeat (first | (with_reducible first | exact HB.out | apply below_alloc | apply pw_below_drewN | apply below_drew1 | refine below_set ?_ GE322.out | refine below_set ?_ GE328.out | refine below_set ?_ GE336.out) | exact HB.out)⟩
   ·
    rw [if_neg c14] at H
    exact absurd H (by simp)
  ·
   rw [if_neg c12] at H
   exact absurd H (by simp)
 ·
  rw [if_neg c11] at H
  exact absurd H (by simp)

end Go.Proofs.Ytbnbikkhnjcmdab.PBT
