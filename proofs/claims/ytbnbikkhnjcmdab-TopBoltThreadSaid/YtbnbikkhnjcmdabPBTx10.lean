-- Written by a program of this session (wip/pr/drive.py).
import Derived.Test.YtbnbikkhnjcmdabPBTx0
import Derived.Test.YtbnbikkhnjcmdabPBTx1
import Derived.Test.YtbnbikkhnjcmdabPBTx3
import Derived.Test.YtbnbikkhnjcmdabPBTx4
import Derived.Test.YtbnbikkhnjcmdabPBTx6
import Derived.Test.YtbnbikkhnjcmdabPBTx7
import Derived.Test.YtbnbikkhnjcmdabPBTx9
namespace Go.Proofs.Ytbnbikkhnjcmdab.PBT
open Go.RowKit Go.Proofs.YtbnbikkhnjcmdabW.PrintWords Go.Proofs.YtbnbikkhnjcmdabW.PrintLast Go.Proofs.YtbnbikkhnjcmdabW.PrintMore
attribute [local go_sem] max2_int min2_int max_two min_two max_three min_three max_four min_four   -- for this text's walks alone
set_option linter.unusedVariables false
set_option linter.unusedSimpArgs false

attribute [local go_sem high] eqA36
/-! ### acmetop_TopBoltThread: function 3 -/
mutual
def acmetop_TopBoltThread.j1 : Nat → Int → Int → Int → Int → Int → Int → Int → Int → Int → Bool → Int → Int → Int → Int → Int → Int → Int → Int → Int → Int → Int → Int → Int → Int → Option (Bool)
 | 0, _, _, _, _, _, _, _, _, _, _, _, _, _, _, _, _, _, _, _, _, _, _, _, _ => none
 | k + 1, x2, x9, x10, x365000, x365001, x365002, x365003, x365004, x365005, x365006, x365007, x366000, x366001, x366002, x366003, x366004, x366005, x366006, x366007, x366008, x366009, x366010, x366011, x366012 => acmetop_TopBoltThread.l1 k x2 x9 x10 x365000 x365001 x365002 x365003 x365004 x365005 x365006 x365007 x366000 x366001 x366002 x366003 x366004 x366005 x366006 x366007 x366008 x366009 x366010 x366011 x366012
def acmetop_TopBoltThread.j3 : Nat → Int → Int → Int → Int → Int → Int → Int → Int → Int → Bool → Int → Int → Int → Int → Int → Int → Int → Int → Int → Int → Int → Int → Int → Int → Option (Bool)
 | 0, _, _, _, _, _, _, _, _, _, _, _, _, _, _, _, _, _, _, _, _, _, _, _, _ => none
 | k + 1, x2, x9, x10, x365000, x365001, x365002, x365003, x365004, x365005, x365006, x365007, x366000, x366001, x366002, x366003, x366004, x366005, x366006, x366007, x366008, x366009, x366010, x366011, x366012 => if x10 = 0 then (none) else (if (wrap64 ((wrap64 (Int.tdiv (2000 : Int) x10)) + 1)) = 0 then (none) else ((thread_Advance.f k x365000 x365001 x365002 x365003 x365004 x365005 x365006 x365007 (wrap64 (1000 * (wrap64 (x10 * (Int.tmod (wrap64 (x2)) (wrap64 ((wrap64 (Int.tdiv (2000 : Int) x10)) + 1)))))))).bind fun bt368 => (if bt368.2.2 = 0 then (if bt368.2.1 = 1 then (if bt368.1 = (wrap64 (Int.tdiv (wrap64 (x9 * (wrap64 (x10 * (Int.tmod (wrap64 (x2)) (wrap64 ((wrap64 (Int.tdiv (2000 : Int) x10)) + 1))))))) 1000)) then (if bt368.1 > 100000 then (acmetop_TopBoltThread.j4 k x9 (wrap64 (x10 * (Int.tmod (wrap64 (x2)) (wrap64 ((wrap64 (Int.tdiv (2000 : Int) x10)) + 1))))) bt368.2.2 true x366000 x366001 x366002 x366003 x366004 x366005 x366006 x366007 x366008 x366009 x366010 x366011 x366012 bt368.1 bt368.2.1) else (acmetop_TopBoltThread.j4 k x9 (wrap64 (x10 * (Int.tmod (wrap64 (x2)) (wrap64 ((wrap64 (Int.tdiv (2000 : Int) x10)) + 1))))) bt368.2.2 (decide (x366008 > 100000000)) x366000 x366001 x366002 x366003 x366004 x366005 x366006 x366007 x366008 x366009 x366010 x366011 x366012 bt368.1 bt368.2.1)) else (acmetop_TopBoltThread.j4 k x9 (wrap64 (x10 * (Int.tmod (wrap64 (x2)) (wrap64 ((wrap64 (Int.tdiv (2000 : Int) x10)) + 1))))) bt368.2.2 true x366000 x366001 x366002 x366003 x366004 x366005 x366006 x366007 x366008 x366009 x366010 x366011 x366012 bt368.1 bt368.2.1)) else (acmetop_TopBoltThread.j4 k x9 (wrap64 (x10 * (Int.tmod (wrap64 (x2)) (wrap64 ((wrap64 (Int.tdiv (2000 : Int) x10)) + 1))))) bt368.2.2 true x366000 x366001 x366002 x366003 x366004 x366005 x366006 x366007 x366008 x366009 x366010 x366011 x366012 bt368.1 bt368.2.1)) else (acmetop_TopBoltThread.j4 k x9 (wrap64 (x10 * (Int.tmod (wrap64 (x2)) (wrap64 ((wrap64 (Int.tdiv (2000 : Int) x10)) + 1))))) bt368.2.2 true x366000 x366001 x366002 x366003 x366004 x366005 x366006 x366007 x366008 x366009 x366010 x366011 x366012 bt368.1 bt368.2.1))))
def acmetop_TopBoltThread.j4 : Nat → Int → Int → Int → Bool → Int → Int → Int → Int → Int → Int → Int → Int → Int → Int → Int → Int → Int → Int → Int → Option (Bool)
 | 0, _, _, _, _, _, _, _, _, _, _, _, _, _, _, _, _, _, _, _ => none
 | k + 1, x9, x11, x13, x106, x366000, x366001, x366002, x366003, x366004, x366005, x366006, x366007, x366008, x366009, x366010, x366011, x366012, x372000, x372001 => if x106 = true then (if x13 = 0 then (if x372001 = 1 then (if x372000 = (wrap64 (Int.tdiv (wrap64 (x9 * x11)) 1000)) then ((acmetop_armThread.f k).bind fun t372 => (if t372 = true then ((acmetop_armBolt.f).bind fun t373 => (some t373)) else (none))) else (none)) else (none)) else (none)) else ((acmetop_armSpan.f x11 x11).bind fun bt374 => ((bolt_Force.f x366000 x366001 x366002 x366003 x366004 x366005 x366006 x366007 x366008 x366009 x366010 x366011 x366012 2 0 0 bt374.1 bt374.2 0 0).bind fun bt376 => ((acmetop_armSpan.f x372000 x372000).bind fun bt380 => ((bolt_Force.f x366000 x366001 x366002 x366003 x366004 x366005 x366006 x366007 x366008 x366009 x366010 x366011 x366012 3 0 0 0 0 bt380.1 bt380.2).bind fun bt382 => (if bt376.2.2 = 0 then (if bt382.2.2 = 0 then (if (bt376.1 == bt382.1 && (bt376.2.1 == bt382.2.1)) = true then ((acmetop_armThread.f k).bind fun t386 => (if t386 = true then ((acmetop_armBolt.f).bind fun t387 => (some t387)) else (none))) else (none)) else (none)) else (none))))))
def acmetop_TopBoltThread.l1 : Nat → Int → Int → Int → Int → Int → Int → Int → Int → Int → Bool → Int → Int → Int → Int → Int → Int → Int → Int → Int → Int → Int → Int → Int → Int → Option (Bool)
 | 0, _, _, _, _, _, _, _, _, _, _, _, _, _, _, _, _, _, _, _, _, _, _, _, _ => none
 | k + 1, x2, x9, x10, x365000, x365001, x365002, x365003, x365004, x365005, x365006, x365007, x366000, x366001, x366002, x366003, x366004, x366005, x366006, x366007, x366008, x366009, x366010, x366011, x366012 => if (Int.tmod x10 5) = 0 then (if (Int.tmod (wrap64 (x9 * (wrap64 (Int.tdiv x10 5)))) 1000) = 0 then (acmetop_TopBoltThread.l1 k x2 x9 (wrap64 (Int.tdiv x10 5)) x365000 x365001 x365002 x365003 x365004 x365005 x365006 x365007 x366000 x366001 x366002 x366003 x366004 x366005 x366006 x366007 x366008 x366009 x366010 x366011 x366012) else (acmetop_TopBoltThread.j3 k x2 x9 x10 x365000 x365001 x365002 x365003 x365004 x365005 x365006 x365007 x366000 x366001 x366002 x366003 x366004 x366005 x366006 x366007 x366008 x366009 x366010 x366011 x366012)) else (acmetop_TopBoltThread.j3 k x2 x9 x10 x365000 x365001 x365002 x365003 x365004 x365005 x365006 x365007 x366000 x366001 x366002 x366003 x366004 x366005 x366006 x366007 x366008 x366009 x366010 x366011 x366012)
def acmetop_TopBoltThread.l0 : Nat → Int → Int → Int → Int → Int → Int → Int → Int → Int → Bool → Int → Int → Int → Int → Int → Int → Int → Int → Int → Int → Int → Int → Int → Int → Option (Bool)
 | 0, _, _, _, _, _, _, _, _, _, _, _, _, _, _, _, _, _, _, _, _, _, _, _, _ => none
 | k + 1, x2, x9, x10, x365000, x365001, x365002, x365003, x365004, x365005, x365006, x365007, x366000, x366001, x366002, x366003, x366004, x366005, x366006, x366007, x366008, x366009, x366010, x366011, x366012 => if (Int.tmod x10 2) = 0 then (if (Int.tmod (wrap64 (x9 * (wrap64 (Int.tdiv x10 2)))) 1000) = 0 then (acmetop_TopBoltThread.l0 k x2 x9 (wrap64 (Int.tdiv x10 2)) x365000 x365001 x365002 x365003 x365004 x365005 x365006 x365007 x366000 x366001 x366002 x366003 x366004 x366005 x366006 x366007 x366008 x366009 x366010 x366011 x366012) else (acmetop_TopBoltThread.j1 k x2 x9 x10 x365000 x365001 x365002 x365003 x365004 x365005 x365006 x365007 x366000 x366001 x366002 x366003 x366004 x366005 x366006 x366007 x366008 x366009 x366010 x366011 x366012)) else (acmetop_TopBoltThread.j1 k x2 x9 x10 x365000 x365001 x365002 x365003 x365004 x365005 x365006 x365007 x366000 x366001 x366002 x366003 x366004 x366005 x366006 x366007 x366008 x366009 x366010 x366011 x366012)
end
def acmetop_TopBoltThread.f (k : Nat) (a0_0 : Int) (a0_1 : Int) (a0_2 : Int) (a0_3 : Int) (a0_4 : Int) (a0_5 : Int) (a0_6 : Int) (a0_7 : Int) (a0_8 : Int) (a1_0 : Int) (a1_1 : Int) (a1_2 : Int) (a1_3 : Int) (a1_4 : Int) (a2 : Int) : Option (Bool) := (acmetop_ArmForm_form.f a1_0 a1_1 a1_2 a1_3 a1_4).bind fun bt343 => ((acmetop_ArmBolt_kind.f a0_0 a0_1 a0_2 a0_3 a0_4 a0_5 a0_6 a0_7 a0_8 100).bind fun bt351 => ((acmetop_armSpan.f (wrap64 (bt351.2.2.2.2.2.2.2.2.2.1 * (wrap64 (bt343.1 * bt343.2.2.2.2.2.1)))) (wrap64 (bt351.2.2.2.2.2.2.2.2.2.2.1 * (wrap64 (bt343.1 * bt343.2.2.2.2.2.1))))).bind fun bt366 => (acmetop_TopBoltThread.l0 k a2 (wrap64 (bt343.1 * bt343.2.2.2.2.2.1)) 1000 bt343.1 bt343.2.1 bt343.2.2.1 bt343.2.2.2.1 bt343.2.2.2.2.1 bt343.2.2.2.2.2.1 bt343.2.2.2.2.2.2.1 bt343.2.2.2.2.2.2.2 bt351.1 bt351.2.1 bt351.2.2.1 bt351.2.2.2.1 bt351.2.2.2.2.1 bt351.2.2.2.2.2.1 bt351.2.2.2.2.2.2.1 bt366.1 bt366.2 bt351.2.2.2.2.2.2.2.2.2.1 bt351.2.2.2.2.2.2.2.2.2.2.1 bt351.2.2.2.2.2.2.2.2.2.2.2.1 bt351.2.2.2.2.2.2.2.2.2.2.2.2)))
theorem acmetop_TopBoltThread.mono_l : ∀ k, (∀ y0 y1 y2 y3 y4 y5 y6 y7 y8 y9 y10 y11 y12 y13 y14 y15 y16 y17 y18 y19 y20 y21 y22 y23, LeO (acmetop_TopBoltThread.j1 k y0 y1 y2 y3 y4 y5 y6 y7 y8 y9 y10 y11 y12 y13 y14 y15 y16 y17 y18 y19 y20 y21 y22 y23) (acmetop_TopBoltThread.j1 (k + 1) y0 y1 y2 y3 y4 y5 y6 y7 y8 y9 y10 y11 y12 y13 y14 y15 y16 y17 y18 y19 y20 y21 y22 y23)) ∧ (∀ y0 y1 y2 y3 y4 y5 y6 y7 y8 y9 y10 y11 y12 y13 y14 y15 y16 y17 y18 y19 y20 y21 y22 y23, LeO (acmetop_TopBoltThread.j3 k y0 y1 y2 y3 y4 y5 y6 y7 y8 y9 y10 y11 y12 y13 y14 y15 y16 y17 y18 y19 y20 y21 y22 y23) (acmetop_TopBoltThread.j3 (k + 1) y0 y1 y2 y3 y4 y5 y6 y7 y8 y9 y10 y11 y12 y13 y14 y15 y16 y17 y18 y19 y20 y21 y22 y23)) ∧ (∀ y0 y1 y2 y3 y4 y5 y6 y7 y8 y9 y10 y11 y12 y13 y14 y15 y16 y17 y18, LeO (acmetop_TopBoltThread.j4 k y0 y1 y2 y3 y4 y5 y6 y7 y8 y9 y10 y11 y12 y13 y14 y15 y16 y17 y18) (acmetop_TopBoltThread.j4 (k + 1) y0 y1 y2 y3 y4 y5 y6 y7 y8 y9 y10 y11 y12 y13 y14 y15 y16 y17 y18)) ∧ (∀ y0 y1 y2 y3 y4 y5 y6 y7 y8 y9 y10 y11 y12 y13 y14 y15 y16 y17 y18 y19 y20 y21 y22 y23, LeO (acmetop_TopBoltThread.l1 k y0 y1 y2 y3 y4 y5 y6 y7 y8 y9 y10 y11 y12 y13 y14 y15 y16 y17 y18 y19 y20 y21 y22 y23) (acmetop_TopBoltThread.l1 (k + 1) y0 y1 y2 y3 y4 y5 y6 y7 y8 y9 y10 y11 y12 y13 y14 y15 y16 y17 y18 y19 y20 y21 y22 y23)) ∧ (∀ y0 y1 y2 y3 y4 y5 y6 y7 y8 y9 y10 y11 y12 y13 y14 y15 y16 y17 y18 y19 y20 y21 y22 y23, LeO (acmetop_TopBoltThread.l0 k y0 y1 y2 y3 y4 y5 y6 y7 y8 y9 y10 y11 y12 y13 y14 y15 y16 y17 y18 y19 y20 y21 y22 y23) (acmetop_TopBoltThread.l0 (k + 1) y0 y1 y2 y3 y4 y5 y6 y7 y8 y9 y10 y11 y12 y13 y14 y15 y16 y17 y18 y19 y20 y21 y22 y23))
 | 0 => ⟨fun _ _ _ _ _ _ _ _ _ _ _ _ _ _ _ _ _ _ _ _ _ _ _ _ r h => by simp [acmetop_TopBoltThread.j1] at h, fun _ _ _ _ _ _ _ _ _ _ _ _ _ _ _ _ _ _ _ _ _ _ _ _ r h => by simp [acmetop_TopBoltThread.j3] at h, fun _ _ _ _ _ _ _ _ _ _ _ _ _ _ _ _ _ _ _ r h => by simp [acmetop_TopBoltThread.j4] at h, fun _ _ _ _ _ _ _ _ _ _ _ _ _ _ _ _ _ _ _ _ _ _ _ _ r h => by simp [acmetop_TopBoltThread.l1] at h, fun _ _ _ _ _ _ _ _ _ _ _ _ _ _ _ _ _ _ _ _ _ _ _ _ r h => by simp [acmetop_TopBoltThread.l0] at h⟩
 | k + 1 => by
  obtain ⟨ih0, ih1, ih2, ih3, ih4⟩ := acmetop_TopBoltThread.mono_l k
  refine ⟨?_, ?_, ?_, ?_, ?_⟩
  ·
   intro y0 y1 y2 y3 y4 y5 y6 y7 y8 y9 y10 y11 y12 y13 y14 y15 y16 y17 y18 y19 y20 y21 y22 y23
   unfold acmetop_TopBoltThread.j1
   repeat' first
   | (with_reducible exact ih0 _ _ _ _ _ _ _ _ _ _ _ _ _ _ _ _ _ _ _ _ _ _ _ _)
   | (with_reducible exact ih1 _ _ _ _ _ _ _ _ _ _ _ _ _ _ _ _ _ _ _ _ _ _ _ _)
   | (with_reducible exact ih2 _ _ _ _ _ _ _ _ _ _ _ _ _ _ _ _ _ _ _)
   | (with_reducible exact ih3 _ _ _ _ _ _ _ _ _ _ _ _ _ _ _ _ _ _ _ _ _ _ _ _)
   | (with_reducible exact ih4 _ _ _ _ _ _ _ _ _ _ _ _ _ _ _ _ _ _ _ _ _ _ _ _)
   | (with_reducible exact acmetop_armThread.mono _)
   | (with_reducible exact thread_Advance.mono _ _ _ _ _ _ _ _ _ _)
   | (with_reducible exact LeO.refl _)
   | (with_reducible exact LeO.none _)
   | (with_reducible refine LeO.ite ?_ ?_)
   | (with_reducible refine LeO.bind ?_ (fun _ => ?_))
   | exact ih0 _ _ _ _ _ _ _ _ _ _ _ _ _ _ _ _ _ _ _ _ _ _ _ _
   | exact ih1 _ _ _ _ _ _ _ _ _ _ _ _ _ _ _ _ _ _ _ _ _ _ _ _
   | exact ih2 _ _ _ _ _ _ _ _ _ _ _ _ _ _ _ _ _ _ _
   | exact ih3 _ _ _ _ _ _ _ _ _ _ _ _ _ _ _ _ _ _ _ _ _ _ _ _
   | exact ih4 _ _ _ _ _ _ _ _ _ _ _ _ _ _ _ _ _ _ _ _ _ _ _ _
   | exact acmetop_armThread.mono _
   | exact thread_Advance.mono _ _ _ _ _ _ _ _ _ _
   | exact LeO.none _
   | refine LeO.ite ?_ ?_
   | refine LeO.bind ?_ (fun _ => ?_)
  ·
   intro y0 y1 y2 y3 y4 y5 y6 y7 y8 y9 y10 y11 y12 y13 y14 y15 y16 y17 y18 y19 y20 y21 y22 y23
   unfold acmetop_TopBoltThread.j3
   repeat' first
   | (with_reducible exact ih0 _ _ _ _ _ _ _ _ _ _ _ _ _ _ _ _ _ _ _ _ _ _ _ _)
   | (with_reducible exact ih1 _ _ _ _ _ _ _ _ _ _ _ _ _ _ _ _ _ _ _ _ _ _ _ _)
   | (with_reducible exact ih2 _ _ _ _ _ _ _ _ _ _ _ _ _ _ _ _ _ _ _)
   | (with_reducible exact ih3 _ _ _ _ _ _ _ _ _ _ _ _ _ _ _ _ _ _ _ _ _ _ _ _)
   | (with_reducible exact ih4 _ _ _ _ _ _ _ _ _ _ _ _ _ _ _ _ _ _ _ _ _ _ _ _)
   | (with_reducible exact acmetop_armThread.mono _)
   | (with_reducible exact thread_Advance.mono _ _ _ _ _ _ _ _ _ _)
   | (with_reducible exact LeO.refl _)
   | (with_reducible exact LeO.none _)
   | (with_reducible refine LeO.ite ?_ ?_)
   | (with_reducible refine LeO.bind ?_ (fun _ => ?_))
   | exact ih0 _ _ _ _ _ _ _ _ _ _ _ _ _ _ _ _ _ _ _ _ _ _ _ _
   | exact ih1 _ _ _ _ _ _ _ _ _ _ _ _ _ _ _ _ _ _ _ _ _ _ _ _
   | exact ih2 _ _ _ _ _ _ _ _ _ _ _ _ _ _ _ _ _ _ _
   | exact ih3 _ _ _ _ _ _ _ _ _ _ _ _ _ _ _ _ _ _ _ _ _ _ _ _
   | exact ih4 _ _ _ _ _ _ _ _ _ _ _ _ _ _ _ _ _ _ _ _ _ _ _ _
   | exact acmetop_armThread.mono _
   | exact thread_Advance.mono _ _ _ _ _ _ _ _ _ _
   | exact LeO.none _
   | refine LeO.ite ?_ ?_
   | refine LeO.bind ?_ (fun _ => ?_)
  ·
   intro y0 y1 y2 y3 y4 y5 y6 y7 y8 y9 y10 y11 y12 y13 y14 y15 y16 y17 y18
   unfold acmetop_TopBoltThread.j4
   repeat' first
   | (with_reducible exact ih0 _ _ _ _ _ _ _ _ _ _ _ _ _ _ _ _ _ _ _ _ _ _ _ _)
   | (with_reducible exact ih1 _ _ _ _ _ _ _ _ _ _ _ _ _ _ _ _ _ _ _ _ _ _ _ _)
   | (with_reducible exact ih2 _ _ _ _ _ _ _ _ _ _ _ _ _ _ _ _ _ _ _)
   | (with_reducible exact ih3 _ _ _ _ _ _ _ _ _ _ _ _ _ _ _ _ _ _ _ _ _ _ _ _)
   | (with_reducible exact ih4 _ _ _ _ _ _ _ _ _ _ _ _ _ _ _ _ _ _ _ _ _ _ _ _)
   | (with_reducible exact acmetop_armThread.mono _)
   | (with_reducible exact thread_Advance.mono _ _ _ _ _ _ _ _ _ _)
   | (with_reducible exact LeO.refl _)
   | (with_reducible exact LeO.none _)
   | (with_reducible refine LeO.ite ?_ ?_)
   | (with_reducible refine LeO.bind ?_ (fun _ => ?_))
   | exact ih0 _ _ _ _ _ _ _ _ _ _ _ _ _ _ _ _ _ _ _ _ _ _ _ _
   | exact ih1 _ _ _ _ _ _ _ _ _ _ _ _ _ _ _ _ _ _ _ _ _ _ _ _
   | exact ih2 _ _ _ _ _ _ _ _ _ _ _ _ _ _ _ _ _ _ _
   | exact ih3 _ _ _ _ _ _ _ _ _ _ _ _ _ _ _ _ _ _ _ _ _ _ _ _
   | exact ih4 _ _ _ _ _ _ _ _ _ _ _ _ _ _ _ _ _ _ _ _ _ _ _ _
   | exact acmetop_armThread.mono _
   | exact thread_Advance.mono _ _ _ _ _ _ _ _ _ _
   | exact LeO.none _
   | refine LeO.ite ?_ ?_
   | refine LeO.bind ?_ (fun _ => ?_)
  ·
   intro y0 y1 y2 y3 y4 y5 y6 y7 y8 y9 y10 y11 y12 y13 y14 y15 y16 y17 y18 y19 y20 y21 y22 y23
   unfold acmetop_TopBoltThread.l1
   repeat' first
   | (with_reducible exact ih0 _ _ _ _ _ _ _ _ _ _ _ _ _ _ _ _ _ _ _ _ _ _ _ _)
   | (with_reducible exact ih1 _ _ _ _ _ _ _ _ _ _ _ _ _ _ _ _ _ _ _ _ _ _ _ _)
   | (with_reducible exact ih2 _ _ _ _ _ _ _ _ _ _ _ _ _ _ _ _ _ _ _)
   | (with_reducible exact ih3 _ _ _ _ _ _ _ _ _ _ _ _ _ _ _ _ _ _ _ _ _ _ _ _)
   | (with_reducible exact ih4 _ _ _ _ _ _ _ _ _ _ _ _ _ _ _ _ _ _ _ _ _ _ _ _)
   | (with_reducible exact acmetop_armThread.mono _)
   | (with_reducible exact thread_Advance.mono _ _ _ _ _ _ _ _ _ _)
   | (with_reducible exact LeO.refl _)
   | (with_reducible exact LeO.none _)
   | (with_reducible refine LeO.ite ?_ ?_)
   | (with_reducible refine LeO.bind ?_ (fun _ => ?_))
   | exact ih0 _ _ _ _ _ _ _ _ _ _ _ _ _ _ _ _ _ _ _ _ _ _ _ _
   | exact ih1 _ _ _ _ _ _ _ _ _ _ _ _ _ _ _ _ _ _ _ _ _ _ _ _
   | exact ih2 _ _ _ _ _ _ _ _ _ _ _ _ _ _ _ _ _ _ _
   | exact ih3 _ _ _ _ _ _ _ _ _ _ _ _ _ _ _ _ _ _ _ _ _ _ _ _
   | exact ih4 _ _ _ _ _ _ _ _ _ _ _ _ _ _ _ _ _ _ _ _ _ _ _ _
   | exact acmetop_armThread.mono _
   | exact thread_Advance.mono _ _ _ _ _ _ _ _ _ _
   | exact LeO.none _
   | refine LeO.ite ?_ ?_
   | refine LeO.bind ?_ (fun _ => ?_)
  ·
   intro y0 y1 y2 y3 y4 y5 y6 y7 y8 y9 y10 y11 y12 y13 y14 y15 y16 y17 y18 y19 y20 y21 y22 y23
   unfold acmetop_TopBoltThread.l0
   repeat' first
   | (with_reducible exact ih0 _ _ _ _ _ _ _ _ _ _ _ _ _ _ _ _ _ _ _ _ _ _ _ _)
   | (with_reducible exact ih1 _ _ _ _ _ _ _ _ _ _ _ _ _ _ _ _ _ _ _ _ _ _ _ _)
   | (with_reducible exact ih2 _ _ _ _ _ _ _ _ _ _ _ _ _ _ _ _ _ _ _)
   | (with_reducible exact ih3 _ _ _ _ _ _ _ _ _ _ _ _ _ _ _ _ _ _ _ _ _ _ _ _)
   | (with_reducible exact ih4 _ _ _ _ _ _ _ _ _ _ _ _ _ _ _ _ _ _ _ _ _ _ _ _)
   | (with_reducible exact acmetop_armThread.mono _)
   | (with_reducible exact thread_Advance.mono _ _ _ _ _ _ _ _ _ _)
   | (with_reducible exact LeO.refl _)
   | (with_reducible exact LeO.none _)
   | (with_reducible refine LeO.ite ?_ ?_)
   | (with_reducible refine LeO.bind ?_ (fun _ => ?_))
   | exact ih0 _ _ _ _ _ _ _ _ _ _ _ _ _ _ _ _ _ _ _ _ _ _ _ _
   | exact ih1 _ _ _ _ _ _ _ _ _ _ _ _ _ _ _ _ _ _ _ _ _ _ _ _
   | exact ih2 _ _ _ _ _ _ _ _ _ _ _ _ _ _ _ _ _ _ _
   | exact ih3 _ _ _ _ _ _ _ _ _ _ _ _ _ _ _ _ _ _ _ _ _ _ _ _
   | exact ih4 _ _ _ _ _ _ _ _ _ _ _ _ _ _ _ _ _ _ _ _ _ _ _ _
   | exact acmetop_armThread.mono _
   | exact thread_Advance.mono _ _ _ _ _ _ _ _ _ _
   | exact LeO.none _
   | refine LeO.ite ?_ ?_
   | refine LeO.bind ?_ (fun _ => ?_)
theorem acmetop_TopBoltThread.mono : ∀ a0 a1 a2 a3 a4 a5 a6 a7 a8 a9 a10 a11 a12 a13 a14 k, LeO (acmetop_TopBoltThread.f k a0 a1 a2 a3 a4 a5 a6 a7 a8 a9 a10 a11 a12 a13 a14) (acmetop_TopBoltThread.f (k + 1) a0 a1 a2 a3 a4 a5 a6 a7 a8 a9 a10 a11 a12 a13 a14) := by
 intro a0 a1 a2 a3 a4 a5 a6 a7 a8 a9 a10 a11 a12 a13 a14 k
 obtain ⟨ih0, ih1, ih2, ih3, ih4⟩ := acmetop_TopBoltThread.mono_l k
 unfold acmetop_TopBoltThread.f
 repeat' first
   | (with_reducible exact ih0 _ _ _ _ _ _ _ _ _ _ _ _ _ _ _ _ _ _ _ _ _ _ _ _)
   | (with_reducible exact ih1 _ _ _ _ _ _ _ _ _ _ _ _ _ _ _ _ _ _ _ _ _ _ _ _)
   | (with_reducible exact ih2 _ _ _ _ _ _ _ _ _ _ _ _ _ _ _ _ _ _ _)
   | (with_reducible exact ih3 _ _ _ _ _ _ _ _ _ _ _ _ _ _ _ _ _ _ _ _ _ _ _ _)
   | (with_reducible exact ih4 _ _ _ _ _ _ _ _ _ _ _ _ _ _ _ _ _ _ _ _ _ _ _ _)
   | (with_reducible exact acmetop_armThread.mono _)
   | (with_reducible exact thread_Advance.mono _ _ _ _ _ _ _ _ _ _)
   | (with_reducible exact LeO.refl _)
   | (with_reducible exact LeO.none _)
   | (with_reducible refine LeO.ite ?_ ?_)
   | (with_reducible refine LeO.bind ?_ (fun _ => ?_))
   | exact ih0 _ _ _ _ _ _ _ _ _ _ _ _ _ _ _ _ _ _ _ _ _ _ _ _
   | exact ih1 _ _ _ _ _ _ _ _ _ _ _ _ _ _ _ _ _ _ _ _ _ _ _ _
   | exact ih2 _ _ _ _ _ _ _ _ _ _ _ _ _ _ _ _ _ _ _
   | exact ih3 _ _ _ _ _ _ _ _ _ _ _ _ _ _ _ _ _ _ _ _ _ _ _ _
   | exact ih4 _ _ _ _ _ _ _ _ _ _ _ _ _ _ _ _ _ _ _ _ _ _ _ _
   | exact acmetop_armThread.mono _
   | exact thread_Advance.mono _ _ _ _ _ _ _ _ _ _
   | exact LeO.none _
   | refine LeO.ite ?_ ?_
   | refine LeO.bind ?_ (fun _ => ?_)
def acmetop_TopBoltThread.T1 : Bool × List (List Nat × List Nat) := (true, [([], []), ([0], [0]), ([], []), ([2, 1], [2]), ([], []), ([], []), ([4, 1, 3, 0, 1, 4, 5], [1, 4]), ([5, 3, 6, 0, 1, 2, 3, 4, 5, 6], [3, 5])])
def acmetop_TopBoltThread.B1 : List Nat := [0, 1, 0, 7, 0, 0, 63, 127]
theorem acmetop_TopBoltThread.tab1 : rtab .any (opsOf Try.f3 1) = acmetop_TopBoltThread.T1 := by kernel_rfl
theorem acmetop_TopBoltThread.bits1 : waitsOk acmetop_TopBoltThread.T1.2 acmetop_TopBoltThread.B1 = true := by kernel_rfl
def acmetop_TopBoltThread.T13 : Bool × List (List Nat × List Nat) := (true, [([], []), ([], []), ([], []), ([1, 2], [1, 2]), ([3], [3]), ([0, 4, 3], [0, 4]), ([5], [5]), ([6], [6]), ([6], [6]), ([], []), ([9, 7, 5, 0, 1, 2, 3, 4, 5, 6, 7, 9], [7, 9]), ([8, 10, 0, 1, 2, 3, 4, 5, 6, 7, 8, 9, 10], [8])])
def acmetop_TopBoltThread.B13 : List Nat := [0, 0, 0, 6, 14, 31, 63, 127, 127, 0, 767, 2047]
theorem acmetop_TopBoltThread.tab13 : rtab .any (opsOf Try.f3 13) = acmetop_TopBoltThread.T13 := by kernel_rfl
theorem acmetop_TopBoltThread.bits13 : waitsOk acmetop_TopBoltThread.T13.2 acmetop_TopBoltThread.B13 = true := by kernel_rfl
def acmetop_TopBoltThread.T14 : Bool × List (List Nat × List Nat) := (true, [([], []), ([], []), ([1], [1]), ([], []), ([3], [3]), ([2, 4], [2, 4]), ([5], [5]), ([0, 6, 5], [0, 6]), ([7], [7]), ([8], [8]), ([8], [8]), ([], []), ([11, 9, 7, 0, 1, 2, 3, 4, 5, 6, 7, 8, 9, 11], [9, 11]), ([10, 12, 0, 1, 2, 3, 4, 5, 6, 7, 8, 9, 10, 11, 12], [10])])
def acmetop_TopBoltThread.B14 : List Nat := [0, 0, 2, 0, 8, 30, 62, 127, 255, 511, 511, 0, 3071, 8191]
theorem acmetop_TopBoltThread.tab14 : rtab .any (opsOf Try.f3 14) = acmetop_TopBoltThread.T14 := by kernel_rfl
theorem acmetop_TopBoltThread.bits14 : waitsOk acmetop_TopBoltThread.T14.2 acmetop_TopBoltThread.B14 = true := by kernel_rfl
set_option maxHeartbeats 8000000 in
set_option maxRecDepth 100000 in
theorem acmetop_TopBoltThread.calls (k : Nat) (a0_0 : Int) (a0_1 : Int) (a0_2 : Int) (a0_3 : Int) (a0_4 : Int) (a0_5 : Int) (a0_6 : Int) (a0_7 : Int) (a0_8 : Int) (a1_0 : Int) (a1_1 : Int) (a1_2 : Int) (a1_3 : Int) (a1_4 : Int) (a2 : Int) (r : Bool) (w : World) (h : acmetop_TopBoltThread.f k a0_0 a0_1 a0_2 a0_3 a0_4 a0_5 a0_6 a0_7 a0_8 a1_0 a1_1 a1_2 a1_3 a1_4 a2 = some r) :
  Calls Try.prog 3 #[.agg #[.int .u8 a0_0, .int .u8 a0_1, .int .u8 a0_2, .int .u8 a0_3, .int .u8 a0_4, .int .u8 a0_5, .int .u8 a0_6, .int .u8 a0_7, .int .u8 a0_8], .agg #[.int .u16 a1_0, .int .u16 a1_1, .int .u16 a1_2, .int .i8 a1_3, .int .i8 a1_4], .int .u16 a2] w fun e w' => e = .returned (.bool r) ∧ Below w.heap.size w w' := by
 have hu26 := Try.underlying26
 have hu31 := Try.underlying31
 have hu33 := Try.underlying33
 have hu38 := Try.underlying38
 have hu36 := Try.underlying36
 have hu42 := Try.underlying42
 have hu51 := Try.underlying51
 have HB := Aside0.mk (Below.refl w.heap.size w)
 have H : ((acmetop_ArmForm_form.f a1_0 a1_1 a1_2 a1_3 a1_4).bind fun bt343 => ((acmetop_ArmBolt_kind.f a0_0 a0_1 a0_2 a0_3 a0_4 a0_5 a0_6 a0_7 a0_8 100).bind fun bt351 => ((acmetop_armSpan.f (wrap64 (bt351.2.2.2.2.2.2.2.2.2.1 * (wrap64 (bt343.1 * bt343.2.2.2.2.2.1)))) (wrap64 (bt351.2.2.2.2.2.2.2.2.2.2.1 * (wrap64 (bt343.1 * bt343.2.2.2.2.2.1))))).bind fun bt366 => (acmetop_TopBoltThread.l0 k a2 (wrap64 (bt343.1 * bt343.2.2.2.2.2.1)) 1000 bt343.1 bt343.2.1 bt343.2.2.1 bt343.2.2.2.1 bt343.2.2.2.2.1 bt343.2.2.2.2.2.1 bt343.2.2.2.2.2.2.1 bt343.2.2.2.2.2.2.2 bt351.1 bt351.2.1 bt351.2.2.1 bt351.2.2.2.1 bt351.2.2.2.2.1 bt351.2.2.2.2.2.1 bt351.2.2.2.2.2.2.1 bt366.1 bt366.2 bt351.2.2.2.2.2.2.2.2.2.1 bt351.2.2.2.2.2.2.2.2.2.2.1 bt351.2.2.2.2.2.2.2.2.2.2.2.1 bt351.2.2.2.2.2.2.2.2.2.2.2.2)))) = some r := h
 clear h
 replace H := Option.bind_eq_some_iff.mp H
 obtain ⟨⟨t343, t344, t345, t346, t347, t348, t349, t350⟩, A40, H⟩ := H
 replace H : ((acmetop_ArmBolt_kind.f a0_0 a0_1 a0_2 a0_3 a0_4 a0_5 a0_6 a0_7 a0_8 100).bind fun bt351 => ((acmetop_armSpan.f (wrap64 (bt351.2.2.2.2.2.2.2.2.2.1 * (wrap64 (t343 * t348)))) (wrap64 (bt351.2.2.2.2.2.2.2.2.2.2.1 * (wrap64 (t343 * t348))))).bind fun bt366 => (acmetop_TopBoltThread.l0 k a2 (wrap64 (t343 * t348)) 1000 t343 t344 t345 t346 t347 t348 t349 t350 bt351.1 bt351.2.1 bt351.2.2.1 bt351.2.2.2.1 bt351.2.2.2.2.1 bt351.2.2.2.2.2.1 bt351.2.2.2.2.2.2.1 bt366.1 bt366.2 bt351.2.2.2.2.2.2.2.2.2.1 bt351.2.2.2.2.2.2.2.2.2.2.1 bt351.2.2.2.2.2.2.2.2.2.2.2.1 bt351.2.2.2.2.2.2.2.2.2.2.2.2))) = some r := H
 have A4 := Aside0.mk A40
 clear A40
 replace H := Option.bind_eq_some_iff.mp H
 obtain ⟨⟨t351, t352, t353, t354, t355, t356, t357, t358, t359, t360, t361, t362, t363⟩, A50, H⟩ := H
 replace H : ((acmetop_armSpan.f (wrap64 (t360 * (wrap64 (t343 * t348)))) (wrap64 (t361 * (wrap64 (t343 * t348))))).bind fun bt366 => (acmetop_TopBoltThread.l0 k a2 (wrap64 (t343 * t348)) 1000 t343 t344 t345 t346 t347 t348 t349 t350 t351 t352 t353 t354 t355 t356 t357 bt366.1 bt366.2 t360 t361 t362 t363)) = some r := H
 have A5 := Aside0.mk A50
 clear A50
 replace H := Option.bind_eq_some_iff.mp H
 obtain ⟨⟨t366, t367⟩, A60, H⟩ := H
 replace H : (acmetop_TopBoltThread.l0 k a2 (wrap64 (t343 * t348)) 1000 t343 t344 t345 t346 t347 t348 t349 t350 t351 t352 t353 t354 t355 t356 t357 t366 t367 t360 t361 t362 t363) = some r := H
 have A6 := Aside0.mk A60
 clear A60
 have HC7 := Aside0.mk H
 clear H
 go_enter Try.func3, Try.ntmps3
 try go_wp2_with (first | ((with_reducible refine gate_dst (N := 3) rfl ?_); refine box_event ?hg (N := 3) ?hd (cs := #[.int .u8 a0_0, .int .u8 a0_1, .int .u8 a0_2, .int .u8 a0_3, .int .u8 a0_4, .int .u8 a0_5, .int .u8 a0_6, .int .u8 a0_7, .int .u8 a0_8]) (t := 26) ?hr ?_; (case hd => rfl); (case hg => rfl); (case hr => first | (go_simp; done) | (go_simp; rfl)); intro gb341 hg w8 hbox hb; have n0_ := Aside0.mk (below_step (hbp HB.out) hb); have n1_ := Aside0.mk (hbox); have n2_ := Aside0.mk (geB hg (hbp HB.out)); have n3_ := Aside0.mk (geB hg (hbp HB.out)); clear HB; have HB := n0_; have BK341 := n1_; have GW341 := n2_; have GE341 := n3_; clear n0_ n1_ n2_ n3_; clear hb hbox hg) | ((with_reducible refine gate_dst (N := 4) rfl ?_); refine box_event ?hg (N := 4) ?hd (cs := #[.int .u16 a1_0, .int .u16 a1_1, .int .u16 a1_2, .int .i8 a1_3, .int .i8 a1_4]) (t := 31) ?hr ?_; (case hd => rfl); (case hg => rfl); (case hr => first | (go_simp; done) | (go_simp; rfl)); intro gb342 hg w9 hbox hb; have n0_ := Aside0.mk (blk_below (pl BK341.out) hb); have n1_ := Aside0.mk (below_step (hbp HB.out) hb); have n2_ := Aside0.mk (hbox); have n3_ := Aside0.mk (geB hg (hbp HB.out)); have n4_ := Aside0.mk (geB hg (hbp HB.out)); have n5_ := Aside0.mk (ltB hg (pl BK341.out)); have n6_ := Aside0.mk (gtB hg (pl BK341.out)); clear BK341; clear HB; have BK341 := n0_; have HB := n1_; have BK342 := n2_; have GW342 := n3_; have GE342 := n4_; have NB341_342 := n5_; have NB342_341 := n6_; clear n0_ n1_ n2_ n3_ n4_ n5_ n6_; clear hb hbox hg))
 have n0_ := Aside0.mk (blk_drew BK341.out)
 have n1_ := Aside0.mk (blk_drew BK342.out)
 have n2_ := Aside0.mk (below_drew1 HB.out)
 clear BK341 BK342 HB; have BK341 := n0_; have BK342 := n1_; have HB := n2_; clear n0_ n1_ n2_
 refine start_ (n := 8) (S := fun w' => True) (ds := []) #[false, false, false, false, false, false, false, false] (by kernel_rfl) rfl rfl trivial (fun hHeld => ?_); refine with_tabW acmetop_TopBoltThread.tab1 acmetop_TopBoltThread.bits1 (fun HT_ HW_ => ?_)
 generalize w9.drew = w10 at BK341 BK342 HB hHeld ⊢
 refine inv_at [0, 1, 2, 3, 4, 5, 6, 7] (fun a0_ b a w' => ∃ (gb364 : Nat) (gb365 : Nat) (m4_ : Value) (m5_ : Value), a = putSel a0_ b [(0, 18, .agg #[.int .u16 a1_0, .int .u16 a1_1, .int .u16 a1_2, .int .i8 a1_3, .int .i8 a1_4]), (1, 19, .agg #[.int .i64 t343, .int .i64 t344, .int .i64 t345, .int .i64 t346, .int .i64 t347, .int .i64 t348, .bool t349, .int .i64 t350]), (2, 20, .agg #[.int .u8 a0_0, .int .u8 a0_1, .int .u8 a0_2, .int .u8 a0_3, .int .u8 a0_4, .int .u8 a0_5, .int .u8 a0_6, .int .u8 a0_7, .int .u8 a0_8]), (3, 21, .agg #[.int .i64 t351, .int .i64 t352, .int .i64 t353, .int .i64 t354, .int .i64 t355, .int .i64 t356, .int .i64 t357, .int .i64 t358, .int .i64 t359, .int .i64 t360, .int .i64 t361, .int .i64 t362, .int .i64 t363]), (4, 7, m4_), (5, 8, m5_)] ∧ (w'.heap[gb341]? = some (.cells #[.int .u8 a0_0, .int .u8 a0_1, .int .u8 a0_2, .int .u8 a0_3, .int .u8 a0_4, .int .u8 a0_5, .int .u8 a0_6, .int .u8 a0_7, .int .u8 a0_8] 26 (0, 0))) ∧ (w'.heap[gb342]? = some (.cells #[.int .u16 a1_0, .int .u16 a1_1, .int .u16 a1_2, .int .i8 a1_3, .int .i8 a1_4] 31 (0, 0))) ∧ (Below w.heap.size w w') ∧ (b 4 = true → b 5 = true → gb365 ≠ gb364) ∧ (b 4 = true → b 5 = true → gb364 ≠ gb365) ∧ (b 4 = true → b 6 = false → w'.heap[gb364]? = some (.cells #[.int .i64 0, .int .i64 0, .int .i64 0, .int .i64 0, .int .i64 0, .int .i64 0, .bool false, .int .i64 0] 33 (0, 0))) ∧ (b 4 = true → w.heap.size ≤ gb364) ∧ (b 4 = true → w.heap.size ≤ gb364) ∧ (b 4 = true → gb341 ≠ gb364) ∧ (b 4 = true → gb364 ≠ gb341) ∧ (b 4 = true → gb342 ≠ gb364) ∧ (b 4 = true → gb364 ≠ gb342) ∧ (b 5 = true → b 7 = false → w'.heap[gb365]? = some (.cells #[.int .i64 0, .int .i64 0, .int .i64 0, .int .i64 0, .int .i64 0, .int .i64 0, .int .i64 0, .int .i64 0, .int .i64 0, .int .i64 0, .int .i64 0, .int .i64 0, .int .i64 0] 38 (0, 0))) ∧ (b 5 = true → w.heap.size ≤ gb365) ∧ (b 5 = true → w.heap.size ≤ gb365) ∧ (b 5 = true → gb341 ≠ gb365) ∧ (b 5 = true → gb365 ≠ gb341) ∧ (b 5 = true → gb342 ≠ gb365) ∧ (b 5 = true → gb365 ≠ gb342) ∧ (b 6 = true → w'.heap[gb364]? = some (.cells #[.int .i64 t343, .int .i64 t344, .int .i64 t345, .int .i64 t346, .int .i64 t347, .int .i64 t348, .bool t349, .int .i64 t350] 33 (0, 0))) ∧ (b 7 = true → w'.heap[gb365]? = some (.cells #[.int .i64 t351, .int .i64 t352, .int .i64 t353, .int .i64 t354, .int .i64 t355, .int .i64 t356, .int .i64 t357, .int .i64 t358, .int .i64 t359, .int .i64 t360, .int .i64 t361, .int .i64 t362, .int .i64 t363] 38 (0, 0))) ∧ (b 4 = true → (m4_ : Value) = .pointer (some ⟨gb364, 0, none⟩)) ∧ (b 5 = true → (m5_ : Value) = .pointer (some ⟨gb365, 0, none⟩))) HT_.out HW_.out (by kernel_rfl) (by kernel_rfl) ?_ ?_ ?_
 · exact ⟨0, 0, .bool false, .bool false, by simp only [putSel, Bool.false_eq_true, if_false], BK341.out, BK342.out, HB.out, fun h_ => absurd h_ (by decide), fun h_ => absurd h_ (by decide), fun h_ => absurd h_ (by decide), fun h_ => absurd h_ (by decide), fun h_ => absurd h_ (by decide), fun h_ => absurd h_ (by decide), fun h_ => absurd h_ (by decide), fun h_ => absurd h_ (by decide), fun h_ => absurd h_ (by decide), fun h_ => absurd h_ (by decide), fun h_ => absurd h_ (by decide), fun h_ => absurd h_ (by decide), fun h_ => absurd h_ (by decide), fun h_ => absurd h_ (by decide), fun h_ => absurd h_ (by decide), fun h_ => absurd h_ (by decide), fun h_ => absurd h_ (by decide), fun h_ => absurd h_ (by decide), fun h_ => absurd h_ (by decide), fun h_ => absurd h_ (by decide)⟩
 ·
  clear BK341 BK342 HB
  refine steps_cons ?_ ?_
  ·
   rintro b a w' ⟨gb364, gb365, m4_, m5_, ha, Q_BK341, Q_BK342, Q_HB, Q_NB365_364, Q_NB364_365, Q_BK364, Q_GW364, Q_GE364, Q_NB341_364, Q_NB364_341, Q_NB342_364, Q_NB364_342, Q_BK365, Q_GW365, Q_GE365, Q_NB341_365, Q_NB365_341, Q_NB342_365, Q_NB365_342, Q_BK364_e6, Q_BK365_e7, Q_X4_, Q_X5_⟩ hb_ hon hoff
   refine ⟨_, rfl, fun K hK => ?_⟩
   have e4 : a.tmps[4]? = some (.pointer (some ⟨gb342, 0, none⟩)) := by rw [ha]; exact (putSel_off rfl).trans rfl
   replace ha := Aside0.mk ha
   have BK341 := Aside0.mk Q_BK341
   have BK342 := Aside0.mk Q_BK342
   have HB := Aside0.mk Q_HB
   have hc0_ : w'.cell? ⟨gb342, 0, none⟩ = some (.int .u16 a1_0) := (blk_cell BK342.out 0).trans rfl
   have hc1_ : w'.cell? ⟨gb342, 1, none⟩ = some (.int .u16 a1_1) := (blk_cell BK342.out 1).trans rfl
   have hc2_ : w'.cell? ⟨gb342, 2, none⟩ = some (.int .u16 a1_2) := (blk_cell BK342.out 2).trans rfl
   have hc3_ : w'.cell? ⟨gb342, 3, none⟩ = some (.int .i8 a1_3) := (blk_cell BK342.out 3).trans rfl
   have hc4_ : w'.cell? ⟨gb342, 4, none⟩ = some (.int .i8 a1_4) := (blk_cell BK342.out 4).trans rfl
   refine value_ (w1 := w') (v := .agg #[.int .u16 a1_0, .int .u16 a1_1, .int .u16 a1_2, .int .i8 a1_3, .int .i8 a1_4]) (by rfl) rfl ?_ ?_
   ·
    go_simp
    (try simp only [i64_w])
    try rfl
   refine hK.out _ _ ⟨gb364, gb365, m4_, m5_, (by rw [ha.out]; exact putSel_upk 0 hb_ rfl rfl rfl), Q_BK341, Q_BK342, Q_HB, Q_NB365_364, Q_NB364_365, Q_BK364, Q_GW364, Q_GE364, Q_NB341_364, Q_NB364_341, Q_NB342_364, Q_NB364_342, Q_BK365, Q_GW365, Q_GE365, Q_NB341_365, Q_NB365_341, Q_NB342_365, Q_NB365_342, fun h0_ => absurd ((hoff 6 (by kernel_rfl)).symm.trans h0_) (by decide), fun h0_ => absurd ((hoff 7 (by kernel_rfl)).symm.trans h0_) (by decide), Q_X4_, Q_X5_⟩
  refine steps_cons ?_ ?_
  ·
   rintro b a w' ⟨gb364, gb365, m4_, m5_, ha, Q_BK341, Q_BK342, Q_HB, Q_NB365_364, Q_NB364_365, Q_BK364, Q_GW364, Q_GE364, Q_NB341_364, Q_NB364_341, Q_NB342_364, Q_NB364_342, Q_BK365, Q_GW365, Q_GE365, Q_NB341_365, Q_NB365_341, Q_NB342_365, Q_NB365_342, Q_BK364_e6, Q_BK365_e7, Q_X4_, Q_X5_⟩ hb_ hon hoff
   refine ⟨_, rfl, fun K hK => ?_⟩
   have e18 : a.tmps[18]? = some (.agg #[.int .u16 a1_0, .int .u16 a1_1, .int .u16 a1_2, .int .i8 a1_3, .int .i8 a1_4]) := by rw [ha]; exact putSel_on (e := (0, 18, .agg #[.int .u16 a1_0, .int .u16 a1_1, .int .u16 a1_2, .int .i8 a1_3, .int .i8 a1_4])) 0 rfl rfl (hon 0 (by kernel_rfl)) rfl
   replace ha := Aside0.mk ha
   have BK341 := Aside0.mk Q_BK341
   have BK342 := Aside0.mk Q_BK342
   have HB := Aside0.mk Q_HB
   refine goes_ Try.func15 (by kernel_rfl) rfl #[.agg #[.int .u16 a1_0, .int .u16 a1_1, .int .u16 a1_2, .int .i8 a1_3, .int .i8 a1_4]] (by rfl) rfl rfl (by first | (simp only [List.map_toArray, List.map_cons, List.map_nil, Act.eval, Array.getD_eq_getD_getElem?, Option.getD_some, e18]; done) | (simp only [List.map_toArray, List.map_cons, List.map_nil, Act.eval, Array.getD_eq_getD_getElem?, Option.getD_some, e18]; rfl)) ?_
   with_reducible refine (acmetop_ArmForm_form.calls a1_0 a1_1 a1_2 a1_3 a1_4 t343 t344 t345 t346 t347 t348 t349 t350 _ A4.out).mono ?_
   rintro e w11 ⟨rfl, hb⟩
   refine ⟨_, rfl, ?_⟩
   have n0_ := Aside0.mk (blk_below (pl BK341.out) hb)
   have n1_ := Aside0.mk (blk_below (pl BK342.out) hb)
   have n2_ := Aside0.mk (below_step (hbp HB.out) hb)
   have z_BK364 := fun (h0_ : b 4 = true) (h1_ : b 6 = false) => (show w11.heap[gb364]? = some (.cells #[.int .i64 0, .int .i64 0, .int .i64 0, .int .i64 0, .int .i64 0, .int .i64 0, .bool false, .int .i64 0] 33 (0, 0)) from by first | exact (blk_below (g := gb364) (pl (Q_BK364 h0_ h1_)) hb))
   have z_BK365 := fun (h0_ : b 5 = true) (h1_ : b 7 = false) => (show w11.heap[gb365]? = some (.cells #[.int .i64 0, .int .i64 0, .int .i64 0, .int .i64 0, .int .i64 0, .int .i64 0, .int .i64 0, .int .i64 0, .int .i64 0, .int .i64 0, .int .i64 0, .int .i64 0, .int .i64 0] 38 (0, 0)) from by first | exact (blk_below (g := gb365) (pl (Q_BK365 h0_ h1_)) hb))
   clear BK341 BK342 HB; have BK341 := n0_; have BK342 := n1_; have HB := n2_; clear n0_ n1_ n2_; (try clear hb); (try clear hb2); (try clear hk); (try clear hi)
   refine hK.out _ _ ⟨gb364, gb365, m4_, m5_, (by rw [ha.out]; exact putSel_upk 1 hb_ rfl rfl rfl), (pl BK341.out), (pl BK342.out), (hbp HB.out), Q_NB365_364, Q_NB364_365, z_BK364, Q_GW364, Q_GE364, Q_NB341_364, Q_NB364_341, Q_NB342_364, Q_NB364_342, z_BK365, Q_GW365, Q_GE365, Q_NB341_365, Q_NB365_341, Q_NB342_365, Q_NB365_342, fun h0_ => absurd ((hoff 6 (by kernel_rfl)).symm.trans h0_) (by decide), fun h0_ => absurd ((hoff 7 (by kernel_rfl)).symm.trans h0_) (by decide), Q_X4_, Q_X5_⟩
  refine steps_cons ?_ ?_
  ·
   rintro b a w' ⟨gb364, gb365, m4_, m5_, ha, Q_BK341, Q_BK342, Q_HB, Q_NB365_364, Q_NB364_365, Q_BK364, Q_GW364, Q_GE364, Q_NB341_364, Q_NB364_341, Q_NB342_364, Q_NB364_342, Q_BK365, Q_GW365, Q_GE365, Q_NB341_365, Q_NB365_341, Q_NB342_365, Q_NB365_342, Q_BK364_e6, Q_BK365_e7, Q_X4_, Q_X5_⟩ hb_ hon hoff
   refine ⟨_, rfl, fun K hK => ?_⟩
   have e3 : a.tmps[3]? = some (.pointer (some ⟨gb341, 0, none⟩)) := by rw [ha]; exact (putSel_off rfl).trans rfl
   replace ha := Aside0.mk ha
   have BK341 := Aside0.mk Q_BK341
   have BK342 := Aside0.mk Q_BK342
   have HB := Aside0.mk Q_HB
   have hc0_ : w'.cell? ⟨gb341, 0, none⟩ = some (.int .u8 a0_0) := (blk_cell BK341.out 0).trans rfl
   have hc1_ : w'.cell? ⟨gb341, 1, none⟩ = some (.int .u8 a0_1) := (blk_cell BK341.out 1).trans rfl
   have hc2_ : w'.cell? ⟨gb341, 2, none⟩ = some (.int .u8 a0_2) := (blk_cell BK341.out 2).trans rfl
   have hc3_ : w'.cell? ⟨gb341, 3, none⟩ = some (.int .u8 a0_3) := (blk_cell BK341.out 3).trans rfl
   have hc4_ : w'.cell? ⟨gb341, 4, none⟩ = some (.int .u8 a0_4) := (blk_cell BK341.out 4).trans rfl
   have hc5_ : w'.cell? ⟨gb341, 5, none⟩ = some (.int .u8 a0_5) := (blk_cell BK341.out 5).trans rfl
   have hc6_ : w'.cell? ⟨gb341, 6, none⟩ = some (.int .u8 a0_6) := (blk_cell BK341.out 6).trans rfl
   have hc7_ : w'.cell? ⟨gb341, 7, none⟩ = some (.int .u8 a0_7) := (blk_cell BK341.out 7).trans rfl
   have hc8_ : w'.cell? ⟨gb341, 8, none⟩ = some (.int .u8 a0_8) := (blk_cell BK341.out 8).trans rfl
   refine value_ (w1 := w') (v := .agg #[.int .u8 a0_0, .int .u8 a0_1, .int .u8 a0_2, .int .u8 a0_3, .int .u8 a0_4, .int .u8 a0_5, .int .u8 a0_6, .int .u8 a0_7, .int .u8 a0_8]) (by rfl) rfl ?_ ?_
   ·
    go_simp
    (try simp only [i64_w])
    try rfl
   refine hK.out _ _ ⟨gb364, gb365, m4_, m5_, (by rw [ha.out]; exact putSel_upk 2 hb_ rfl rfl rfl), Q_BK341, Q_BK342, Q_HB, Q_NB365_364, Q_NB364_365, Q_BK364, Q_GW364, Q_GE364, Q_NB341_364, Q_NB364_341, Q_NB342_364, Q_NB364_342, Q_BK365, Q_GW365, Q_GE365, Q_NB341_365, Q_NB365_341, Q_NB342_365, Q_NB365_342, fun h0_ => absurd ((hoff 6 (by kernel_rfl)).symm.trans h0_) (by decide), fun h0_ => absurd ((hoff 7 (by kernel_rfl)).symm.trans h0_) (by decide), Q_X4_, Q_X5_⟩
  refine steps_cons ?_ ?_
  ·
   rintro b a w' ⟨gb364, gb365, m4_, m5_, ha, Q_BK341, Q_BK342, Q_HB, Q_NB365_364, Q_NB364_365, Q_BK364, Q_GW364, Q_GE364, Q_NB341_364, Q_NB364_341, Q_NB342_364, Q_NB364_342, Q_BK365, Q_GW365, Q_GE365, Q_NB341_365, Q_NB365_341, Q_NB342_365, Q_NB365_342, Q_BK364_e6, Q_BK365_e7, Q_X4_, Q_X5_⟩ hb_ hon hoff
   refine ⟨_, rfl, fun K hK => ?_⟩
   have e20 : a.tmps[20]? = some (.agg #[.int .u8 a0_0, .int .u8 a0_1, .int .u8 a0_2, .int .u8 a0_3, .int .u8 a0_4, .int .u8 a0_5, .int .u8 a0_6, .int .u8 a0_7, .int .u8 a0_8]) := by rw [ha]; exact putSel_on (e := (2, 20, .agg #[.int .u8 a0_0, .int .u8 a0_1, .int .u8 a0_2, .int .u8 a0_3, .int .u8 a0_4, .int .u8 a0_5, .int .u8 a0_6, .int .u8 a0_7, .int .u8 a0_8])) 2 rfl rfl (hon 2 (by kernel_rfl)) rfl
   replace ha := Aside0.mk ha
   have BK341 := Aside0.mk Q_BK341
   have BK342 := Aside0.mk Q_BK342
   have HB := Aside0.mk Q_HB
   refine goes_ Try.func16 (by kernel_rfl) rfl #[.agg #[.int .u8 a0_0, .int .u8 a0_1, .int .u8 a0_2, .int .u8 a0_3, .int .u8 a0_4, .int .u8 a0_5, .int .u8 a0_6, .int .u8 a0_7, .int .u8 a0_8], .int .i64 100] (by rfl) rfl rfl (by first | (simp only [List.map_toArray, List.map_cons, List.map_nil, Act.eval, Array.getD_eq_getD_getElem?, Option.getD_some, e20]; done) | (simp only [List.map_toArray, List.map_cons, List.map_nil, Act.eval, Array.getD_eq_getD_getElem?, Option.getD_some, e20]; rfl)) ?_
   with_reducible refine (acmetop_ArmBolt_kind.calls a0_0 a0_1 a0_2 a0_3 a0_4 a0_5 a0_6 a0_7 a0_8 100 t351 t352 t353 t354 t355 t356 t357 t358 t359 t360 t361 t362 t363 _ A5.out).mono ?_
   rintro e w13 ⟨rfl, hb⟩
   refine ⟨_, rfl, ?_⟩
   have n0_ := Aside0.mk (blk_below (pl BK341.out) hb)
   have n1_ := Aside0.mk (blk_below (pl BK342.out) hb)
   have n2_ := Aside0.mk (below_step (hbp HB.out) hb)
   have z_BK364 := fun (h0_ : b 4 = true) (h1_ : b 6 = false) => (show w13.heap[gb364]? = some (.cells #[.int .i64 0, .int .i64 0, .int .i64 0, .int .i64 0, .int .i64 0, .int .i64 0, .bool false, .int .i64 0] 33 (0, 0)) from by first | exact (blk_below (g := gb364) (pl (Q_BK364 h0_ h1_)) hb))
   have z_BK365 := fun (h0_ : b 5 = true) (h1_ : b 7 = false) => (show w13.heap[gb365]? = some (.cells #[.int .i64 0, .int .i64 0, .int .i64 0, .int .i64 0, .int .i64 0, .int .i64 0, .int .i64 0, .int .i64 0, .int .i64 0, .int .i64 0, .int .i64 0, .int .i64 0, .int .i64 0] 38 (0, 0)) from by first | exact (blk_below (g := gb365) (pl (Q_BK365 h0_ h1_)) hb))
   clear BK341 BK342 HB; have BK341 := n0_; have BK342 := n1_; have HB := n2_; clear n0_ n1_ n2_; (try clear hb); (try clear hb2); (try clear hk); (try clear hi)
   refine hK.out _ _ ⟨gb364, gb365, m4_, m5_, (by rw [ha.out]; exact putSel_upk 3 hb_ rfl rfl rfl), (pl BK341.out), (pl BK342.out), (hbp HB.out), Q_NB365_364, Q_NB364_365, z_BK364, Q_GW364, Q_GE364, Q_NB341_364, Q_NB364_341, Q_NB342_364, Q_NB364_342, z_BK365, Q_GW365, Q_GE365, Q_NB341_365, Q_NB365_341, Q_NB342_365, Q_NB365_342, fun h0_ => absurd ((hoff 6 (by kernel_rfl)).symm.trans h0_) (by decide), fun h0_ => absurd ((hoff 7 (by kernel_rfl)).symm.trans h0_) (by decide), Q_X4_, Q_X5_⟩
  refine steps_cons ?_ ?_
  ·
   rintro b a w' ⟨gb364, gb365, m4_, m5_, ha, Q_BK341, Q_BK342, Q_HB, Q_NB365_364, Q_NB364_365, Q_BK364, Q_GW364, Q_GE364, Q_NB341_364, Q_NB364_341, Q_NB342_364, Q_NB364_342, Q_BK365, Q_GW365, Q_GE365, Q_NB341_365, Q_NB365_341, Q_NB342_365, Q_NB365_342, Q_BK364_e6, Q_BK365_e7, Q_X4_, Q_X5_⟩ hb_ hon hoff
   refine ⟨_, rfl, fun K hK => ?_⟩
   replace ha := Aside0.mk ha
   have BK341 := Aside0.mk Q_BK341
   have BK342 := Aside0.mk Q_BK342
   have HB := Aside0.mk Q_HB
   refine box_step ?hg (N := 7) ?hd (cs := #[.int .i64 0, .int .i64 0, .int .i64 0, .int .i64 0, .int .i64 0, .int .i64 0, .bool false, .int .i64 0]) (t := 33) ?hr ?_; (case hd => rfl); (case hg => rfl); (case hr => first | (go_simp; done) | (go_simp; rfl))
   intro gb364 hg w11 hbox hb
   have n0_ := Aside0.mk (blk_below (pl BK341.out) hb)
   have n1_ := Aside0.mk (blk_below (pl BK342.out) hb)
   have n2_ := Aside0.mk (below_step (hbp HB.out) hb)
   have n3_ := Aside0.mk (hbox)
   have n4_ := Aside0.mk (geB hg (hbp HB.out))
   have n5_ := Aside0.mk (geB hg (hbp HB.out))
   have n6_ := Aside0.mk (ltB hg (pl BK341.out))
   have n7_ := Aside0.mk (gtB hg (pl BK341.out))
   have n8_ := Aside0.mk (ltB hg (pl BK342.out))
   have n9_ := Aside0.mk (gtB hg (pl BK342.out))
   have z_NB365_364 := fun (h0_ : up b 4 4 = true) (h1_ : up b 4 5 = true) => (show gb365 ≠ gb364 from (by cases hq_ : b 7 with | false => exact ((by rw [hg]; exact Nat.ne_of_lt (blk_lt (g := gb365) (pl (Q_BK365 h1_ hq_))) : gb365 ≠ gb364)) | true => exact ((by rw [hg]; exact Nat.ne_of_lt (blk_lt (g := gb365) (pl (Q_BK365_e7 hq_))) : gb365 ≠ gb364))))
   have z_NB364_365 := fun (h0_ : up b 4 4 = true) (h1_ : up b 4 5 = true) => (show gb364 ≠ gb365 from (by cases hq_ : b 7 with | false => exact ((by rw [hg]; exact Nat.ne_of_gt (blk_lt (g := gb365) (pl (Q_BK365 h1_ hq_))) : gb364 ≠ gb365)) | true => exact ((by rw [hg]; exact Nat.ne_of_gt (blk_lt (g := gb365) (pl (Q_BK365_e7 hq_))) : gb364 ≠ gb365))))
   have z_BK365 := fun (h0_ : b 5 = true) (h1_ : b 7 = false) => (show w11.heap[gb365]? = some (.cells #[.int .i64 0, .int .i64 0, .int .i64 0, .int .i64 0, .int .i64 0, .int .i64 0, .int .i64 0, .int .i64 0, .int .i64 0, .int .i64 0, .int .i64 0, .int .i64 0, .int .i64 0] 38 (0, 0)) from by first | exact (blk_below (g := gb365) (pl (Q_BK365 h0_ h1_)) hb))
   clear BK341 BK342 HB; have BK341 := n0_; have BK342 := n1_; have HB := n2_; have BK364 := n3_; have GW364 := n4_; have GE364 := n5_; have NB341_364 := n6_; have NB364_341 := n7_; have NB342_364 := n8_; have NB364_342 := n9_; clear n0_ n1_ n2_ n3_ n4_ n5_ n6_ n7_ n8_ n9_ hb hbox hg
   refine hK.out _ _ ⟨gb364, gb365, (.pointer (some ⟨gb364, 0, none⟩)), m5_, (by rw [ha.out]; exact putSel_upk 4 hb_ rfl rfl rfl), (pl BK341.out), (pl BK342.out), (hbp HB.out), z_NB365_364, z_NB364_365, fun _ _ => (pl BK364.out), fun _ => GW364.out, fun _ => GE364.out, fun _ => NB341_364.out, fun _ => NB364_341.out, fun _ => NB342_364.out, fun _ => NB364_342.out, z_BK365, Q_GW365, Q_GE365, Q_NB341_365, Q_NB365_341, Q_NB342_365, Q_NB365_342, fun h0_ => absurd ((hoff 6 (by kernel_rfl)).symm.trans h0_) (by decide), fun h0_ => absurd ((hoff 7 (by kernel_rfl)).symm.trans h0_) (by decide), fun _ => rfl, Q_X5_⟩
  refine steps_cons ?_ ?_
  ·
   rintro b a w' ⟨gb364, gb365, m4_, m5_, ha, Q_BK341, Q_BK342, Q_HB, Q_NB365_364, Q_NB364_365, Q_BK364, Q_GW364, Q_GE364, Q_NB341_364, Q_NB364_341, Q_NB342_364, Q_NB364_342, Q_BK365, Q_GW365, Q_GE365, Q_NB341_365, Q_NB365_341, Q_NB342_365, Q_NB365_342, Q_BK364_e6, Q_BK365_e7, Q_X4_, Q_X5_⟩ hb_ hon hoff
   refine ⟨_, rfl, fun K hK => ?_⟩
   replace ha := Aside0.mk ha
   have BK341 := Aside0.mk Q_BK341
   have BK342 := Aside0.mk Q_BK342
   have HB := Aside0.mk Q_HB
   refine box_step ?hg (N := 8) ?hd (cs := #[.int .i64 0, .int .i64 0, .int .i64 0, .int .i64 0, .int .i64 0, .int .i64 0, .int .i64 0, .int .i64 0, .int .i64 0, .int .i64 0, .int .i64 0, .int .i64 0, .int .i64 0]) (t := 38) ?hr ?_; (case hd => rfl); (case hg => rfl); (case hr => first | (go_simp; done) | (go_simp; rfl))
   intro gb365 hg w11 hbox hb
   have n0_ := Aside0.mk (blk_below (pl BK341.out) hb)
   have n1_ := Aside0.mk (blk_below (pl BK342.out) hb)
   have n2_ := Aside0.mk (below_step (hbp HB.out) hb)
   have n3_ := Aside0.mk (hbox)
   have n4_ := Aside0.mk (geB hg (hbp HB.out))
   have n5_ := Aside0.mk (geB hg (hbp HB.out))
   have n6_ := Aside0.mk (ltB hg (pl BK341.out))
   have n7_ := Aside0.mk (gtB hg (pl BK341.out))
   have n8_ := Aside0.mk (ltB hg (pl BK342.out))
   have n9_ := Aside0.mk (gtB hg (pl BK342.out))
   have z_NB365_364 := fun (h0_ : up b 5 4 = true) (h1_ : up b 5 5 = true) => (show gb365 ≠ gb364 from (by cases hq_ : b 6 with | false => exact ((by rw [hg]; exact Nat.ne_of_gt (blk_lt (g := gb364) (pl (Q_BK364 h0_ hq_))) : gb365 ≠ gb364)) | true => exact ((by rw [hg]; exact Nat.ne_of_gt (blk_lt (g := gb364) (pl (Q_BK364_e6 hq_))) : gb365 ≠ gb364))))
   have z_NB364_365 := fun (h0_ : up b 5 4 = true) (h1_ : up b 5 5 = true) => (show gb364 ≠ gb365 from (by cases hq_ : b 6 with | false => exact ((by rw [hg]; exact Nat.ne_of_lt (blk_lt (g := gb364) (pl (Q_BK364 h0_ hq_))) : gb364 ≠ gb365)) | true => exact ((by rw [hg]; exact Nat.ne_of_lt (blk_lt (g := gb364) (pl (Q_BK364_e6 hq_))) : gb364 ≠ gb365))))
   have z_BK364 := fun (h0_ : b 4 = true) (h1_ : b 6 = false) => (show w11.heap[gb364]? = some (.cells #[.int .i64 0, .int .i64 0, .int .i64 0, .int .i64 0, .int .i64 0, .int .i64 0, .bool false, .int .i64 0] 33 (0, 0)) from by first | exact (blk_below (g := gb364) (pl (Q_BK364 h0_ h1_)) hb))
   clear BK341 BK342 HB; have BK341 := n0_; have BK342 := n1_; have HB := n2_; have BK365 := n3_; have GW365 := n4_; have GE365 := n5_; have NB341_365 := n6_; have NB365_341 := n7_; have NB342_365 := n8_; have NB365_342 := n9_; clear n0_ n1_ n2_ n3_ n4_ n5_ n6_ n7_ n8_ n9_ hb hbox hg
   refine hK.out _ _ ⟨gb364, gb365, m4_, (.pointer (some ⟨gb365, 0, none⟩)), (by rw [ha.out]; exact putSel_upk 5 hb_ rfl rfl rfl), (pl BK341.out), (pl BK342.out), (hbp HB.out), z_NB365_364, z_NB364_365, z_BK364, Q_GW364, Q_GE364, Q_NB341_364, Q_NB364_341, Q_NB342_364, Q_NB364_342, fun _ _ => (pl BK365.out), fun _ => GW365.out, fun _ => GE365.out, fun _ => NB341_365.out, fun _ => NB365_341.out, fun _ => NB342_365.out, fun _ => NB365_342.out, fun h0_ => absurd ((hoff 6 (by kernel_rfl)).symm.trans h0_) (by decide), fun h0_ => absurd ((hoff 7 (by kernel_rfl)).symm.trans h0_) (by decide), Q_X4_, fun _ => rfl⟩
  refine steps_cons ?_ ?_
  ·
   rintro b a w' ⟨gb364, gb365, m4_, m5_, ha, Q_BK341, Q_BK342, Q_HB, Q_NB365_364, Q_NB364_365, Q_BK364, Q_GW364, Q_GE364, Q_NB341_364, Q_NB364_341, Q_NB342_364, Q_NB364_342, Q_BK365, Q_GW365, Q_GE365, Q_NB341_365, Q_NB365_341, Q_NB342_365, Q_NB365_342, Q_BK364_e6, Q_BK365_e7, Q_X4_, Q_X5_⟩ hb_ hon hoff
   refine ⟨_, rfl, fun K hK => ?_⟩
   have e7 : a.tmps[7]? = some (m4_) := by rw [ha]; exact putSel_on (e := (4, 7, m4_)) 4 rfl rfl (hon 4 (by kernel_rfl)) rfl
   rw [Q_X4_ (hon 4 (by kernel_rfl))] at e7
   have e19 : a.tmps[19]? = some (.agg #[.int .i64 t343, .int .i64 t344, .int .i64 t345, .int .i64 t346, .int .i64 t347, .int .i64 t348, .bool t349, .int .i64 t350]) := by rw [ha]; exact putSel_on (e := (1, 19, .agg #[.int .i64 t343, .int .i64 t344, .int .i64 t345, .int .i64 t346, .int .i64 t347, .int .i64 t348, .bool t349, .int .i64 t350])) 1 rfl rfl (hon 1 (by kernel_rfl)) rfl
   replace ha := Aside0.mk ha
   have BK341 := Aside0.mk Q_BK341
   have BK342 := Aside0.mk Q_BK342
   have HB := Aside0.mk Q_HB
   have NB365_364 := Aside0.mk (Q_NB365_364 (hon 4 (by kernel_rfl)) (hon 5 (by kernel_rfl)))
   have NB364_365 := Aside0.mk (Q_NB364_365 (hon 4 (by kernel_rfl)) (hon 5 (by kernel_rfl)))
   have BK364 := Aside0.mk (Q_BK364 (hon 4 (by kernel_rfl)) hb_)
   have GW364 := Aside0.mk (Q_GW364 (hon 4 (by kernel_rfl)))
   have GE364 := Aside0.mk (Q_GE364 (hon 4 (by kernel_rfl)))
   have NB341_364 := Aside0.mk (Q_NB341_364 (hon 4 (by kernel_rfl)))
   have NB364_341 := Aside0.mk (Q_NB364_341 (hon 4 (by kernel_rfl)))
   have NB342_364 := Aside0.mk (Q_NB342_364 (hon 4 (by kernel_rfl)))
   have NB364_342 := Aside0.mk (Q_NB364_342 (hon 4 (by kernel_rfl)))
   have BK365 := Aside0.mk (Q_BK365 (hon 5 (by kernel_rfl)) (hoff 7 (by kernel_rfl)))
   have GW365 := Aside0.mk (Q_GW365 (hon 5 (by kernel_rfl)))
   have GE365 := Aside0.mk (Q_GE365 (hon 5 (by kernel_rfl)))
   have NB341_365 := Aside0.mk (Q_NB341_365 (hon 5 (by kernel_rfl)))
   have NB365_341 := Aside0.mk (Q_NB365_341 (hon 5 (by kernel_rfl)))
   have NB342_365 := Aside0.mk (Q_NB342_365 (hon 5 (by kernel_rfl)))
   have NB365_342 := Aside0.mk (Q_NB365_342 (hon 5 (by kernel_rfl)))
   have hs16 : w'.cell? ⟨gb364, 0, none⟩ = some (.int .i64 0) := (blk_cell BK364.out 0).trans rfl
   have hfs16 := blk_frozen BK364.out 0
   have hns16_0 := NB341_364.out
   have hns16_1 := NB342_364.out
   have hns16_3 := NB365_364.out
   have hms16_0 := NB364_341.out
   have hms16_1 := NB364_342.out
   have hms16_3 := NB364_365.out
   have hs17 : w'.cell? ⟨gb364, 1, none⟩ = some (.int .i64 0) := (blk_cell BK364.out 1).trans rfl
   have hfs17 := blk_frozen BK364.out 1
   have hns17_0 := NB341_364.out
   have hns17_1 := NB342_364.out
   have hns17_3 := NB365_364.out
   have hms17_0 := NB364_341.out
   have hms17_1 := NB364_342.out
   have hms17_3 := NB364_365.out
   have hs18 : w'.cell? ⟨gb364, 2, none⟩ = some (.int .i64 0) := (blk_cell BK364.out 2).trans rfl
   have hfs18 := blk_frozen BK364.out 2
   have hns18_0 := NB341_364.out
   have hns18_1 := NB342_364.out
   have hns18_3 := NB365_364.out
   have hms18_0 := NB364_341.out
   have hms18_1 := NB364_342.out
   have hms18_3 := NB364_365.out
   have hs19 : w'.cell? ⟨gb364, 3, none⟩ = some (.int .i64 0) := (blk_cell BK364.out 3).trans rfl
   have hfs19 := blk_frozen BK364.out 3
   have hns19_0 := NB341_364.out
   have hns19_1 := NB342_364.out
   have hns19_3 := NB365_364.out
   have hms19_0 := NB364_341.out
   have hms19_1 := NB364_342.out
   have hms19_3 := NB364_365.out
   have hs20 : w'.cell? ⟨gb364, 4, none⟩ = some (.int .i64 0) := (blk_cell BK364.out 4).trans rfl
   have hfs20 := blk_frozen BK364.out 4
   have hns20_0 := NB341_364.out
   have hns20_1 := NB342_364.out
   have hns20_3 := NB365_364.out
   have hms20_0 := NB364_341.out
   have hms20_1 := NB364_342.out
   have hms20_3 := NB364_365.out
   have hs21 : w'.cell? ⟨gb364, 5, none⟩ = some (.int .i64 0) := (blk_cell BK364.out 5).trans rfl
   have hfs21 := blk_frozen BK364.out 5
   have hns21_0 := NB341_364.out
   have hns21_1 := NB342_364.out
   have hns21_3 := NB365_364.out
   have hms21_0 := NB364_341.out
   have hms21_1 := NB364_342.out
   have hms21_3 := NB364_365.out
   have hs22 : w'.cell? ⟨gb364, 6, none⟩ = some (.bool false) := (blk_cell BK364.out 6).trans rfl
   have hfs22 := blk_frozen BK364.out 6
   have hns22_0 := NB341_364.out
   have hns22_1 := NB342_364.out
   have hns22_3 := NB365_364.out
   have hms22_0 := NB364_341.out
   have hms22_1 := NB364_342.out
   have hms22_3 := NB364_365.out
   have hs23 : w'.cell? ⟨gb364, 7, none⟩ = some (.int .i64 0) := (blk_cell BK364.out 7).trans rfl
   have hfs23 := blk_frozen BK364.out 7
   have hns23_0 := NB341_364.out
   have hns23_1 := NB342_364.out
   have hns23_3 := NB365_364.out
   have hms23_0 := NB364_341.out
   have hms23_1 := NB364_342.out
   have hms23_3 := NB364_365.out
   refine skip_ (w1 := ?_) (by rfl) rfl ?_ ?_
   rotate_left
   ·
    go_simp
    rfl
   refine hK.out _ _ ⟨gb364, gb365, m4_, m5_, (by rw [ha.out]; exact putSel_none (v := undef) rfl), (plf BK341.out), (plf BK342.out), (hbp HB.out), fun _ _ => NB365_364.out, fun _ _ => NB364_365.out, fun _ h1_ => absurd ((up_self b 6).symm.trans h1_) (by decide), fun _ => GW364.out, fun _ => GE364.out, fun _ => NB341_364.out, fun _ => NB364_341.out, fun _ => NB342_364.out, fun _ => NB364_342.out, fun _ _ => (plf BK365.out), fun _ => GW365.out, fun _ => GE365.out, fun _ => NB341_365.out, fun _ => NB365_341.out, fun _ => NB342_365.out, fun _ => NB365_342.out, fun _ => (by (with_reducible repeat (first | refine blk_drewN ?_ _ | refine blk_drew ?_ | refine blk_alloc ?_ _)); refine blk_put (cs := #[.int .i64 t343, .int .i64 t344, .int .i64 t345, .int .i64 t346, .int .i64 t347, .int .i64 t348, .bool t349, .int .i64 0]) ?_ 7 _ rfl; (with_reducible repeat (first | refine blk_drewN ?_ _ | refine blk_drew ?_ | refine blk_alloc ?_ _)); refine blk_put (cs := #[.int .i64 t343, .int .i64 t344, .int .i64 t345, .int .i64 t346, .int .i64 t347, .int .i64 t348, .bool false, .int .i64 0]) ?_ 6 _ rfl; (with_reducible repeat (first | refine blk_drewN ?_ _ | refine blk_drew ?_ | refine blk_alloc ?_ _)); refine blk_put (cs := #[.int .i64 t343, .int .i64 t344, .int .i64 t345, .int .i64 t346, .int .i64 t347, .int .i64 0, .bool false, .int .i64 0]) ?_ 5 _ rfl; (with_reducible repeat (first | refine blk_drewN ?_ _ | refine blk_drew ?_ | refine blk_alloc ?_ _)); refine blk_put (cs := #[.int .i64 t343, .int .i64 t344, .int .i64 t345, .int .i64 t346, .int .i64 0, .int .i64 0, .bool false, .int .i64 0]) ?_ 4 _ rfl; (with_reducible repeat (first | refine blk_drewN ?_ _ | refine blk_drew ?_ | refine blk_alloc ?_ _)); refine blk_put (cs := #[.int .i64 t343, .int .i64 t344, .int .i64 t345, .int .i64 0, .int .i64 0, .int .i64 0, .bool false, .int .i64 0]) ?_ 3 _ rfl; (with_reducible repeat (first | refine blk_drewN ?_ _ | refine blk_drew ?_ | refine blk_alloc ?_ _)); refine blk_put (cs := #[.int .i64 t343, .int .i64 t344, .int .i64 0, .int .i64 0, .int .i64 0, .int .i64 0, .bool false, .int .i64 0]) ?_ 2 _ rfl; (with_reducible repeat (first | refine blk_drewN ?_ _ | refine blk_drew ?_ | refine blk_alloc ?_ _)); refine blk_put (cs := #[.int .i64 t343, .int .i64 0, .int .i64 0, .int .i64 0, .int .i64 0, .int .i64 0, .bool false, .int .i64 0]) ?_ 1 _ rfl; (with_reducible repeat (first | refine blk_drewN ?_ _ | refine blk_drew ?_ | refine blk_alloc ?_ _)); refine blk_put (cs := #[.int .i64 0, .int .i64 0, .int .i64 0, .int .i64 0, .int .i64 0, .int .i64 0, .bool false, .int .i64 0]) ?_ 0 _ rfl; (with_reducible repeat (first | refine blk_drewN ?_ _ | refine blk_drew ?_ | refine blk_alloc ?_ _)); exact BK364.out), fun h0_ => absurd ((hoff 7 (by kernel_rfl)).symm.trans h0_) (by decide), Q_X4_, Q_X5_⟩
  refine steps_cons ?_ ?_
  ·
   rintro b a w' ⟨gb364, gb365, m4_, m5_, ha, Q_BK341, Q_BK342, Q_HB, Q_NB365_364, Q_NB364_365, Q_BK364, Q_GW364, Q_GE364, Q_NB341_364, Q_NB364_341, Q_NB342_364, Q_NB364_342, Q_BK365, Q_GW365, Q_GE365, Q_NB341_365, Q_NB365_341, Q_NB342_365, Q_NB365_342, Q_BK364_e6, Q_BK365_e7, Q_X4_, Q_X5_⟩ hb_ hon hoff
   refine ⟨_, rfl, fun K hK => ?_⟩
   have e8 : a.tmps[8]? = some (m5_) := by rw [ha]; exact putSel_on (e := (5, 8, m5_)) 5 rfl rfl (hon 5 (by kernel_rfl)) rfl
   rw [Q_X5_ (hon 5 (by kernel_rfl))] at e8
   have e21 : a.tmps[21]? = some (.agg #[.int .i64 t351, .int .i64 t352, .int .i64 t353, .int .i64 t354, .int .i64 t355, .int .i64 t356, .int .i64 t357, .int .i64 t358, .int .i64 t359, .int .i64 t360, .int .i64 t361, .int .i64 t362, .int .i64 t363]) := by rw [ha]; exact putSel_on (e := (3, 21, .agg #[.int .i64 t351, .int .i64 t352, .int .i64 t353, .int .i64 t354, .int .i64 t355, .int .i64 t356, .int .i64 t357, .int .i64 t358, .int .i64 t359, .int .i64 t360, .int .i64 t361, .int .i64 t362, .int .i64 t363])) 3 rfl rfl (hon 3 (by kernel_rfl)) rfl
   replace ha := Aside0.mk ha
   have BK341 := Aside0.mk Q_BK341
   have BK342 := Aside0.mk Q_BK342
   have HB := Aside0.mk Q_HB
   have NB365_364 := Aside0.mk (Q_NB365_364 (hon 4 (by kernel_rfl)) (hon 5 (by kernel_rfl)))
   have NB364_365 := Aside0.mk (Q_NB364_365 (hon 4 (by kernel_rfl)) (hon 5 (by kernel_rfl)))
   have GW364 := Aside0.mk (Q_GW364 (hon 4 (by kernel_rfl)))
   have GE364 := Aside0.mk (Q_GE364 (hon 4 (by kernel_rfl)))
   have NB341_364 := Aside0.mk (Q_NB341_364 (hon 4 (by kernel_rfl)))
   have NB364_341 := Aside0.mk (Q_NB364_341 (hon 4 (by kernel_rfl)))
   have NB342_364 := Aside0.mk (Q_NB342_364 (hon 4 (by kernel_rfl)))
   have NB364_342 := Aside0.mk (Q_NB364_342 (hon 4 (by kernel_rfl)))
   have BK365 := Aside0.mk (Q_BK365 (hon 5 (by kernel_rfl)) hb_)
   have GW365 := Aside0.mk (Q_GW365 (hon 5 (by kernel_rfl)))
   have GE365 := Aside0.mk (Q_GE365 (hon 5 (by kernel_rfl)))
   have NB341_365 := Aside0.mk (Q_NB341_365 (hon 5 (by kernel_rfl)))
   have NB365_341 := Aside0.mk (Q_NB365_341 (hon 5 (by kernel_rfl)))
   have NB342_365 := Aside0.mk (Q_NB342_365 (hon 5 (by kernel_rfl)))
   have NB365_342 := Aside0.mk (Q_NB365_342 (hon 5 (by kernel_rfl)))
   have BK364 := Aside0.mk (Q_BK364_e6 (hon 6 (by kernel_rfl)))
   have hs24 : w'.cell? ⟨gb365, 0, none⟩ = some (.int .i64 0) := (blk_cell BK365.out 0).trans rfl
   have hfs24 := blk_frozen BK365.out 0
   have hns24_0 := NB341_365.out
   have hns24_1 := NB342_365.out
   have hns24_2 := NB364_365.out
   have hms24_0 := NB365_341.out
   have hms24_1 := NB365_342.out
   have hms24_2 := NB365_364.out
   have hs25 : w'.cell? ⟨gb365, 1, none⟩ = some (.int .i64 0) := (blk_cell BK365.out 1).trans rfl
   have hfs25 := blk_frozen BK365.out 1
   have hns25_0 := NB341_365.out
   have hns25_1 := NB342_365.out
   have hns25_2 := NB364_365.out
   have hms25_0 := NB365_341.out
   have hms25_1 := NB365_342.out
   have hms25_2 := NB365_364.out
   have hs26 : w'.cell? ⟨gb365, 2, none⟩ = some (.int .i64 0) := (blk_cell BK365.out 2).trans rfl
   have hfs26 := blk_frozen BK365.out 2
   have hns26_0 := NB341_365.out
   have hns26_1 := NB342_365.out
   have hns26_2 := NB364_365.out
   have hms26_0 := NB365_341.out
   have hms26_1 := NB365_342.out
   have hms26_2 := NB365_364.out
   have hs27 : w'.cell? ⟨gb365, 3, none⟩ = some (.int .i64 0) := (blk_cell BK365.out 3).trans rfl
   have hfs27 := blk_frozen BK365.out 3
   have hns27_0 := NB341_365.out
   have hns27_1 := NB342_365.out
   have hns27_2 := NB364_365.out
   have hms27_0 := NB365_341.out
   have hms27_1 := NB365_342.out
   have hms27_2 := NB365_364.out
   have hs28 : w'.cell? ⟨gb365, 4, none⟩ = some (.int .i64 0) := (blk_cell BK365.out 4).trans rfl
   have hfs28 := blk_frozen BK365.out 4
   have hns28_0 := NB341_365.out
   have hns28_1 := NB342_365.out
   have hns28_2 := NB364_365.out
   have hms28_0 := NB365_341.out
   have hms28_1 := NB365_342.out
   have hms28_2 := NB365_364.out
   have hs29 : w'.cell? ⟨gb365, 5, none⟩ = some (.int .i64 0) := (blk_cell BK365.out 5).trans rfl
   have hfs29 := blk_frozen BK365.out 5
   have hns29_0 := NB341_365.out
   have hns29_1 := NB342_365.out
   have hns29_2 := NB364_365.out
   have hms29_0 := NB365_341.out
   have hms29_1 := NB365_342.out
   have hms29_2 := NB365_364.out
   have hs30 : w'.cell? ⟨gb365, 6, none⟩ = some (.int .i64 0) := (blk_cell BK365.out 6).trans rfl
   have hfs30 := blk_frozen BK365.out 6
   have hns30_0 := NB341_365.out
   have hns30_1 := NB342_365.out
   have hns30_2 := NB364_365.out
   have hms30_0 := NB365_341.out
   have hms30_1 := NB365_342.out
   have hms30_2 := NB365_364.out
   have hs31 : w'.cell? ⟨gb365, 7, none⟩ = some (.int .i64 0) := (blk_cell BK365.out 7).trans rfl
   have hfs31 := blk_frozen BK365.out 7
   have hns31_0 := NB341_365.out
   have hns31_1 := NB342_365.out
   have hns31_2 := NB364_365.out
   have hms31_0 := NB365_341.out
   have hms31_1 := NB365_342.out
   have hms31_2 := NB365_364.out
   have hs32 : w'.cell? ⟨gb365, 8, none⟩ = some (.int .i64 0) := (blk_cell BK365.out 8).trans rfl
   have hfs32 := blk_frozen BK365.out 8
   have hns32_0 := NB341_365.out
   have hns32_1 := NB342_365.out
   have hns32_2 := NB364_365.out
   have hms32_0 := NB365_341.out
   have hms32_1 := NB365_342.out
   have hms32_2 := NB365_364.out
   have hs33 : w'.cell? ⟨gb365, 9, none⟩ = some (.int .i64 0) := (blk_cell BK365.out 9).trans rfl
   have hfs33 := blk_frozen BK365.out 9
   have hns33_0 := NB341_365.out
   have hns33_1 := NB342_365.out
   have hns33_2 := NB364_365.out
   have hms33_0 := NB365_341.out
   have hms33_1 := NB365_342.out
   have hms33_2 := NB365_364.out
   have hs34 : w'.cell? ⟨gb365, 10, none⟩ = some (.int .i64 0) := (blk_cell BK365.out 10).trans rfl
   have hfs34 := blk_frozen BK365.out 10
   have hns34_0 := NB341_365.out
   have hns34_1 := NB342_365.out
   have hns34_2 := NB364_365.out
   have hms34_0 := NB365_341.out
   have hms34_1 := NB365_342.out
   have hms34_2 := NB365_364.out
   have hs35 : w'.cell? ⟨gb365, 11, none⟩ = some (.int .i64 0) := (blk_cell BK365.out 11).trans rfl
   have hfs35 := blk_frozen BK365.out 11
   have hns35_0 := NB341_365.out
   have hns35_1 := NB342_365.out
   have hns35_2 := NB364_365.out
   have hms35_0 := NB365_341.out
   have hms35_1 := NB365_342.out
   have hms35_2 := NB365_364.out
   have hs36 : w'.cell? ⟨gb365, 12, none⟩ = some (.int .i64 0) := (blk_cell BK365.out 12).trans rfl
   have hfs36 := blk_frozen BK365.out 12
   have hns36_0 := NB341_365.out
   have hns36_1 := NB342_365.out
   have hns36_2 := NB364_365.out
   have hms36_0 := NB365_341.out
   have hms36_1 := NB365_342.out
   have hms36_2 := NB365_364.out
   refine skip_ (w1 := ?_) (by rfl) rfl ?_ ?_
   rotate_left
   ·
    go_simp
    rfl
   refine hK.out _ _ ⟨gb364, gb365, m4_, m5_, (by rw [ha.out]; exact putSel_none (v := undef) rfl), (plf BK341.out), (plf BK342.out), (hbp HB.out), fun _ _ => NB365_364.out, fun _ _ => NB364_365.out, fun _ h1_ => absurd ((hon 6 (by kernel_rfl)).symm.trans h1_) (by decide), fun _ => GW364.out, fun _ => GE364.out, fun _ => NB341_364.out, fun _ => NB364_341.out, fun _ => NB342_364.out, fun _ => NB364_342.out, fun _ h1_ => absurd ((up_self b 7).symm.trans h1_) (by decide), fun _ => GW365.out, fun _ => GE365.out, fun _ => NB341_365.out, fun _ => NB365_341.out, fun _ => NB342_365.out, fun _ => NB365_342.out, fun _ => (plf BK364.out), fun _ => (by (with_reducible repeat (first | refine blk_drewN ?_ _ | refine blk_drew ?_ | refine blk_alloc ?_ _)); refine blk_put (cs := #[.int .i64 t351, .int .i64 t352, .int .i64 t353, .int .i64 t354, .int .i64 t355, .int .i64 t356, .int .i64 t357, .int .i64 t358, .int .i64 t359, .int .i64 t360, .int .i64 t361, .int .i64 t362, .int .i64 0]) ?_ 12 _ rfl; (with_reducible repeat (first | refine blk_drewN ?_ _ | refine blk_drew ?_ | refine blk_alloc ?_ _)); refine blk_put (cs := #[.int .i64 t351, .int .i64 t352, .int .i64 t353, .int .i64 t354, .int .i64 t355, .int .i64 t356, .int .i64 t357, .int .i64 t358, .int .i64 t359, .int .i64 t360, .int .i64 t361, .int .i64 0, .int .i64 0]) ?_ 11 _ rfl; (with_reducible repeat (first | refine blk_drewN ?_ _ | refine blk_drew ?_ | refine blk_alloc ?_ _)); refine blk_put (cs := #[.int .i64 t351, .int .i64 t352, .int .i64 t353, .int .i64 t354, .int .i64 t355, .int .i64 t356, .int .i64 t357, .int .i64 t358, .int .i64 t359, .int .i64 t360, .int .i64 0, .int .i64 0, .int .i64 0]) ?_ 10 _ rfl; (with_reducible repeat (first | refine blk_drewN ?_ _ | refine blk_drew ?_ | refine blk_alloc ?_ _)); refine blk_put (cs := #[.int .i64 t351, .int .i64 t352, .int .i64 t353, .int .i64 t354, .int .i64 t355, .int .i64 t356, .int .i64 t357, .int .i64 t358, .int .i64 t359, .int .i64 0, .int .i64 0, .int .i64 0, .int .i64 0]) ?_ 9 _ rfl; (with_reducible repeat (first | refine blk_drewN ?_ _ | refine blk_drew ?_ | refine blk_alloc ?_ _)); refine blk_put (cs := #[.int .i64 t351, .int .i64 t352, .int .i64 t353, .int .i64 t354, .int .i64 t355, .int .i64 t356, .int .i64 t357, .int .i64 t358, .int .i64 0, .int .i64 0, .int .i64 0, .int .i64 0, .int .i64 0]) ?_ 8 _ rfl; (with_reducible repeat (first | refine blk_drewN ?_ _ | refine blk_drew ?_ | refine blk_alloc ?_ _)); refine blk_put (cs := #[.int .i64 t351, .int .i64 t352, .int .i64 t353, .int .i64 t354, .int .i64 t355, .int .i64 t356, .int .i64 t357, .int .i64 0, .int .i64 0, .int .i64 0, .int .i64 0, .int .i64 0, .int .i64 0]) ?_ 7 _ rfl; (with_reducible repeat (first | refine blk_drewN ?_ _ | refine blk_drew ?_ | refine blk_alloc ?_ _)); refine blk_put (cs := #[.int .i64 t351, .int .i64 t352, .int .i64 t353, .int .i64 t354, .int .i64 t355, .int .i64 t356, .int .i64 0, .int .i64 0, .int .i64 0, .int .i64 0, .int .i64 0, .int .i64 0, .int .i64 0]) ?_ 6 _ rfl; (with_reducible repeat (first | refine blk_drewN ?_ _ | refine blk_drew ?_ | refine blk_alloc ?_ _)); refine blk_put (cs := #[.int .i64 t351, .int .i64 t352, .int .i64 t353, .int .i64 t354, .int .i64 t355, .int .i64 0, .int .i64 0, .int .i64 0, .int .i64 0, .int .i64 0, .int .i64 0, .int .i64 0, .int .i64 0]) ?_ 5 _ rfl; (with_reducible repeat (first | refine blk_drewN ?_ _ | refine blk_drew ?_ | refine blk_alloc ?_ _)); refine blk_put (cs := #[.int .i64 t351, .int .i64 t352, .int .i64 t353, .int .i64 t354, .int .i64 0, .int .i64 0, .int .i64 0, .int .i64 0, .int .i64 0, .int .i64 0, .int .i64 0, .int .i64 0, .int .i64 0]) ?_ 4 _ rfl; (with_reducible repeat (first | refine blk_drewN ?_ _ | refine blk_drew ?_ | refine blk_alloc ?_ _)); refine blk_put (cs := #[.int .i64 t351, .int .i64 t352, .int .i64 t353, .int .i64 0, .int .i64 0, .int .i64 0, .int .i64 0, .int .i64 0, .int .i64 0, .int .i64 0, .int .i64 0, .int .i64 0, .int .i64 0]) ?_ 3 _ rfl; (with_reducible repeat (first | refine blk_drewN ?_ _ | refine blk_drew ?_ | refine blk_alloc ?_ _)); refine blk_put (cs := #[.int .i64 t351, .int .i64 t352, .int .i64 0, .int .i64 0, .int .i64 0, .int .i64 0, .int .i64 0, .int .i64 0, .int .i64 0, .int .i64 0, .int .i64 0, .int .i64 0, .int .i64 0]) ?_ 2 _ rfl; (with_reducible repeat (first | refine blk_drewN ?_ _ | refine blk_drew ?_ | refine blk_alloc ?_ _)); refine blk_put (cs := #[.int .i64 t351, .int .i64 0, .int .i64 0, .int .i64 0, .int .i64 0, .int .i64 0, .int .i64 0, .int .i64 0, .int .i64 0, .int .i64 0, .int .i64 0, .int .i64 0, .int .i64 0]) ?_ 1 _ rfl; (with_reducible repeat (first | refine blk_drewN ?_ _ | refine blk_drew ?_ | refine blk_alloc ?_ _)); refine blk_put (cs := #[.int .i64 0, .int .i64 0, .int .i64 0, .int .i64 0, .int .i64 0, .int .i64 0, .int .i64 0, .int .i64 0, .int .i64 0, .int .i64 0, .int .i64 0, .int .i64 0, .int .i64 0]) ?_ 0 _ rfl; (with_reducible repeat (first | refine blk_drewN ?_ _ | refine blk_drew ?_ | refine blk_alloc ?_ _)); exact BK365.out), Q_X4_, Q_X5_⟩
  exact steps_nil
 rintro b a w36 hall ⟨gb364, gb365, m4_, m5_, ha, Q_BK341, Q_BK342, Q_HB, Q_NB365_364, Q_NB364_365, Q_BK364, Q_GW364, Q_GE364, Q_NB341_364, Q_NB364_341, Q_NB342_364, Q_NB364_342, Q_BK365, Q_GW365, Q_GE365, Q_NB341_365, Q_NB365_341, Q_NB342_365, Q_NB365_342, Q_BK364_e6, Q_BK365_e7, Q_X4_, Q_X5_⟩
 clear BK341 BK342 HB
 have hb0_ := hall 0 (by kernel_rfl)
 have hb1_ := hall 1 (by kernel_rfl)
 have hb2_ := hall 2 (by kernel_rfl)
 have hb3_ := hall 3 (by kernel_rfl)
 have hb4_ := hall 4 (by kernel_rfl)
 have hb5_ := hall 5 (by kernel_rfl)
 have hb6_ := hall 6 (by kernel_rfl)
 have hb7_ := hall 7 (by kernel_rfl)
 subst ha
 obtain rfl := Q_X4_ hb4_
 obtain rfl := Q_X5_ hb5_
 simp only [putSel, hb0_, hb1_, hb2_, hb3_, hb4_, hb5_, hb6_, hb7_, if_true, Act.put, List.setIfInBounds_toArray, List.set_cons_zero, List.set_cons_succ]
 have BK341 := Aside0.mk Q_BK341
 clear Q_BK341
 have BK342 := Aside0.mk Q_BK342
 clear Q_BK342
 have HB := Aside0.mk Q_HB
 clear Q_HB
 have NB365_364 := Aside0.mk (Q_NB365_364 hb4_ hb5_)
 clear Q_NB365_364
 have NB364_365 := Aside0.mk (Q_NB364_365 hb4_ hb5_)
 clear Q_NB364_365 Q_BK364
 have GW364 := Aside0.mk (Q_GW364 hb4_)
 clear Q_GW364
 have GE364 := Aside0.mk (Q_GE364 hb4_)
 clear Q_GE364
 have NB341_364 := Aside0.mk (Q_NB341_364 hb4_)
 clear Q_NB341_364
 have NB364_341 := Aside0.mk (Q_NB364_341 hb4_)
 clear Q_NB364_341
 have NB342_364 := Aside0.mk (Q_NB342_364 hb4_)
 clear Q_NB342_364
 have NB364_342 := Aside0.mk (Q_NB364_342 hb4_)
 clear Q_NB364_342 Q_BK365
 have GW365 := Aside0.mk (Q_GW365 hb5_)
 clear Q_GW365
 have GE365 := Aside0.mk (Q_GE365 hb5_)
 clear Q_GE365
 have NB341_365 := Aside0.mk (Q_NB341_365 hb5_)
 clear Q_NB341_365
 have NB365_341 := Aside0.mk (Q_NB365_341 hb5_)
 clear Q_NB365_341
 have NB342_365 := Aside0.mk (Q_NB342_365 hb5_)
 clear Q_NB342_365
 have NB365_342 := Aside0.mk (Q_NB365_342 hb5_)
 clear Q_NB365_342
 have BK364 := Aside0.mk (Q_BK364_e6 hb6_)
 clear Q_BK364_e6
 have BK365 := Aside0.mk (Q_BK365_e7 hb7_)
 clear Q_BK365_e7 hall hb0_ hb1_ hb2_ hb3_ hb4_ hb5_ hb6_ hb7_
 have hnb37 := NB364_341.out
 have hnc37 := NB341_364.out
 have hnb38 := NB364_342.out
 have hnc38 := NB342_364.out
 have hnb39 := NB364_365.out
 have hnc39 := NB365_364.out
 have hcz40_0 : w36.cell? ⟨gb364, 0, none⟩ = some (.int .i64 t343) := (blk_cell BK364.out 0).trans rfl
 have hcz40_1 : w36.cell? ⟨gb364, 1, none⟩ = some (.int .i64 t344) := (blk_cell BK364.out 1).trans rfl
 have hcz40_2 : w36.cell? ⟨gb364, 2, none⟩ = some (.int .i64 t345) := (blk_cell BK364.out 2).trans rfl
 have hcz40_3 : w36.cell? ⟨gb364, 3, none⟩ = some (.int .i64 t346) := (blk_cell BK364.out 3).trans rfl
 have hcz40_4 : w36.cell? ⟨gb364, 4, none⟩ = some (.int .i64 t347) := (blk_cell BK364.out 4).trans rfl
 have hcz40_5 : w36.cell? ⟨gb364, 5, none⟩ = some (.int .i64 t348) := (blk_cell BK364.out 5).trans rfl
 have hcz40_6 : w36.cell? ⟨gb364, 6, none⟩ = some (.bool t349) := (blk_cell BK364.out 6).trans rfl
 have hcz40_7 : w36.cell? ⟨gb364, 7, none⟩ = some (.int .i64 t350) := (blk_cell BK364.out 7).trans rfl
 have hfz40_0 := blk_frozen BK364.out 0
 have hfz40_1 := blk_frozen BK364.out 1
 have hfz40_2 := blk_frozen BK364.out 2
 have hfz40_3 := blk_frozen BK364.out 3
 have hfz40_4 := blk_frozen BK364.out 4
 have hfz40_5 := blk_frozen BK364.out 5
 have hfz40_6 := blk_frozen BK364.out 6
 have hfz40_7 := blk_frozen BK364.out 7
 have hnb41 := NB365_341.out
 have hnc41 := NB341_365.out
 have hnb42 := NB365_342.out
 have hnc42 := NB342_365.out
 have hcz43_0 : w36.cell? ⟨gb365, 0, none⟩ = some (.int .i64 t351) := (blk_cell BK365.out 0).trans rfl
 have hcz43_1 : w36.cell? ⟨gb365, 1, none⟩ = some (.int .i64 t352) := (blk_cell BK365.out 1).trans rfl
 have hcz43_2 : w36.cell? ⟨gb365, 2, none⟩ = some (.int .i64 t353) := (blk_cell BK365.out 2).trans rfl
 have hcz43_3 : w36.cell? ⟨gb365, 3, none⟩ = some (.int .i64 t354) := (blk_cell BK365.out 3).trans rfl
 have hcz43_4 : w36.cell? ⟨gb365, 4, none⟩ = some (.int .i64 t355) := (blk_cell BK365.out 4).trans rfl
 have hcz43_5 : w36.cell? ⟨gb365, 5, none⟩ = some (.int .i64 t356) := (blk_cell BK365.out 5).trans rfl
 have hcz43_6 : w36.cell? ⟨gb365, 6, none⟩ = some (.int .i64 t357) := (blk_cell BK365.out 6).trans rfl
 have hcz43_7 : w36.cell? ⟨gb365, 7, none⟩ = some (.int .i64 t358) := (blk_cell BK365.out 7).trans rfl
 have hcz43_8 : w36.cell? ⟨gb365, 8, none⟩ = some (.int .i64 t359) := (blk_cell BK365.out 8).trans rfl
 have hcz43_9 : w36.cell? ⟨gb365, 9, none⟩ = some (.int .i64 t360) := (blk_cell BK365.out 9).trans rfl
 have hcz43_10 : w36.cell? ⟨gb365, 10, none⟩ = some (.int .i64 t361) := (blk_cell BK365.out 10).trans rfl
 have hcz43_11 : w36.cell? ⟨gb365, 11, none⟩ = some (.int .i64 t362) := (blk_cell BK365.out 11).trans rfl
 have hcz43_12 : w36.cell? ⟨gb365, 12, none⟩ = some (.int .i64 t363) := (blk_cell BK365.out 12).trans rfl
 have hfz43_0 := blk_frozen BK365.out 0
 have hfz43_1 := blk_frozen BK365.out 1
 have hfz43_2 := blk_frozen BK365.out 2
 have hfz43_3 := blk_frozen BK365.out 3
 have hfz43_4 := blk_frozen BK365.out 4
 have hfz43_5 := blk_frozen BK365.out 5
 have hfz43_6 := blk_frozen BK365.out 6
 have hfz43_7 := blk_frozen BK365.out 7
 have hfz43_8 := blk_frozen BK365.out 8
 have hfz43_9 := blk_frozen BK365.out 9
 have hfz43_10 := blk_frozen BK365.out 10
 have hfz43_11 := blk_frozen BK365.out 11
 have hfz43_12 := blk_frozen BK365.out 12
 go_upto_block 0 with (first | ((with_reducible refine gate_callee (f := 17) rfl ?_); refine goesL_ (some 37) rfl rfl Try.func17 (by kernel_rfl) rfl #[.int .i64 (wrap64 (t360 * (wrap64 (t343 * t348)))), .int .i64 (wrap64 (t361 * (wrap64 (t343 * t348))))] rfl (by (try simp only [List.map_toArray, List.map_cons, List.map_nil]); first | done | rfl | (simp only [List.length_drop, List.length_take]; rfl)) ?_; (with_reducible refine (acmetop_armSpan.calls (wrap64 (t360 * (wrap64 (t343 * t348)))) (wrap64 (t361 * (wrap64 (t343 * t348)))) t366 t367 _ A6.out).mono ?_); rintro e w44 ⟨rfl, hb⟩; refine ⟨_, rfl, ?_⟩; have n0_ := Aside0.mk (blk_below (pl BK341.out) hb); have n1_ := Aside0.mk (blk_below (pl BK342.out) hb); have n2_ := Aside0.mk (blk_below (pl BK364.out) hb); have n3_ := Aside0.mk (blk_below (pl BK365.out) hb); have n4_ := Aside0.mk (below_step (hbp HB.out) hb); clear BK341; clear BK342; clear BK364; clear BK365; clear HB; have BK341 := n0_; have BK342 := n1_; have BK364 := n2_; have BK365 := n3_; have HB := n4_; clear n0_ n1_ n2_ n3_ n4_; (try clear hb); (try clear hb2); (try clear hk); (try clear hi); have hcz45_0 : w44.cell? ⟨gb365, 0, none⟩ = some (.int .i64 t351) := (blk_cell BK365.out 0).trans rfl; have hcz45_1 : w44.cell? ⟨gb365, 1, none⟩ = some (.int .i64 t352) := (blk_cell BK365.out 1).trans rfl; have hcz45_2 : w44.cell? ⟨gb365, 2, none⟩ = some (.int .i64 t353) := (blk_cell BK365.out 2).trans rfl; have hcz45_3 : w44.cell? ⟨gb365, 3, none⟩ = some (.int .i64 t354) := (blk_cell BK365.out 3).trans rfl; have hcz45_4 : w44.cell? ⟨gb365, 4, none⟩ = some (.int .i64 t355) := (blk_cell BK365.out 4).trans rfl; have hcz45_5 : w44.cell? ⟨gb365, 5, none⟩ = some (.int .i64 t356) := (blk_cell BK365.out 5).trans rfl; have hcz45_6 : w44.cell? ⟨gb365, 6, none⟩ = some (.int .i64 t357) := (blk_cell BK365.out 6).trans rfl; have hcz45_7 : w44.cell? ⟨gb365, 7, none⟩ = some (.int .i64 t358) := (blk_cell BK365.out 7).trans rfl; have hcz45_8 : w44.cell? ⟨gb365, 8, none⟩ = some (.int .i64 t359) := (blk_cell BK365.out 8).trans rfl; have hcz45_9 : w44.cell? ⟨gb365, 9, none⟩ = some (.int .i64 t360) := (blk_cell BK365.out 9).trans rfl; have hcz45_10 : w44.cell? ⟨gb365, 10, none⟩ = some (.int .i64 t361) := (blk_cell BK365.out 10).trans rfl; have hcz45_11 : w44.cell? ⟨gb365, 11, none⟩ = some (.int .i64 t362) := (blk_cell BK365.out 11).trans rfl; have hcz45_12 : w44.cell? ⟨gb365, 12, none⟩ = some (.int .i64 t363) := (blk_cell BK365.out 12).trans rfl; have hfz45_0 := blk_frozen BK365.out 0; have hfz45_1 := blk_frozen BK365.out 1; have hfz45_2 := blk_frozen BK365.out 2; have hfz45_3 := blk_frozen BK365.out 3; have hfz45_4 := blk_frozen BK365.out 4; have hfz45_5 := blk_frozen BK365.out 5; have hfz45_6 := blk_frozen BK365.out 6; have hfz45_7 := blk_frozen BK365.out 7; have hfz45_8 := blk_frozen BK365.out 8; have hfz45_9 := blk_frozen BK365.out 9; have hfz45_10 := blk_frozen BK365.out 10; have hfz45_11 := blk_frozen BK365.out 11; have hfz45_12 := blk_frozen BK365.out 12))
 (try simp only [Act.put, List.setIfInBounds_toArray, List.set_cons_zero, List.set_cons_succ])
 go_cut [10] (fun v10 wc => ∃ (kq : Nat) (x10_6 : Int), v10 = .int .i64 x10_6 ∧ Aside0 (acmetop_TopBoltThread.j1 kq a2 (wrap64 (t343 * t348)) x10_6 t343 t344 t345 t346 t347 t348 t349 t350 t351 t352 t353 t354 t355 t356 t357 t366 t367 t360 t361 t362 t363 = some r) ∧ Aside0 (kq ≤ k) ∧ Aside0 (wc.heap[gb341]? = some (.cells #[.int .u8 a0_0, .int .u8 a0_1, .int .u8 a0_2, .int .u8 a0_3, .int .u8 a0_4, .int .u8 a0_5, .int .u8 a0_6, .int .u8 a0_7, .int .u8 a0_8] 26 (0, 0))) ∧ Aside0 (wc.heap[gb342]? = some (.cells #[.int .u16 a1_0, .int .u16 a1_1, .int .u16 a1_2, .int .i8 a1_3, .int .i8 a1_4] 31 (0, 0))) ∧ Aside0 (wc.heap[gb364]? = some (.cells #[.int .i64 t343, .int .i64 t344, .int .i64 t345, .int .i64 t346, .int .i64 t347, .int .i64 t348, .bool t349, .int .i64 t350] 33 (0, 0))) ∧ Aside0 (wc.heap[gb365]? = some (.cells #[.int .i64 t351, .int .i64 t352, .int .i64 t353, .int .i64 t354, .int .i64 t355, .int .i64 t356, .int .i64 t357, .int .i64 t366, .int .i64 t367, .int .i64 t360, .int .i64 t361, .int .i64 t362, .int .i64 t363] 38 (0, 0))) ∧ Aside0 (Below w.heap.size w wc))
 case first =>
  have H := HC7.out
  clear HC7
  have H' := Aside0.mk H
  clear H
  go_wp2
  go_loopg [10] k (fun kq v10 w' => ∃ (x10_1 : Int), v10 = .int .i64 x10_1 ∧ Aside0 (acmetop_TopBoltThread.l0 kq a2 (wrap64 (t343 * t348)) x10_1 t343 t344 t345 t346 t347 t348 t349 t350 t351 t352 t353 t354 t355 t356 t357 t366 t367 t360 t361 t362 t363 = some r) ∧ Aside0 (kq ≤ k) ∧ Aside0 (w'.heap[gb341]? = some (.cells #[.int .u8 a0_0, .int .u8 a0_1, .int .u8 a0_2, .int .u8 a0_3, .int .u8 a0_4, .int .u8 a0_5, .int .u8 a0_6, .int .u8 a0_7, .int .u8 a0_8] 26 (0, 0))) ∧ Aside0 (w'.heap[gb342]? = some (.cells #[.int .u16 a1_0, .int .u16 a1_1, .int .u16 a1_2, .int .i8 a1_3, .int .i8 a1_4] 31 (0, 0))) ∧ Aside0 (w'.heap[gb364]? = some (.cells #[.int .i64 t343, .int .i64 t344, .int .i64 t345, .int .i64 t346, .int .i64 t347, .int .i64 t348, .bool t349, .int .i64 t350] 33 (0, 0))) ∧ Aside0 (w'.heap[gb365]? = some (.cells #[.int .i64 t351, .int .i64 t352, .int .i64 t353, .int .i64 t354, .int .i64 t355, .int .i64 t356, .int .i64 t357, .int .i64 t366, .int .i64 t367, .int .i64 t360, .int .i64 t361, .int .i64 t362, .int .i64 t363] 38 (0, 0))) ∧ Aside0 (Below w.heap.size w w'))
  case atStart => exact ⟨(1000), (by first | rfl | (simp; done) | (simp [*]; done)), H', ⟨Nat.le_refl _⟩, ⟨by (with_reducible repeat (first | refine blk_drewN ?_ _ | refine blk_drew ?_ | refine blk_alloc ?_ _)); refine blk_far ?_ NB341_365.out _; (with_reducible repeat (first | refine blk_drewN ?_ _ | refine blk_drew ?_ | refine blk_alloc ?_ _)); refine blk_far ?_ NB341_365.out _; (with_reducible repeat (first | refine blk_drewN ?_ _ | refine blk_drew ?_ | refine blk_alloc ?_ _)); exact BK341.out⟩, ⟨by (with_reducible repeat (first | refine blk_drewN ?_ _ | refine blk_drew ?_ | refine blk_alloc ?_ _)); refine blk_far ?_ NB342_365.out _; (with_reducible repeat (first | refine blk_drewN ?_ _ | refine blk_drew ?_ | refine blk_alloc ?_ _)); refine blk_far ?_ NB342_365.out _; (with_reducible repeat (first | refine blk_drewN ?_ _ | refine blk_drew ?_ | refine blk_alloc ?_ _)); exact BK342.out⟩, ⟨by (with_reducible repeat (first | refine blk_drewN ?_ _ | refine blk_drew ?_ | refine blk_alloc ?_ _)); refine blk_far ?_ NB364_365.out _; (with_reducible repeat (first | refine blk_drewN ?_ _ | refine blk_drew ?_ | refine blk_alloc ?_ _)); refine blk_far ?_ NB364_365.out _; (with_reducible repeat (first | refine blk_drewN ?_ _ | refine blk_drew ?_ | refine blk_alloc ?_ _)); exact BK364.out⟩, ⟨by (with_reducible repeat (first | refine blk_drewN ?_ _ | refine blk_drew ?_ | refine blk_alloc ?_ _)); refine blk_put (cs := #[.int .i64 t351, .int .i64 t352, .int .i64 t353, .int .i64 t354, .int .i64 t355, .int .i64 t356, .int .i64 t357, .int .i64 t366, .int .i64 t359, .int .i64 t360, .int .i64 t361, .int .i64 t362, .int .i64 t363]) ?_ 8 _ rfl; (with_reducible repeat (first | refine blk_drewN ?_ _ | refine blk_drew ?_ | refine blk_alloc ?_ _)); refine blk_put (cs := #[.int .i64 t351, .int .i64 t352, .int .i64 t353, .int .i64 t354, .int .i64 t355, .int .i64 t356, .int .i64 t357, .int .i64 t358, .int .i64 t359, .int .i64 t360, .int .i64 t361, .int .i64 t362, .int .i64 t363]) ?_ 7 _ rfl; (with_reducible repeat (first | refine blk_drewN ?_ _ | refine blk_drew ?_ | refine blk_alloc ?_ _)); exact BK365.out⟩, ⟨hbp HB.out⟩⟩
  case round =>
   clear H'
   try clear c1
   try clear c2
   try clear p2
   try clear c3
   try clear c4
   try clear c5
   try clear c6
   try clear p6
   try clear c7
   try clear c8
   try clear c15
   try clear c16
   try clear c17
   try clear c37
   try clear c38
   try clear c39
   try clear c41
   try clear c42
   try clear hcz40_0
   try clear hcz40_1
   try clear hcz40_2
   try clear hcz40_3
   try clear hcz40_4
   try clear hcz40_5
   try clear hcz40_6
   try clear hcz40_7
   try clear hcz43_0
   try clear hcz43_1
   try clear hcz43_10
   try clear hcz43_11
   try clear hcz43_12
   try clear hcz43_2
   try clear hcz43_3
   try clear hcz43_4
   try clear hcz43_5
   try clear hcz43_6
   try clear hcz43_7
   try clear hcz43_8
   try clear hcz43_9
   try clear hcz45_0
   try clear hcz45_1
   try clear hcz45_10
   try clear hcz45_11
   try clear hcz45_12
   try clear hcz45_2
   try clear hcz45_3
   try clear hcz45_4
   try clear hcz45_5
   try clear hcz45_6
   try clear hcz45_7
   try clear hcz45_8
   try clear hcz45_9
   try clear hfz40_0
   try clear hfz40_1
   try clear hfz40_2
   try clear hfz40_3
   try clear hfz40_4
   try clear hfz40_5
   try clear hfz40_6
   try clear hfz40_7
   try clear hfz43_0
   try clear hfz43_1
   try clear hfz43_10
   try clear hfz43_11
   try clear hfz43_12
   try clear hfz43_2
   try clear hfz43_3
   try clear hfz43_4
   try clear hfz43_5
   try clear hfz43_6
   try clear hfz43_7
   try clear hfz43_8
   try clear hfz43_9
   try clear hfz45_0
   try clear hfz45_1
   try clear hfz45_10
   try clear hfz45_11
   try clear hfz45_12
   try clear hfz45_2
   try clear hfz45_3
   try clear hfz45_4
   try clear hfz45_5
   try clear hfz45_6
   try clear hfz45_7
   try clear hfz45_8
   try clear hfz45_9
   obtain ⟨x10_1, rfl, HA, HK1, BK341, BK342, BK364, BK365, HB⟩ := hrel
   cases gk with
   | zero => exact absurd HA.out (by simp [acmetop_TopBoltThread.l0])
   | succ k1 =>
    have H := HA.out
    clear HA
    simp only [acmetop_TopBoltThread.l0] at H
    by_cases c46 : (Int.tmod x10_1 2) = 0
    ·
     rw [if_pos c46] at H
     have c46b0 : ((Int.tmod x10_1 2) == 0) = true := beq_iff_eq.mpr c46
     have c46b1 : ((Int.tmod x10_1 2) != 0) = false := bne_eq_false_iff_eq.mpr c46
     clear c46
     (first | rw [c46b0] | (simp only [i64_w, i32_w]; rw [c46b0]) | skip)
     by_cases c47 : (Int.tmod (wrap64 ((wrap64 (t343 * t348)) * (wrap64 (Int.tdiv x10_1 2)))) 1000) = 0
     ·
      rw [if_pos c47] at H
      have c47b0 : ((Int.tmod (wrap64 ((wrap64 (t343 * t348)) * (wrap64 (Int.tdiv x10_1 2)))) 1000) == 0) = true := beq_iff_eq.mpr c47
      have c47b1 : ((Int.tmod (wrap64 ((wrap64 (t343 * t348)) * (wrap64 (Int.tdiv x10_1 2)))) 1000) != 0) = false := bne_eq_false_iff_eq.mpr c47
      clear c47
      have H' := Aside0.mk H
      clear H
      go_wp2
      go_roundg k1
      case measure => have := HK1.out; omega
      case rel => exact ⟨(wrap64 (Int.tdiv x10_1 2)), (by first | rfl | (simp; done) | (simp [*]; done)), H', ⟨by have := HK1.out; omega⟩, ⟨by (with_reducible repeat (first | refine blk_drewN ?_ _ | refine blk_drew ?_ | refine blk_alloc ?_ _)); exact BK341.out⟩, ⟨by (with_reducible repeat (first | refine blk_drewN ?_ _ | refine blk_drew ?_ | refine blk_alloc ?_ _)); exact BK342.out⟩, ⟨by (with_reducible repeat (first | refine blk_drewN ?_ _ | refine blk_drew ?_ | refine blk_alloc ?_ _)); exact BK364.out⟩, ⟨by (with_reducible repeat (first | refine blk_drewN ?_ _ | refine blk_drew ?_ | refine blk_alloc ?_ _)); exact BK365.out⟩, ⟨hbp HB.out⟩⟩
     ·
      rw [if_neg c47] at H
      have c47b0 : ((Int.tmod (wrap64 ((wrap64 (t343 * t348)) * (wrap64 (Int.tdiv x10_1 2)))) 1000) == 0) = false := beq_eq_false_iff_ne.mpr c47
      have c47b1 : ((Int.tmod (wrap64 ((wrap64 (t343 * t348)) * (wrap64 (Int.tdiv x10_1 2)))) 1000) != 0) = true := bne_iff_ne.mpr c47
      have H' := Aside0.mk H
      clear H
      go_wp2
      go_meet
      case rel => exact ⟨_, (x10_1), (by first | rfl | (simp; done) | (simp [*]; done)), H', ⟨by have := HK1.out; first | omega | exact Nat.le_refl _⟩, ⟨by (with_reducible repeat (first | refine blk_drewN ?_ _ | refine blk_drew ?_ | refine blk_alloc ?_ _)); exact BK341.out⟩, ⟨by (with_reducible repeat (first | refine blk_drewN ?_ _ | refine blk_drew ?_ | refine blk_alloc ?_ _)); exact BK342.out⟩, ⟨by (with_reducible repeat (first | refine blk_drewN ?_ _ | refine blk_drew ?_ | refine blk_alloc ?_ _)); exact BK364.out⟩, ⟨by (with_reducible repeat (first | refine blk_drewN ?_ _ | refine blk_drew ?_ | refine blk_alloc ?_ _)); exact BK365.out⟩, ⟨hbp HB.out⟩⟩
    ·
     rw [if_neg c46] at H
     have c46b0 : ((Int.tmod x10_1 2) == 0) = false := beq_eq_false_iff_ne.mpr c46
     have c46b1 : ((Int.tmod x10_1 2) != 0) = true := bne_iff_ne.mpr c46
     (first | rw [c46b0] | (simp only [i64_w, i32_w]; rw [c46b0]) | skip)
     have H' := Aside0.mk H
     clear H
     go_wp2
     go_meet
     case rel => exact ⟨_, (x10_1), (by first | rfl | (simp; done) | (simp [*]; done)), H', ⟨by have := HK1.out; first | omega | exact Nat.le_refl _⟩, ⟨by (with_reducible repeat (first | refine blk_drewN ?_ _ | refine blk_drew ?_ | refine blk_alloc ?_ _)); exact BK341.out⟩, ⟨by (with_reducible repeat (first | refine blk_drewN ?_ _ | refine blk_drew ?_ | refine blk_alloc ?_ _)); exact BK342.out⟩, ⟨by (with_reducible repeat (first | refine blk_drewN ?_ _ | refine blk_drew ?_ | refine blk_alloc ?_ _)); exact BK364.out⟩, ⟨by (with_reducible repeat (first | refine blk_drewN ?_ _ | refine blk_drew ?_ | refine blk_alloc ?_ _)); exact BK365.out⟩, ⟨hbp HB.out⟩⟩
 case rest =>
  clear HC7
  try clear c1
  try clear c2
  try clear p2
  try clear c3
  try clear c4
  try clear c5
  try clear c6
  try clear p6
  try clear c7
  try clear c8
  try clear c15
  try clear c16
  try clear c17
  try clear c37
  try clear c38
  try clear c39
  try clear c41
  try clear c42
  try clear c46
  try clear c46b0
  try clear c46b1
  try clear c47
  try clear c47b0
  try clear c47b1
  try clear hcz40_0
  try clear hcz40_1
  try clear hcz40_2
  try clear hcz40_3
  try clear hcz40_4
  try clear hcz40_5
  try clear hcz40_6
  try clear hcz40_7
  try clear hcz43_0
  try clear hcz43_1
  try clear hcz43_10
  try clear hcz43_11
  try clear hcz43_12
  try clear hcz43_2
  try clear hcz43_3
  try clear hcz43_4
  try clear hcz43_5
  try clear hcz43_6
  try clear hcz43_7
  try clear hcz43_8
  try clear hcz43_9
  try clear hcz45_0
  try clear hcz45_1
  try clear hcz45_10
  try clear hcz45_11
  try clear hcz45_12
  try clear hcz45_2
  try clear hcz45_3
  try clear hcz45_4
  try clear hcz45_5
  try clear hcz45_6
  try clear hcz45_7
  try clear hcz45_8
  try clear hcz45_9
  try clear hfz40_0
  try clear hfz40_1
  try clear hfz40_2
  try clear hfz40_3
  try clear hfz40_4
  try clear hfz40_5
  try clear hfz40_6
  try clear hfz40_7
  try clear hfz43_0
  try clear hfz43_1
  try clear hfz43_10
  try clear hfz43_11
  try clear hfz43_12
  try clear hfz43_2
  try clear hfz43_3
  try clear hfz43_4
  try clear hfz43_5
  try clear hfz43_6
  try clear hfz43_7
  try clear hfz43_8
  try clear hfz43_9
  try clear hfz45_0
  try clear hfz45_1
  try clear hfz45_10
  try clear hfz45_11
  try clear hfz45_12
  try clear hfz45_2
  try clear hfz45_3
  try clear hfz45_4
  try clear hfz45_5
  try clear hfz45_6
  try clear hfz45_7
  try clear hfz45_8
  try clear hfz45_9
  try clear p2
  try clear p6
  obtain ⟨kq, x10_6, rfl, HA, HJ6, BK341, BK342, BK364, BK365, HB⟩ := hcut
  cases kq with
  | zero => exact absurd HA.out (by simp [acmetop_TopBoltThread.j1])
  | succ kj6 =>
   have H := HA.out
   clear HA
   simp only [acmetop_TopBoltThread.j1] at H
   have HC48 := Aside0.mk H
   clear H
   go_upto_block 2 with (fail)
   go_cut [10] (fun v10 wc => ∃ (kq : Nat) (x10_47 : Int), v10 = .int .i64 x10_47 ∧ Aside0 (acmetop_TopBoltThread.j3 kq a2 (wrap64 (t343 * t348)) x10_47 t343 t344 t345 t346 t347 t348 t349 t350 t351 t352 t353 t354 t355 t356 t357 t366 t367 t360 t361 t362 t363 = some r) ∧ Aside0 (kq ≤ kj6) ∧ Aside0 (wc.heap[gb341]? = some (.cells #[.int .u8 a0_0, .int .u8 a0_1, .int .u8 a0_2, .int .u8 a0_3, .int .u8 a0_4, .int .u8 a0_5, .int .u8 a0_6, .int .u8 a0_7, .int .u8 a0_8] 26 (0, 0))) ∧ Aside0 (wc.heap[gb342]? = some (.cells #[.int .u16 a1_0, .int .u16 a1_1, .int .u16 a1_2, .int .i8 a1_3, .int .i8 a1_4] 31 (0, 0))) ∧ Aside0 (wc.heap[gb364]? = some (.cells #[.int .i64 t343, .int .i64 t344, .int .i64 t345, .int .i64 t346, .int .i64 t347, .int .i64 t348, .bool t349, .int .i64 t350] 33 (0, 0))) ∧ Aside0 (wc.heap[gb365]? = some (.cells #[.int .i64 t351, .int .i64 t352, .int .i64 t353, .int .i64 t354, .int .i64 t355, .int .i64 t356, .int .i64 t357, .int .i64 t366, .int .i64 t367, .int .i64 t360, .int .i64 t361, .int .i64 t362, .int .i64 t363] 38 (0, 0))) ∧ Aside0 (Below w.heap.size w wc))
   case first =>
    have H := HC48.out
    clear HC48
    have H' := Aside0.mk H
    clear H
    go_wp2
    go_loopg [10] kj6 (fun kq v10 w' => ∃ (x10_2 : Int), v10 = .int .i64 x10_2 ∧ Aside0 (acmetop_TopBoltThread.l1 kq a2 (wrap64 (t343 * t348)) x10_2 t343 t344 t345 t346 t347 t348 t349 t350 t351 t352 t353 t354 t355 t356 t357 t366 t367 t360 t361 t362 t363 = some r) ∧ Aside0 (kq ≤ kj6) ∧ Aside0 (w'.heap[gb341]? = some (.cells #[.int .u8 a0_0, .int .u8 a0_1, .int .u8 a0_2, .int .u8 a0_3, .int .u8 a0_4, .int .u8 a0_5, .int .u8 a0_6, .int .u8 a0_7, .int .u8 a0_8] 26 (0, 0))) ∧ Aside0 (w'.heap[gb342]? = some (.cells #[.int .u16 a1_0, .int .u16 a1_1, .int .u16 a1_2, .int .i8 a1_3, .int .i8 a1_4] 31 (0, 0))) ∧ Aside0 (w'.heap[gb364]? = some (.cells #[.int .i64 t343, .int .i64 t344, .int .i64 t345, .int .i64 t346, .int .i64 t347, .int .i64 t348, .bool t349, .int .i64 t350] 33 (0, 0))) ∧ Aside0 (w'.heap[gb365]? = some (.cells #[.int .i64 t351, .int .i64 t352, .int .i64 t353, .int .i64 t354, .int .i64 t355, .int .i64 t356, .int .i64 t357, .int .i64 t366, .int .i64 t367, .int .i64 t360, .int .i64 t361, .int .i64 t362, .int .i64 t363] 38 (0, 0))) ∧ Aside0 (Below w.heap.size w w'))
    case atStart => exact ⟨(x10_6), (by first | rfl | (simp; done) | (simp [*]; done)), H', ⟨Nat.le_refl _⟩, ⟨by (with_reducible repeat (first | refine blk_drewN ?_ _ | refine blk_drew ?_ | refine blk_alloc ?_ _)); exact BK341.out⟩, ⟨by (with_reducible repeat (first | refine blk_drewN ?_ _ | refine blk_drew ?_ | refine blk_alloc ?_ _)); exact BK342.out⟩, ⟨by (with_reducible repeat (first | refine blk_drewN ?_ _ | refine blk_drew ?_ | refine blk_alloc ?_ _)); exact BK364.out⟩, ⟨by (with_reducible repeat (first | refine blk_drewN ?_ _ | refine blk_drew ?_ | refine blk_alloc ?_ _)); exact BK365.out⟩, ⟨hbp HB.out⟩⟩
    case round =>
     clear H'
     try clear c1
     try clear c2
     try clear p2
     try clear c3
     try clear c4
     try clear c5
     try clear c6
     try clear p6
     try clear c7
     try clear c8
     try clear c15
     try clear c16
     try clear c17
     try clear c37
     try clear c38
     try clear c39
     try clear c41
     try clear c42
     try clear c46
     try clear c46b0
     try clear c46b1
     try clear c47
     try clear c47b0
     try clear c47b1
     try clear hcz40_0
     try clear hcz40_1
     try clear hcz40_2
     try clear hcz40_3
     try clear hcz40_4
     try clear hcz40_5
     try clear hcz40_6
     try clear hcz40_7
     try clear hcz43_0
     try clear hcz43_1
     try clear hcz43_10
     try clear hcz43_11
     try clear hcz43_12
     try clear hcz43_2
     try clear hcz43_3
     try clear hcz43_4
     try clear hcz43_5
     try clear hcz43_6
     try clear hcz43_7
     try clear hcz43_8
     try clear hcz43_9
     try clear hcz45_0
     try clear hcz45_1
     try clear hcz45_10
     try clear hcz45_11
     try clear hcz45_12
     try clear hcz45_2
     try clear hcz45_3
     try clear hcz45_4
     try clear hcz45_5
     try clear hcz45_6
     try clear hcz45_7
     try clear hcz45_8
     try clear hcz45_9
     try clear hfz40_0
     try clear hfz40_1
     try clear hfz40_2
     try clear hfz40_3
     try clear hfz40_4
     try clear hfz40_5
     try clear hfz40_6
     try clear hfz40_7
     try clear hfz43_0
     try clear hfz43_1
     try clear hfz43_10
     try clear hfz43_11
     try clear hfz43_12
     try clear hfz43_2
     try clear hfz43_3
     try clear hfz43_4
     try clear hfz43_5
     try clear hfz43_6
     try clear hfz43_7
     try clear hfz43_8
     try clear hfz43_9
     try clear hfz45_0
     try clear hfz45_1
     try clear hfz45_10
     try clear hfz45_11
     try clear hfz45_12
     try clear hfz45_2
     try clear hfz45_3
     try clear hfz45_4
     try clear hfz45_5
     try clear hfz45_6
     try clear hfz45_7
     try clear hfz45_8
     try clear hfz45_9
     try clear p2
     try clear p6
     obtain ⟨x10_2, rfl, HA, HK2, BK341, BK342, BK364, BK365, HB⟩ := hrel
     cases gk with
     | zero => exact absurd HA.out (by simp [acmetop_TopBoltThread.l1])
     | succ k2 =>
      have H := HA.out
      clear HA
      simp only [acmetop_TopBoltThread.l1] at H
      by_cases c49 : (Int.tmod x10_2 5) = 0
      ·
       rw [if_pos c49] at H
       have c49b0 : ((Int.tmod x10_2 5) == 0) = true := beq_iff_eq.mpr c49
       have c49b1 : ((Int.tmod x10_2 5) != 0) = false := bne_eq_false_iff_eq.mpr c49
       clear c49
       (first | rw [c49b0] | (simp only [i64_w, i32_w]; rw [c49b0]) | skip)
       by_cases c50 : (Int.tmod (wrap64 ((wrap64 (t343 * t348)) * (wrap64 (Int.tdiv x10_2 5)))) 1000) = 0
       ·
        rw [if_pos c50] at H
        have c50b0 : ((Int.tmod (wrap64 ((wrap64 (t343 * t348)) * (wrap64 (Int.tdiv x10_2 5)))) 1000) == 0) = true := beq_iff_eq.mpr c50
        have c50b1 : ((Int.tmod (wrap64 ((wrap64 (t343 * t348)) * (wrap64 (Int.tdiv x10_2 5)))) 1000) != 0) = false := bne_eq_false_iff_eq.mpr c50
        clear c50
        have H' := Aside0.mk H
        clear H
        go_wp2
        go_roundg k2
        case measure => have := HJ6.out; have := HK2.out; omega
        case rel => exact ⟨(wrap64 (Int.tdiv x10_2 5)), (by first | rfl | (simp; done) | (simp [*]; done)), H', ⟨by have := HJ6.out; have := HK2.out; omega⟩, ⟨by (with_reducible repeat (first | refine blk_drewN ?_ _ | refine blk_drew ?_ | refine blk_alloc ?_ _)); exact BK341.out⟩, ⟨by (with_reducible repeat (first | refine blk_drewN ?_ _ | refine blk_drew ?_ | refine blk_alloc ?_ _)); exact BK342.out⟩, ⟨by (with_reducible repeat (first | refine blk_drewN ?_ _ | refine blk_drew ?_ | refine blk_alloc ?_ _)); exact BK364.out⟩, ⟨by (with_reducible repeat (first | refine blk_drewN ?_ _ | refine blk_drew ?_ | refine blk_alloc ?_ _)); exact BK365.out⟩, ⟨hbp HB.out⟩⟩
       ·
        rw [if_neg c50] at H
        have c50b0 : ((Int.tmod (wrap64 ((wrap64 (t343 * t348)) * (wrap64 (Int.tdiv x10_2 5)))) 1000) == 0) = false := beq_eq_false_iff_ne.mpr c50
        have c50b1 : ((Int.tmod (wrap64 ((wrap64 (t343 * t348)) * (wrap64 (Int.tdiv x10_2 5)))) 1000) != 0) = true := bne_iff_ne.mpr c50
        have H' := Aside0.mk H
        clear H
        go_wp2
        go_meet
        case rel => exact ⟨_, (x10_2), (by first | rfl | (simp; done) | (simp [*]; done)), H', ⟨by have := HJ6.out; have := HK2.out; first | omega | exact Nat.le_refl _⟩, ⟨by (with_reducible repeat (first | refine blk_drewN ?_ _ | refine blk_drew ?_ | refine blk_alloc ?_ _)); exact BK341.out⟩, ⟨by (with_reducible repeat (first | refine blk_drewN ?_ _ | refine blk_drew ?_ | refine blk_alloc ?_ _)); exact BK342.out⟩, ⟨by (with_reducible repeat (first | refine blk_drewN ?_ _ | refine blk_drew ?_ | refine blk_alloc ?_ _)); exact BK364.out⟩, ⟨by (with_reducible repeat (first | refine blk_drewN ?_ _ | refine blk_drew ?_ | refine blk_alloc ?_ _)); exact BK365.out⟩, ⟨hbp HB.out⟩⟩
      ·
       rw [if_neg c49] at H
       have c49b0 : ((Int.tmod x10_2 5) == 0) = false := beq_eq_false_iff_ne.mpr c49
       have c49b1 : ((Int.tmod x10_2 5) != 0) = true := bne_iff_ne.mpr c49
       (first | rw [c49b0] | (simp only [i64_w, i32_w]; rw [c49b0]) | skip)
       have H' := Aside0.mk H
       clear H
       go_wp2
       go_meet
       case rel => exact ⟨_, (x10_2), (by first | rfl | (simp; done) | (simp [*]; done)), H', ⟨by have := HJ6.out; have := HK2.out; first | omega | exact Nat.le_refl _⟩, ⟨by (with_reducible repeat (first | refine blk_drewN ?_ _ | refine blk_drew ?_ | refine blk_alloc ?_ _)); exact BK341.out⟩, ⟨by (with_reducible repeat (first | refine blk_drewN ?_ _ | refine blk_drew ?_ | refine blk_alloc ?_ _)); exact BK342.out⟩, ⟨by (with_reducible repeat (first | refine blk_drewN ?_ _ | refine blk_drew ?_ | refine blk_alloc ?_ _)); exact BK364.out⟩, ⟨by (with_reducible repeat (first | refine blk_drewN ?_ _ | refine blk_drew ?_ | refine blk_alloc ?_ _)); exact BK365.out⟩, ⟨hbp HB.out⟩⟩
   case rest =>
    clear HC48
    try clear c1
    try clear c2
    try clear p2
    try clear c3
    try clear c4
    try clear c5
    try clear c6
    try clear p6
    try clear c7
    try clear c8
    try clear c15
    try clear c16
    try clear c17
    try clear c37
    try clear c38
    try clear c39
    try clear c41
    try clear c42
    try clear c46
    try clear c46b0
    try clear c46b1
    try clear c47
    try clear c47b0
    try clear c47b1
    try clear c49
    try clear c49b0
    try clear c49b1
    try clear c50
    try clear c50b0
    try clear c50b1
    try clear hcz40_0
    try clear hcz40_1
    try clear hcz40_2
    try clear hcz40_3
    try clear hcz40_4
    try clear hcz40_5
    try clear hcz40_6
    try clear hcz40_7
    try clear hcz43_0
    try clear hcz43_1
    try clear hcz43_10
    try clear hcz43_11
    try clear hcz43_12
    try clear hcz43_2
    try clear hcz43_3
    try clear hcz43_4
    try clear hcz43_5
    try clear hcz43_6
    try clear hcz43_7
    try clear hcz43_8
    try clear hcz43_9
    try clear hcz45_0
    try clear hcz45_1
    try clear hcz45_10
    try clear hcz45_11
    try clear hcz45_12
    try clear hcz45_2
    try clear hcz45_3
    try clear hcz45_4
    try clear hcz45_5
    try clear hcz45_6
    try clear hcz45_7
    try clear hcz45_8
    try clear hcz45_9
    try clear hfz40_0
    try clear hfz40_1
    try clear hfz40_2
    try clear hfz40_3
    try clear hfz40_4
    try clear hfz40_5
    try clear hfz40_6
    try clear hfz40_7
    try clear hfz43_0
    try clear hfz43_1
    try clear hfz43_10
    try clear hfz43_11
    try clear hfz43_12
    try clear hfz43_2
    try clear hfz43_3
    try clear hfz43_4
    try clear hfz43_5
    try clear hfz43_6
    try clear hfz43_7
    try clear hfz43_8
    try clear hfz43_9
    try clear hfz45_0
    try clear hfz45_1
    try clear hfz45_10
    try clear hfz45_11
    try clear hfz45_12
    try clear hfz45_2
    try clear hfz45_3
    try clear hfz45_4
    try clear hfz45_5
    try clear hfz45_6
    try clear hfz45_7
    try clear hfz45_8
    try clear hfz45_9
    try clear p2
    try clear p6
    obtain ⟨kq, x10_47, rfl, HA, HJ47, BK341, BK342, BK364, BK365, HB⟩ := hcut
    cases kq with
    | zero => exact absurd HA.out (by simp [acmetop_TopBoltThread.j3])
    | succ kj47 =>
     have H := HA.out
     clear HA
     simp only [acmetop_TopBoltThread.j3] at H
     by_cases c51 : x10_47 = 0
     ·
      rw [if_pos c51] at H
      exact absurd H (by simp)
     ·
      rw [if_neg c51] at H
      have c51b0 : (x10_47 == 0) = false := beq_eq_false_iff_ne.mpr c51
      have c51b1 : (x10_47 != 0) = true := bne_iff_ne.mpr c51
      by_cases c52 : (wrap64 ((wrap64 (Int.tdiv (2000 : Int) x10_47)) + 1)) = 0
      ·
       rw [if_pos c52] at H
       exact absurd H (by simp)
      ·
       rw [if_neg c52] at H
       have c52b0 : ((wrap64 ((wrap64 (Int.tdiv (2000 : Int) x10_47)) + 1)) == 0) = false := beq_eq_false_iff_ne.mpr c52
       have c52b1 : ((wrap64 ((wrap64 (Int.tdiv (2000 : Int) x10_47)) + 1)) != 0) = true := bne_iff_ne.mpr c52
       replace H := Option.bind_eq_some_iff.mp H
       obtain ⟨⟨t368, t369, t370⟩, A530, H⟩ := H
       replace H : (if t370 = 0 then (if t369 = 1 then (if t368 = (wrap64 (Int.tdiv (wrap64 ((wrap64 (t343 * t348)) * (wrap64 (x10_47 * (Int.tmod (wrap64 (a2)) (wrap64 ((wrap64 (Int.tdiv (2000 : Int) x10_47)) + 1))))))) 1000)) then (if t368 > 100000 then (acmetop_TopBoltThread.j4 kj47 (wrap64 (t343 * t348)) (wrap64 (x10_47 * (Int.tmod (wrap64 (a2)) (wrap64 ((wrap64 (Int.tdiv (2000 : Int) x10_47)) + 1))))) t370 true t351 t352 t353 t354 t355 t356 t357 t366 t367 t360 t361 t362 t363 t368 t369) else (acmetop_TopBoltThread.j4 kj47 (wrap64 (t343 * t348)) (wrap64 (x10_47 * (Int.tmod (wrap64 (a2)) (wrap64 ((wrap64 (Int.tdiv (2000 : Int) x10_47)) + 1))))) t370 (decide (t367 > 100000000)) t351 t352 t353 t354 t355 t356 t357 t366 t367 t360 t361 t362 t363 t368 t369)) else (acmetop_TopBoltThread.j4 kj47 (wrap64 (t343 * t348)) (wrap64 (x10_47 * (Int.tmod (wrap64 (a2)) (wrap64 ((wrap64 (Int.tdiv (2000 : Int) x10_47)) + 1))))) t370 true t351 t352 t353 t354 t355 t356 t357 t366 t367 t360 t361 t362 t363 t368 t369)) else (acmetop_TopBoltThread.j4 kj47 (wrap64 (t343 * t348)) (wrap64 (x10_47 * (Int.tmod (wrap64 (a2)) (wrap64 ((wrap64 (Int.tdiv (2000 : Int) x10_47)) + 1))))) t370 true t351 t352 t353 t354 t355 t356 t357 t366 t367 t360 t361 t362 t363 t368 t369)) else (acmetop_TopBoltThread.j4 kj47 (wrap64 (t343 * t348)) (wrap64 (x10_47 * (Int.tmod (wrap64 (a2)) (wrap64 ((wrap64 (Int.tdiv (2000 : Int) x10_47)) + 1))))) t370 true t351 t352 t353 t354 t355 t356 t357 t366 t367 t360 t361 t362 t363 t368 t369)) = some r := H
       have A53 := Aside0.mk A530
       clear A530
       have HC54 := Aside0.mk H
       clear H
       have hnb55 := NB364_341.out
       have hnc55 := NB341_364.out
       have hnb56 := NB364_342.out
       have hnc56 := NB342_364.out
       have hnb57 := NB364_365.out
       have hnc57 := NB365_364.out
       have hcz58_0 : wc.cell? ⟨gb364, 0, none⟩ = some (.int .i64 t343) := (blk_cell BK364.out 0).trans rfl
       have hcz58_1 : wc.cell? ⟨gb364, 1, none⟩ = some (.int .i64 t344) := (blk_cell BK364.out 1).trans rfl
       have hcz58_2 : wc.cell? ⟨gb364, 2, none⟩ = some (.int .i64 t345) := (blk_cell BK364.out 2).trans rfl
       have hcz58_3 : wc.cell? ⟨gb364, 3, none⟩ = some (.int .i64 t346) := (blk_cell BK364.out 3).trans rfl
       have hcz58_4 : wc.cell? ⟨gb364, 4, none⟩ = some (.int .i64 t347) := (blk_cell BK364.out 4).trans rfl
       have hcz58_5 : wc.cell? ⟨gb364, 5, none⟩ = some (.int .i64 t348) := (blk_cell BK364.out 5).trans rfl
       have hcz58_6 : wc.cell? ⟨gb364, 6, none⟩ = some (.bool t349) := (blk_cell BK364.out 6).trans rfl
       have hcz58_7 : wc.cell? ⟨gb364, 7, none⟩ = some (.int .i64 t350) := (blk_cell BK364.out 7).trans rfl
       have hfz58_0 := blk_frozen BK364.out 0
       have hfz58_1 := blk_frozen BK364.out 1
       have hfz58_2 := blk_frozen BK364.out 2
       have hfz58_3 := blk_frozen BK364.out 3
       have hfz58_4 := blk_frozen BK364.out 4
       have hfz58_5 := blk_frozen BK364.out 5
       have hfz58_6 := blk_frozen BK364.out 6
       have hfz58_7 := blk_frozen BK364.out 7
       go_upto_region 11 with (first | ((with_reducible refine gate_callee (f := 18) rfl ?_); refine goesL_ (some 77) rfl rfl Try.func18 (by kernel_rfl) rfl #[.agg #[.int .i64 t343, .int .i64 t344, .int .i64 t345, .int .i64 t346, .int .i64 t347, .int .i64 t348, .bool t349, .int .i64 t350], .int .i64 (wrap64 (1000 * (wrap64 (x10_47 * (Int.tmod (wrap64 (a2)) (wrap64 ((wrap64 (Int.tdiv (2000 : Int) x10_47)) + 1)))))))] rfl (by (try simp only [List.map_toArray, List.map_cons, List.map_nil]); first | done | rfl | (simp only [List.length_drop, List.length_take]; rfl)) ?_; (with_reducible refine (thread_Advance.calls kj47 t343 t344 t345 t346 t347 t348 t349 t350 (wrap64 (1000 * (wrap64 (x10_47 * (Int.tmod (wrap64 (a2)) (wrap64 ((wrap64 (Int.tdiv (2000 : Int) x10_47)) + 1))))))) t368 t369 t370 _ A53.out).mono ?_); rintro e w59 ⟨rfl, hb⟩; refine ⟨_, rfl, ?_⟩; have n0_ := Aside0.mk (blk_below (pl BK341.out) hb); have n1_ := Aside0.mk (blk_below (pl BK342.out) hb); have n2_ := Aside0.mk (blk_below (pl BK364.out) hb); have n3_ := Aside0.mk (blk_below (pl BK365.out) hb); have n4_ := Aside0.mk (below_step (hbp HB.out) hb); clear BK341; clear BK342; clear BK364; clear BK365; clear HB; have BK341 := n0_; have BK342 := n1_; have BK364 := n2_; have BK365 := n3_; have HB := n4_; clear n0_ n1_ n2_ n3_ n4_; (try clear hb); (try clear hb2); (try clear hk); (try clear hi)) | ((with_reducible refine gate_dst (N := 12) rfl ?_); refine box_event ?hg (N := 12) ?hd (cs := #[.int .i64 0, .int .i64 0]) (t := 42) ?hr ?_; (case hd => rfl); (case hg => rfl); (case hr => first | (go_simp; done) | (go_simp; rfl)); intro gb371 hg w60 hbox hb; have n0_ := Aside0.mk (blk_below (pl BK341.out) hb); have n1_ := Aside0.mk (blk_below (pl BK342.out) hb); have n2_ := Aside0.mk (blk_below (pl BK364.out) hb); have n3_ := Aside0.mk (blk_below (pl BK365.out) hb); have n4_ := Aside0.mk (below_step (hbp HB.out) hb); have n5_ := Aside0.mk (hbox); have n6_ := Aside0.mk (geB hg (hbp HB.out)); have n7_ := Aside0.mk (geB hg (hbp HB.out)); have n8_ := Aside0.mk (ltB hg (pl BK341.out)); have n9_ := Aside0.mk (gtB hg (pl BK341.out)); have n10_ := Aside0.mk (ltB hg (pl BK342.out)); have n11_ := Aside0.mk (gtB hg (pl BK342.out)); have n12_ := Aside0.mk (ltB hg (pl BK364.out)); have n13_ := Aside0.mk (gtB hg (pl BK364.out)); have n14_ := Aside0.mk (ltB hg (pl BK365.out)); have n15_ := Aside0.mk (gtB hg (pl BK365.out)); clear BK341; clear BK342; clear BK364; clear BK365; clear HB; have BK341 := n0_; have BK342 := n1_; have BK364 := n2_; have BK365 := n3_; have HB := n4_; have BK371 := n5_; have GW371 := n6_; have GE371 := n7_; have NB341_371 := n8_; have NB371_341 := n9_; have NB342_371 := n10_; have NB371_342 := n11_; have NB364_371 := n12_; have NB371_364 := n13_; have NB365_371 := n14_; have NB371_365 := n15_; clear n0_ n1_ n2_ n3_ n4_ n5_ n6_ n7_ n8_ n9_ n10_ n11_ n12_ n13_ n14_ n15_; clear hb hbox hg; have hnb61 := NB371_341.out; have hnc61 := NB341_371.out; have hnb62 := NB371_342.out; have hnc62 := NB342_371.out; have hnb63 := NB371_364.out; have hnc63 := NB364_371.out; have hnb64 := NB371_365.out; have hnc64 := NB365_371.out; have hcz65_0 : w60.cell? ⟨gb371, 0, none⟩ = some (.int .i64 0) := (blk_cell BK371.out 0).trans rfl; have hcz65_1 : w60.cell? ⟨gb371, 1, none⟩ = some (.int .i64 0) := (blk_cell BK371.out 1).trans rfl; have hfz65_0 := blk_frozen BK371.out 0; have hfz65_1 := blk_frozen BK371.out 1))
       (try simp only [Act.put, List.setIfInBounds_toArray, List.set_cons_zero, List.set_cons_succ])
       go_cut [106] (fun v106 wc => ∃ (kq : Nat) (x106_53 : Bool), v106 = .bool x106_53 ∧ Aside0 (acmetop_TopBoltThread.j4 kq (wrap64 (t343 * t348)) (wrap64 (x10_47 * (Int.tmod (wrap64 (a2)) (wrap64 ((wrap64 (Int.tdiv (2000 : Int) x10_47)) + 1))))) t370 x106_53 t351 t352 t353 t354 t355 t356 t357 t366 t367 t360 t361 t362 t363 t368 t369 = some r) ∧ Aside0 (kq ≤ kj47) ∧ Aside0 (wc.heap[gb341]? = some (.cells #[.int .u8 a0_0, .int .u8 a0_1, .int .u8 a0_2, .int .u8 a0_3, .int .u8 a0_4, .int .u8 a0_5, .int .u8 a0_6, .int .u8 a0_7, .int .u8 a0_8] 26 (0, 0))) ∧ Aside0 (wc.heap[gb342]? = some (.cells #[.int .u16 a1_0, .int .u16 a1_1, .int .u16 a1_2, .int .i8 a1_3, .int .i8 a1_4] 31 (0, 0))) ∧ Aside0 (wc.heap[gb364]? = some (.cells #[.int .i64 t343, .int .i64 t344, .int .i64 t345, .int .i64 t346, .int .i64 t347, .int .i64 t348, .bool t349, .int .i64 t350] 33 (0, 0))) ∧ Aside0 (wc.heap[gb365]? = some (.cells #[.int .i64 t351, .int .i64 t352, .int .i64 t353, .int .i64 t354, .int .i64 t355, .int .i64 t356, .int .i64 t357, .int .i64 t366, .int .i64 t367, .int .i64 t360, .int .i64 t361, .int .i64 t362, .int .i64 t363] 38 (0, 0))) ∧ Aside0 (wc.heap[gb371]? = some (.cells #[.int .i64 t368, .int .i64 t369] 42 (0, 0))) ∧ Aside0 (Below w.heap.size w wc))
       case first =>
        have H := HC54.out
        clear HC54
        by_cases c66 : t370 = 0
        ·
         rw [if_pos c66] at H
         have c66b0 : (t370 == 0) = true := beq_iff_eq.mpr c66
         have c66b1 : (t370 != 0) = false := bne_eq_false_iff_eq.mpr c66
         clear c66
         (first | rw [c66b0] | (simp only [i64_w, i32_w]; rw [c66b0]) | skip)
         by_cases c67 : t369 = 1
         ·
          rw [if_pos c67] at H
          have c67b0 : (t369 == 1) = true := beq_iff_eq.mpr c67
          have c67b1 : (t369 != 1) = false := bne_eq_false_iff_eq.mpr c67
          clear c67
          by_cases c68 : t368 = (wrap64 (Int.tdiv (wrap64 ((wrap64 (t343 * t348)) * (wrap64 (x10_47 * (Int.tmod (wrap64 (a2)) (wrap64 ((wrap64 (Int.tdiv (2000 : Int) x10_47)) + 1))))))) 1000))
          ·
           rw [if_pos c68] at H
           have c68b0 : (t368 == (wrap64 (Int.tdiv (wrap64 ((wrap64 (t343 * t348)) * (wrap64 (x10_47 * (Int.tmod (wrap64 (a2)) (wrap64 ((wrap64 (Int.tdiv (2000 : Int) x10_47)) + 1))))))) 1000))) = true := beq_iff_eq.mpr c68
           have c68b1 : (t368 != (wrap64 (Int.tdiv (wrap64 ((wrap64 (t343 * t348)) * (wrap64 (x10_47 * (Int.tmod (wrap64 (a2)) (wrap64 ((wrap64 (Int.tdiv (2000 : Int) x10_47)) + 1))))))) 1000))) = false := bne_eq_false_iff_eq.mpr c68
           clear c68
           by_cases c69 : t368 > 100000
           ·
            rw [if_pos c69] at H
            have c69b0 : decide (100000 < t368) = true := decide_eq_true c69
            clear c69
            have H' := Aside0.mk H
            clear H
            have hnb70 := NB371_341.out
            have hnc70 := NB341_371.out
            have hnb71 := NB371_342.out
            have hnc71 := NB342_371.out
            have hnb72 := NB371_364.out
            have hnc72 := NB364_371.out
            have hnb73 := NB371_365.out
            have hnc73 := NB365_371.out
            have hcz74_0 : w60.cell? ⟨gb371, 0, none⟩ = some (.int .i64 0) := (blk_cell BK371.out 0).trans rfl
            have hcz74_1 : w60.cell? ⟨gb371, 1, none⟩ = some (.int .i64 0) := (blk_cell BK371.out 1).trans rfl
            have hfz74_0 := blk_frozen BK371.out 0
            have hfz74_1 := blk_frozen BK371.out 1
            go_wp2
            go_meet
            case rel => exact ⟨_, (true), (by first | rfl | (simp; done) | (simp [*]; done)), H', ⟨by have := HJ6.out; have := HJ47.out; first | omega | exact Nat.le_refl _⟩, ⟨by (with_reducible repeat (first | refine blk_drewN ?_ _ | refine blk_drew ?_ | refine blk_alloc ?_ _)); refine blk_far ?_ NB341_371.out _; (with_reducible repeat (first | refine blk_drewN ?_ _ | refine blk_drew ?_ | refine blk_alloc ?_ _)); refine blk_far ?_ NB341_371.out _; (with_reducible repeat (first | refine blk_drewN ?_ _ | refine blk_drew ?_ | refine blk_alloc ?_ _)); exact BK341.out⟩, ⟨by (with_reducible repeat (first | refine blk_drewN ?_ _ | refine blk_drew ?_ | refine blk_alloc ?_ _)); refine blk_far ?_ NB342_371.out _; (with_reducible repeat (first | refine blk_drewN ?_ _ | refine blk_drew ?_ | refine blk_alloc ?_ _)); refine blk_far ?_ NB342_371.out _; (with_reducible repeat (first | refine blk_drewN ?_ _ | refine blk_drew ?_ | refine blk_alloc ?_ _)); exact BK342.out⟩, ⟨by (with_reducible repeat (first | refine blk_drewN ?_ _ | refine blk_drew ?_ | refine blk_alloc ?_ _)); refine blk_far ?_ NB364_371.out _; (with_reducible repeat (first | refine blk_drewN ?_ _ | refine blk_drew ?_ | refine blk_alloc ?_ _)); refine blk_far ?_ NB364_371.out _; (with_reducible repeat (first | refine blk_drewN ?_ _ | refine blk_drew ?_ | refine blk_alloc ?_ _)); exact BK364.out⟩, ⟨by (with_reducible repeat (first | refine blk_drewN ?_ _ | refine blk_drew ?_ | refine blk_alloc ?_ _)); refine blk_far ?_ NB365_371.out _; (with_reducible repeat (first | refine blk_drewN ?_ _ | refine blk_drew ?_ | refine blk_alloc ?_ _)); refine blk_far ?_ NB365_371.out _; (with_reducible repeat (first | refine blk_drewN ?_ _ | refine blk_drew ?_ | refine blk_alloc ?_ _)); exact BK365.out⟩, ⟨by (with_reducible repeat (first | refine blk_drewN ?_ _ | refine blk_drew ?_ | refine blk_alloc ?_ _)); refine blk_put (cs := #[.int .i64 t368, .int .i64 0]) ?_ 1 _ rfl; (with_reducible repeat (first | refine blk_drewN ?_ _ | refine blk_drew ?_ | refine blk_alloc ?_ _)); refine blk_put (cs := #[.int .i64 0, .int .i64 0]) ?_ 0 _ rfl; (with_reducible repeat (first | refine blk_drewN ?_ _ | refine blk_drew ?_ | refine blk_alloc ?_ _)); exact BK371.out⟩, ⟨hbp HB.out⟩⟩
           ·
            rw [if_neg c69] at H
            have c69b0 : decide (100000 < t368) = false := decide_eq_false c69
            clear c69
            have H' := Aside0.mk H
            clear H
            have hnb75 := NB371_341.out
            have hnc75 := NB341_371.out
            have hnb76 := NB371_342.out
            have hnc76 := NB342_371.out
            have hnb77 := NB371_364.out
            have hnc77 := NB364_371.out
            have hnb78 := NB371_365.out
            have hnc78 := NB365_371.out
            have hcz79_0 : w60.cell? ⟨gb371, 0, none⟩ = some (.int .i64 0) := (blk_cell BK371.out 0).trans rfl
            have hcz79_1 : w60.cell? ⟨gb371, 1, none⟩ = some (.int .i64 0) := (blk_cell BK371.out 1).trans rfl
            have hfz79_0 := blk_frozen BK371.out 0
            have hfz79_1 := blk_frozen BK371.out 1
            have hnb80 := NB365_341.out
            have hnc80 := NB341_365.out
            have hnb81 := NB365_342.out
            have hnc81 := NB342_365.out
            have hnb82 := NB365_364.out
            have hnc82 := NB364_365.out
            have hcz83_0 : w60.cell? ⟨gb365, 0, none⟩ = some (.int .i64 t351) := (blk_cell BK365.out 0).trans rfl
            have hcz83_1 : w60.cell? ⟨gb365, 1, none⟩ = some (.int .i64 t352) := (blk_cell BK365.out 1).trans rfl
            have hcz83_2 : w60.cell? ⟨gb365, 2, none⟩ = some (.int .i64 t353) := (blk_cell BK365.out 2).trans rfl
            have hcz83_3 : w60.cell? ⟨gb365, 3, none⟩ = some (.int .i64 t354) := (blk_cell BK365.out 3).trans rfl
            have hcz83_4 : w60.cell? ⟨gb365, 4, none⟩ = some (.int .i64 t355) := (blk_cell BK365.out 4).trans rfl
            have hcz83_5 : w60.cell? ⟨gb365, 5, none⟩ = some (.int .i64 t356) := (blk_cell BK365.out 5).trans rfl
            have hcz83_6 : w60.cell? ⟨gb365, 6, none⟩ = some (.int .i64 t357) := (blk_cell BK365.out 6).trans rfl
            have hcz83_7 : w60.cell? ⟨gb365, 7, none⟩ = some (.int .i64 t366) := (blk_cell BK365.out 7).trans rfl
            have hcz83_8 : w60.cell? ⟨gb365, 8, none⟩ = some (.int .i64 t367) := (blk_cell BK365.out 8).trans rfl
            have hcz83_9 : w60.cell? ⟨gb365, 9, none⟩ = some (.int .i64 t360) := (blk_cell BK365.out 9).trans rfl
            have hcz83_10 : w60.cell? ⟨gb365, 10, none⟩ = some (.int .i64 t361) := (blk_cell BK365.out 10).trans rfl
            have hcz83_11 : w60.cell? ⟨gb365, 11, none⟩ = some (.int .i64 t362) := (blk_cell BK365.out 11).trans rfl
            have hcz83_12 : w60.cell? ⟨gb365, 12, none⟩ = some (.int .i64 t363) := (blk_cell BK365.out 12).trans rfl
            have hfz83_0 := blk_frozen BK365.out 0
            have hfz83_1 := blk_frozen BK365.out 1
            have hfz83_2 := blk_frozen BK365.out 2
            have hfz83_3 := blk_frozen BK365.out 3
            have hfz83_4 := blk_frozen BK365.out 4
            have hfz83_5 := blk_frozen BK365.out 5
            have hfz83_6 := blk_frozen BK365.out 6
            have hfz83_7 := blk_frozen BK365.out 7
            have hfz83_8 := blk_frozen BK365.out 8
            have hfz83_9 := blk_frozen BK365.out 9
            have hfz83_10 := blk_frozen BK365.out 10
            have hfz83_11 := blk_frozen BK365.out 11
            have hfz83_12 := blk_frozen BK365.out 12
            go_wp2
            go_meet
            case rel => exact ⟨_, (decide (t367 > 100000000)), (by first | rfl | (simp; done) | (simp [*]; done)), H', ⟨by have := HJ6.out; have := HJ47.out; first | omega | exact Nat.le_refl _⟩, ⟨by (with_reducible repeat (first | refine blk_drewN ?_ _ | refine blk_drew ?_ | refine blk_alloc ?_ _)); refine blk_far ?_ NB341_371.out _; (with_reducible repeat (first | refine blk_drewN ?_ _ | refine blk_drew ?_ | refine blk_alloc ?_ _)); refine blk_far ?_ NB341_371.out _; (with_reducible repeat (first | refine blk_drewN ?_ _ | refine blk_drew ?_ | refine blk_alloc ?_ _)); exact BK341.out⟩, ⟨by (with_reducible repeat (first | refine blk_drewN ?_ _ | refine blk_drew ?_ | refine blk_alloc ?_ _)); refine blk_far ?_ NB342_371.out _; (with_reducible repeat (first | refine blk_drewN ?_ _ | refine blk_drew ?_ | refine blk_alloc ?_ _)); refine blk_far ?_ NB342_371.out _; (with_reducible repeat (first | refine blk_drewN ?_ _ | refine blk_drew ?_ | refine blk_alloc ?_ _)); exact BK342.out⟩, ⟨by (with_reducible repeat (first | refine blk_drewN ?_ _ | refine blk_drew ?_ | refine blk_alloc ?_ _)); refine blk_far ?_ NB364_371.out _; (with_reducible repeat (first | refine blk_drewN ?_ _ | refine blk_drew ?_ | refine blk_alloc ?_ _)); refine blk_far ?_ NB364_371.out _; (with_reducible repeat (first | refine blk_drewN ?_ _ | refine blk_drew ?_ | refine blk_alloc ?_ _)); exact BK364.out⟩, ⟨by (with_reducible repeat (first | refine blk_drewN ?_ _ | refine blk_drew ?_ | refine blk_alloc ?_ _)); refine blk_far ?_ NB365_371.out _; (with_reducible repeat (first | refine blk_drewN ?_ _ | refine blk_drew ?_ | refine blk_alloc ?_ _)); refine blk_far ?_ NB365_371.out _; (with_reducible repeat (first | refine blk_drewN ?_ _ | refine blk_drew ?_ | refine blk_alloc ?_ _)); exact BK365.out⟩, ⟨by (with_reducible repeat (first | refine blk_drewN ?_ _ | refine blk_drew ?_ | refine blk_alloc ?_ _)); refine blk_put (cs := #[.int .i64 t368, .int .i64 0]) ?_ 1 _ rfl; (with_reducible repeat (first | refine blk_drewN ?_ _ | refine blk_drew ?_ | refine blk_alloc ?_ _)); refine blk_put (cs := #[.int .i64 0, .int .i64 0]) ?_ 0 _ rfl; (with_reducible repeat (first | refine blk_drewN ?_ _ | refine blk_drew ?_ | refine blk_alloc ?_ _)); exact BK371.out⟩, ⟨hbp HB.out⟩⟩
          ·
           rw [if_neg c68] at H
           have c68b0 : (t368 == (wrap64 (Int.tdiv (wrap64 ((wrap64 (t343 * t348)) * (wrap64 (x10_47 * (Int.tmod (wrap64 (a2)) (wrap64 ((wrap64 (Int.tdiv (2000 : Int) x10_47)) + 1))))))) 1000))) = false := beq_eq_false_iff_ne.mpr c68
           have c68b1 : (t368 != (wrap64 (Int.tdiv (wrap64 ((wrap64 (t343 * t348)) * (wrap64 (x10_47 * (Int.tmod (wrap64 (a2)) (wrap64 ((wrap64 (Int.tdiv (2000 : Int) x10_47)) + 1))))))) 1000))) = true := bne_iff_ne.mpr c68
           have H' := Aside0.mk H
           clear H
           have hnb84 := NB371_341.out
           have hnc84 := NB341_371.out
           have hnb85 := NB371_342.out
           have hnc85 := NB342_371.out
           have hnb86 := NB371_364.out
           have hnc86 := NB364_371.out
           have hnb87 := NB371_365.out
           have hnc87 := NB365_371.out
           have hcz88_0 : w60.cell? ⟨gb371, 0, none⟩ = some (.int .i64 0) := (blk_cell BK371.out 0).trans rfl
           have hcz88_1 : w60.cell? ⟨gb371, 1, none⟩ = some (.int .i64 0) := (blk_cell BK371.out 1).trans rfl
           have hfz88_0 := blk_frozen BK371.out 0
           have hfz88_1 := blk_frozen BK371.out 1
           go_wp2
           go_meet
           case rel => exact ⟨_, (true), (by first | rfl | (simp; done) | (simp [*]; done)), H', ⟨by have := HJ6.out; have := HJ47.out; first | omega | exact Nat.le_refl _⟩, ⟨by (with_reducible repeat (first | refine blk_drewN ?_ _ | refine blk_drew ?_ | refine blk_alloc ?_ _)); refine blk_far ?_ NB341_371.out _; (with_reducible repeat (first | refine blk_drewN ?_ _ | refine blk_drew ?_ | refine blk_alloc ?_ _)); refine blk_far ?_ NB341_371.out _; (with_reducible repeat (first | refine blk_drewN ?_ _ | refine blk_drew ?_ | refine blk_alloc ?_ _)); exact BK341.out⟩, ⟨by (with_reducible repeat (first | refine blk_drewN ?_ _ | refine blk_drew ?_ | refine blk_alloc ?_ _)); refine blk_far ?_ NB342_371.out _; (with_reducible repeat (first | refine blk_drewN ?_ _ | refine blk_drew ?_ | refine blk_alloc ?_ _)); refine blk_far ?_ NB342_371.out _; (with_reducible repeat (first | refine blk_drewN ?_ _ | refine blk_drew ?_ | refine blk_alloc ?_ _)); exact BK342.out⟩, ⟨by (with_reducible repeat (first | refine blk_drewN ?_ _ | refine blk_drew ?_ | refine blk_alloc ?_ _)); refine blk_far ?_ NB364_371.out _; (with_reducible repeat (first | refine blk_drewN ?_ _ | refine blk_drew ?_ | refine blk_alloc ?_ _)); refine blk_far ?_ NB364_371.out _; (with_reducible repeat (first | refine blk_drewN ?_ _ | refine blk_drew ?_ | refine blk_alloc ?_ _)); exact BK364.out⟩, ⟨by (with_reducible repeat (first | refine blk_drewN ?_ _ | refine blk_drew ?_ | refine blk_alloc ?_ _)); refine blk_far ?_ NB365_371.out _; (with_reducible repeat (first | refine blk_drewN ?_ _ | refine blk_drew ?_ | refine blk_alloc ?_ _)); refine blk_far ?_ NB365_371.out _; (with_reducible repeat (first | refine blk_drewN ?_ _ | refine blk_drew ?_ | refine blk_alloc ?_ _)); exact BK365.out⟩, ⟨by (with_reducible repeat (first | refine blk_drewN ?_ _ | refine blk_drew ?_ | refine blk_alloc ?_ _)); refine blk_put (cs := #[.int .i64 t368, .int .i64 0]) ?_ 1 _ rfl; (with_reducible repeat (first | refine blk_drewN ?_ _ | refine blk_drew ?_ | refine blk_alloc ?_ _)); refine blk_put (cs := #[.int .i64 0, .int .i64 0]) ?_ 0 _ rfl; (with_reducible repeat (first | refine blk_drewN ?_ _ | refine blk_drew ?_ | refine blk_alloc ?_ _)); exact BK371.out⟩, ⟨hbp HB.out⟩⟩
         ·
          rw [if_neg c67] at H
          have c67b0 : (t369 == 1) = false := beq_eq_false_iff_ne.mpr c67
          have c67b1 : (t369 != 1) = true := bne_iff_ne.mpr c67
          have H' := Aside0.mk H
          clear H
          have hnb89 := NB371_341.out
          have hnc89 := NB341_371.out
          have hnb90 := NB371_342.out
          have hnc90 := NB342_371.out
          have hnb91 := NB371_364.out
          have hnc91 := NB364_371.out
          have hnb92 := NB371_365.out
          have hnc92 := NB365_371.out
          have hcz93_0 : w60.cell? ⟨gb371, 0, none⟩ = some (.int .i64 0) := (blk_cell BK371.out 0).trans rfl
          have hcz93_1 : w60.cell? ⟨gb371, 1, none⟩ = some (.int .i64 0) := (blk_cell BK371.out 1).trans rfl
          have hfz93_0 := blk_frozen BK371.out 0
          have hfz93_1 := blk_frozen BK371.out 1
          go_wp2
          go_meet
          case rel => exact ⟨_, (true), (by first | rfl | (simp; done) | (simp [*]; done)), H', ⟨by have := HJ6.out; have := HJ47.out; first | omega | exact Nat.le_refl _⟩, ⟨by (with_reducible repeat (first | refine blk_drewN ?_ _ | refine blk_drew ?_ | refine blk_alloc ?_ _)); refine blk_far ?_ NB341_371.out _; (with_reducible repeat (first | refine blk_drewN ?_ _ | refine blk_drew ?_ | refine blk_alloc ?_ _)); refine blk_far ?_ NB341_371.out _; (with_reducible repeat (first | refine blk_drewN ?_ _ | refine blk_drew ?_ | refine blk_alloc ?_ _)); exact BK341.out⟩, ⟨by (with_reducible repeat (first | refine blk_drewN ?_ _ | refine blk_drew ?_ | refine blk_alloc ?_ _)); refine blk_far ?_ NB342_371.out _; (with_reducible repeat (first | refine blk_drewN ?_ _ | refine blk_drew ?_ | refine blk_alloc ?_ _)); refine blk_far ?_ NB342_371.out _; (with_reducible repeat (first | refine blk_drewN ?_ _ | refine blk_drew ?_ | refine blk_alloc ?_ _)); exact BK342.out⟩, ⟨by (with_reducible repeat (first | refine blk_drewN ?_ _ | refine blk_drew ?_ | refine blk_alloc ?_ _)); refine blk_far ?_ NB364_371.out _; (with_reducible repeat (first | refine blk_drewN ?_ _ | refine blk_drew ?_ | refine blk_alloc ?_ _)); refine blk_far ?_ NB364_371.out _; (with_reducible repeat (first | refine blk_drewN ?_ _ | refine blk_drew ?_ | refine blk_alloc ?_ _)); exact BK364.out⟩, ⟨by (with_reducible repeat (first | refine blk_drewN ?_ _ | refine blk_drew ?_ | refine blk_alloc ?_ _)); refine blk_far ?_ NB365_371.out _; (with_reducible repeat (first | refine blk_drewN ?_ _ | refine blk_drew ?_ | refine blk_alloc ?_ _)); refine blk_far ?_ NB365_371.out _; (with_reducible repeat (first | refine blk_drewN ?_ _ | refine blk_drew ?_ | refine blk_alloc ?_ _)); exact BK365.out⟩, ⟨by (with_reducible repeat (first | refine blk_drewN ?_ _ | refine blk_drew ?_ | refine blk_alloc ?_ _)); refine blk_put (cs := #[.int .i64 t368, .int .i64 0]) ?_ 1 _ rfl; (with_reducible repeat (first | refine blk_drewN ?_ _ | refine blk_drew ?_ | refine blk_alloc ?_ _)); refine blk_put (cs := #[.int .i64 0, .int .i64 0]) ?_ 0 _ rfl; (with_reducible repeat (first | refine blk_drewN ?_ _ | refine blk_drew ?_ | refine blk_alloc ?_ _)); exact BK371.out⟩, ⟨hbp HB.out⟩⟩
        ·
         rw [if_neg c66] at H
         have c66b0 : (t370 == 0) = false := beq_eq_false_iff_ne.mpr c66
         have c66b1 : (t370 != 0) = true := bne_iff_ne.mpr c66
         (first | rw [c66b0] | (simp only [i64_w, i32_w]; rw [c66b0]) | skip)
         have H' := Aside0.mk H
         clear H
         go_wp2
         go_meet
         case rel => exact ⟨_, (true), (by first | rfl | (simp; done) | (simp [*]; done)), H', ⟨by have := HJ6.out; have := HJ47.out; first | omega | exact Nat.le_refl _⟩, ⟨by (with_reducible repeat (first | refine blk_drewN ?_ _ | refine blk_drew ?_ | refine blk_alloc ?_ _)); refine blk_far ?_ NB341_371.out _; (with_reducible repeat (first | refine blk_drewN ?_ _ | refine blk_drew ?_ | refine blk_alloc ?_ _)); refine blk_far ?_ NB341_371.out _; (with_reducible repeat (first | refine blk_drewN ?_ _ | refine blk_drew ?_ | refine blk_alloc ?_ _)); exact BK341.out⟩, ⟨by (with_reducible repeat (first | refine blk_drewN ?_ _ | refine blk_drew ?_ | refine blk_alloc ?_ _)); refine blk_far ?_ NB342_371.out _; (with_reducible repeat (first | refine blk_drewN ?_ _ | refine blk_drew ?_ | refine blk_alloc ?_ _)); refine blk_far ?_ NB342_371.out _; (with_reducible repeat (first | refine blk_drewN ?_ _ | refine blk_drew ?_ | refine blk_alloc ?_ _)); exact BK342.out⟩, ⟨by (with_reducible repeat (first | refine blk_drewN ?_ _ | refine blk_drew ?_ | refine blk_alloc ?_ _)); refine blk_far ?_ NB364_371.out _; (with_reducible repeat (first | refine blk_drewN ?_ _ | refine blk_drew ?_ | refine blk_alloc ?_ _)); refine blk_far ?_ NB364_371.out _; (with_reducible repeat (first | refine blk_drewN ?_ _ | refine blk_drew ?_ | refine blk_alloc ?_ _)); exact BK364.out⟩, ⟨by (with_reducible repeat (first | refine blk_drewN ?_ _ | refine blk_drew ?_ | refine blk_alloc ?_ _)); refine blk_far ?_ NB365_371.out _; (with_reducible repeat (first | refine blk_drewN ?_ _ | refine blk_drew ?_ | refine blk_alloc ?_ _)); refine blk_far ?_ NB365_371.out _; (with_reducible repeat (first | refine blk_drewN ?_ _ | refine blk_drew ?_ | refine blk_alloc ?_ _)); exact BK365.out⟩, ⟨by (with_reducible repeat (first | refine blk_drewN ?_ _ | refine blk_drew ?_ | refine blk_alloc ?_ _)); refine blk_put (cs := #[.int .i64 t368, .int .i64 0]) ?_ 1 _ rfl; (with_reducible repeat (first | refine blk_drewN ?_ _ | refine blk_drew ?_ | refine blk_alloc ?_ _)); refine blk_put (cs := #[.int .i64 0, .int .i64 0]) ?_ 0 _ rfl; (with_reducible repeat (first | refine blk_drewN ?_ _ | refine blk_drew ?_ | refine blk_alloc ?_ _)); exact BK371.out⟩, ⟨hbp HB.out⟩⟩
       case rest =>
        clear HC54
        try clear c1
        try clear c2
        try clear p2
        try clear c3
        try clear c4
        try clear c5
        try clear c6
        try clear p6
        try clear c7
        try clear c8
        try clear c9
        try clear c15
        try clear c16
        try clear c17
        try clear c18
        try clear c37
        try clear c38
        try clear c39
        try clear c41
        try clear c42
        try clear c46
        try clear c46b0
        try clear c46b1
        try clear c47
        try clear c47b0
        try clear c47b1
        try clear c49
        try clear c49b0
        try clear c49b1
        try clear c50
        try clear c50b0
        try clear c50b1
        try clear c51
        try clear c51b0
        try clear c51b1
        try clear c52
        try clear c52b0
        try clear c52b1
        try clear c55
        try clear c56
        try clear c57
        try clear c61
        try clear c62
        try clear c63
        try clear c64
        try clear p64
        try clear c66
        try clear c66b0
        try clear c66b1
        try clear c67
        try clear c67b0
        try clear c67b1
        try clear c68
        try clear c68b0
        try clear c68b1
        try clear c69
        try clear c69b0
        try clear c70
        try clear c71
        try clear c72
        try clear c73
        try clear c75
        try clear c76
        try clear c77
        try clear c78
        try clear c80
        try clear c81
        try clear c82
        try clear c84
        try clear c85
        try clear c86
        try clear c87
        try clear c89
        try clear c90
        try clear c91
        try clear c92
        try clear hcz40_0
        try clear hcz40_1
        try clear hcz40_2
        try clear hcz40_3
        try clear hcz40_4
        try clear hcz40_5
        try clear hcz40_6
        try clear hcz40_7
        try clear hcz43_0
        try clear hcz43_1
        try clear hcz43_10
        try clear hcz43_11
        try clear hcz43_12
        try clear hcz43_2
        try clear hcz43_3
        try clear hcz43_4
        try clear hcz43_5
        try clear hcz43_6
        try clear hcz43_7
        try clear hcz43_8
        try clear hcz43_9
        try clear hcz45_0
        try clear hcz45_1
        try clear hcz45_10
        try clear hcz45_11
        try clear hcz45_12
        try clear hcz45_2
        try clear hcz45_3
        try clear hcz45_4
        try clear hcz45_5
        try clear hcz45_6
        try clear hcz45_7
        try clear hcz45_8
        try clear hcz45_9
        try clear hcz58_0
        try clear hcz58_1
        try clear hcz58_2
        try clear hcz58_3
        try clear hcz58_4
        try clear hcz58_5
        try clear hcz58_6
        try clear hcz58_7
        try clear hcz65_0
        try clear hcz65_1
        try clear hcz74_0
        try clear hcz74_1
        try clear hcz79_0
        try clear hcz79_1
        try clear hcz83_0
        try clear hcz83_1
        try clear hcz83_10
        try clear hcz83_11
        try clear hcz83_12
        try clear hcz83_2
        try clear hcz83_3
        try clear hcz83_4
        try clear hcz83_5
        try clear hcz83_6
        try clear hcz83_7
        try clear hcz83_8
        try clear hcz83_9
        try clear hcz88_0
        try clear hcz88_1
        try clear hcz93_0
        try clear hcz93_1
        try clear hfz40_0
        try clear hfz40_1
        try clear hfz40_2
        try clear hfz40_3
        try clear hfz40_4
        try clear hfz40_5
        try clear hfz40_6
        try clear hfz40_7
        try clear hfz43_0
        try clear hfz43_1
        try clear hfz43_10
        try clear hfz43_11
        try clear hfz43_12
        try clear hfz43_2
        try clear hfz43_3
        try clear hfz43_4
        try clear hfz43_5
        try clear hfz43_6
        try clear hfz43_7
        try clear hfz43_8
        try clear hfz43_9
        try clear hfz45_0
        try clear hfz45_1
        try clear hfz45_10
        try clear hfz45_11
        try clear hfz45_12
        try clear hfz45_2
        try clear hfz45_3
        try clear hfz45_4
        try clear hfz45_5
        try clear hfz45_6
        try clear hfz45_7
        try clear hfz45_8
        try clear hfz45_9
        try clear hfz58_0
        try clear hfz58_1
        try clear hfz58_2
        try clear hfz58_3
        try clear hfz58_4
        try clear hfz58_5
        try clear hfz58_6
        try clear hfz58_7
        try clear hfz65_0
        try clear hfz65_1
        try clear hfz74_0
        try clear hfz74_1
        try clear hfz79_0
        try clear hfz79_1
        try clear hfz83_0
        try clear hfz83_1
        try clear hfz83_10
        try clear hfz83_11
        try clear hfz83_12
        try clear hfz83_2
        try clear hfz83_3
        try clear hfz83_4
        try clear hfz83_5
        try clear hfz83_6
        try clear hfz83_7
        try clear hfz83_8
        try clear hfz83_9
        try clear hfz88_0
        try clear hfz88_1
        try clear hfz93_0
        try clear hfz93_1
        try clear p2
        try clear p6
        obtain ⟨kq, x106_53, rfl, HA, HJ53, BK341, BK342, BK364, BK365, BK371, HB⟩ := hcut
        cases kq with
        | zero => exact absurd HA.out (by simp [acmetop_TopBoltThread.j4])
        | succ kj53 =>
         have H := HA.out
         clear HA
         simp only [acmetop_TopBoltThread.j4] at H
         by_cases c94 : x106_53 = true
         ·
          subst c94
          have H1 : (if t370 = 0 then (if t369 = 1 then (if t368 = (wrap64 (Int.tdiv (wrap64 ((wrap64 (t343 * t348)) * (wrap64 (x10_47 * (Int.tmod (wrap64 (a2)) (wrap64 ((wrap64 (Int.tdiv (2000 : Int) x10_47)) + 1))))))) 1000)) then ((acmetop_armThread.f kj53).bind fun t372 => (if t372 = true then ((acmetop_armBolt.f).bind fun t373 => (some t373)) else (none))) else (none)) else (none)) else (none)) = some r := by rw [if_pos rfl] at H; exact H
          clear H
          have H := H1
          clear H1
          by_cases c95 : t370 = 0
          ·
           rw [if_pos c95] at H
           have c95b0 : (t370 == 0) = true := beq_iff_eq.mpr c95
           have c95b1 : (t370 != 0) = false := bne_eq_false_iff_eq.mpr c95
           clear c95
           by_cases c96 : t369 = 1
           ·
            rw [if_pos c96] at H
            have c96b0 : (t369 == 1) = true := beq_iff_eq.mpr c96
            have c96b1 : (t369 != 1) = false := bne_eq_false_iff_eq.mpr c96
            clear c96
            by_cases c97 : t368 = (wrap64 (Int.tdiv (wrap64 ((wrap64 (t343 * t348)) * (wrap64 (x10_47 * (Int.tmod (wrap64 (a2)) (wrap64 ((wrap64 (Int.tdiv (2000 : Int) x10_47)) + 1))))))) 1000))
            ·
             rw [if_pos c97] at H
             have c97b0 : (t368 == (wrap64 (Int.tdiv (wrap64 ((wrap64 (t343 * t348)) * (wrap64 (x10_47 * (Int.tmod (wrap64 (a2)) (wrap64 ((wrap64 (Int.tdiv (2000 : Int) x10_47)) + 1))))))) 1000))) = true := beq_iff_eq.mpr c97
             have c97b1 : (t368 != (wrap64 (Int.tdiv (wrap64 ((wrap64 (t343 * t348)) * (wrap64 (x10_47 * (Int.tmod (wrap64 (a2)) (wrap64 ((wrap64 (Int.tdiv (2000 : Int) x10_47)) + 1))))))) 1000))) = false := bne_eq_false_iff_eq.mpr c97
             clear c97
             replace H := Option.bind_eq_some_iff.mp H
             obtain ⟨t372, A980, H⟩ := H
             replace H : (if t372 = true then ((acmetop_armBolt.f).bind fun t373 => (some t373)) else (none)) = some r := H
             have A98 := Aside0.mk A980
             clear A980
             by_cases c99 : t372 = true
             ·
              subst c99
              have H1 : ((acmetop_armBolt.f).bind fun t373 => (some t373)) = some r := by rw [if_pos rfl] at H; exact H
              clear H
              have H := H1
              clear H1
              replace H := Option.bind_eq_some_iff.mp H
              obtain ⟨t373, A1000, H⟩ := H
              replace H : (some t373) = some r := H
              have A100 := Aside0.mk A1000
              clear A1000
              obtain rfl := Option.some.inj H
              have hnb101 := NB371_341.out
              have hnc101 := NB341_371.out
              have hnb102 := NB371_342.out
              have hnc102 := NB342_371.out
              have hnb103 := NB371_364.out
              have hnc103 := NB364_371.out
              have hnb104 := NB371_365.out
              have hnc104 := NB365_371.out
              have hcz105_0 : wc.cell? ⟨gb371, 0, none⟩ = some (.int .i64 t368) := (blk_cell BK371.out 0).trans rfl
              have hcz105_1 : wc.cell? ⟨gb371, 1, none⟩ = some (.int .i64 t369) := (blk_cell BK371.out 1).trans rfl
              have hfz105_0 := blk_frozen BK371.out 0
              have hfz105_1 := blk_frozen BK371.out 1
              go_wp2_with (first | (go_at_call 19; (with_reducible refine (acmetop_armThread.calls kj53  true _ A98.out).mono ?_); rintro e w106 ⟨rfl, hb⟩; have n0_ := Aside0.mk (blk_below (pl BK341.out) hb); have n1_ := Aside0.mk (blk_below (pl BK342.out) hb); have n2_ := Aside0.mk (blk_below (pl BK364.out) hb); have n3_ := Aside0.mk (blk_below (pl BK365.out) hb); have n4_ := Aside0.mk (blk_below (pl BK371.out) hb); have n5_ := Aside0.mk (below_step (hbp HB.out) hb); clear BK341; clear BK342; clear BK364; clear BK365; clear BK371; clear HB; have BK341 := n0_; have BK342 := n1_; have BK364 := n2_; have BK365 := n3_; have BK371 := n4_; have HB := n5_; clear n0_ n1_ n2_ n3_ n4_ n5_; (try clear hb); (try clear hb2); (try clear hk); (try clear hi)) | (go_at_call 20; (with_reducible refine (acmetop_armBolt.calls  t373 _ A100.out).mono ?_); rintro e w107 ⟨rfl, hb⟩; have n0_ := Aside0.mk (blk_below (pl BK341.out) hb); have n1_ := Aside0.mk (blk_below (pl BK342.out) hb); have n2_ := Aside0.mk (blk_below (pl BK364.out) hb); have n3_ := Aside0.mk (blk_below (pl BK365.out) hb); have n4_ := Aside0.mk (blk_below (pl BK371.out) hb); have n5_ := Aside0.mk (below_step (hbp HB.out) hb); clear BK341; clear BK342; clear BK364; clear BK365; clear BK371; clear HB; have BK341 := n0_; have BK342 := n1_; have BK364 := n2_; have BK365 := n3_; have BK371 := n4_; have HB := n5_; clear n0_ n1_ n2_ n3_ n4_ n5_; (try clear hb); (try clear hb2); (try clear hk); (try clear hi)))
              go_ret
              exact ⟨by first | rfl | (simp [errW_none, errW_some] <;> rfl) | (simp [*, errW_none, errW_some] <;> rfl), by repeat (first | (with_reducible first | exact HB.out | apply below_alloc | apply pw_below_drewN | apply below_drew1 | refine below_set ?_ GE341.out | refine below_set ?_ GE342.out | refine below_set ?_ GE364.out | refine below_set ?_ GE365.out | refine below_set ?_ GE371.out) | exact HB.out)⟩
             ·
              replace c99 := Bool.eq_false_iff.mpr c99
              subst c99
              have H1 : (none) = some r := by rw [if_neg (show ¬ (false = true) by decide)] at H; exact H
              clear H
              have H := H1
              clear H1
              exact absurd H (by simp)
            ·
             rw [if_neg c97] at H
             exact absurd H (by simp)
           ·
            rw [if_neg c96] at H
            exact absurd H (by simp)
          ·
           rw [if_neg c95] at H
           exact absurd H (by simp)
         ·
          replace c94 := Bool.eq_false_iff.mpr c94
          subst c94
          have H1 : ((acmetop_armSpan.f (wrap64 (x10_47 * (Int.tmod (wrap64 (a2)) (wrap64 ((wrap64 (Int.tdiv (2000 : Int) x10_47)) + 1))))) (wrap64 (x10_47 * (Int.tmod (wrap64 (a2)) (wrap64 ((wrap64 (Int.tdiv (2000 : Int) x10_47)) + 1)))))).bind fun bt374 => ((bolt_Force.f t351 t352 t353 t354 t355 t356 t357 t366 t367 t360 t361 t362 t363 2 0 0 bt374.1 bt374.2 0 0).bind fun bt376 => ((acmetop_armSpan.f t368 t368).bind fun bt380 => ((bolt_Force.f t351 t352 t353 t354 t355 t356 t357 t366 t367 t360 t361 t362 t363 3 0 0 0 0 bt380.1 bt380.2).bind fun bt382 => (if bt376.2.2 = 0 then (if bt382.2.2 = 0 then (if (bt376.1 == bt382.1 && (bt376.2.1 == bt382.2.1)) = true then ((acmetop_armThread.f kj53).bind fun t386 => (if t386 = true then ((acmetop_armBolt.f).bind fun t387 => (some t387)) else (none))) else (none)) else (none)) else (none)))))) = some r := by rw [if_neg (show ¬ (false = true) by decide)] at H; exact H
          clear H
          have H := H1
          clear H1
          replace H := Option.bind_eq_some_iff.mp H
          obtain ⟨⟨t374, t375⟩, A1080, H⟩ := H
          replace H : ((bolt_Force.f t351 t352 t353 t354 t355 t356 t357 t366 t367 t360 t361 t362 t363 2 0 0 t374 t375 0 0).bind fun bt376 => ((acmetop_armSpan.f t368 t368).bind fun bt380 => ((bolt_Force.f t351 t352 t353 t354 t355 t356 t357 t366 t367 t360 t361 t362 t363 3 0 0 0 0 bt380.1 bt380.2).bind fun bt382 => (if bt376.2.2 = 0 then (if bt382.2.2 = 0 then (if (bt376.1 == bt382.1 && (bt376.2.1 == bt382.2.1)) = true then ((acmetop_armThread.f kj53).bind fun t386 => (if t386 = true then ((acmetop_armBolt.f).bind fun t387 => (some t387)) else (none))) else (none)) else (none)) else (none))))) = some r := H
          have A108 := Aside0.mk A1080
          clear A1080
          replace H := Option.bind_eq_some_iff.mp H
          obtain ⟨⟨t376, t377, t378⟩, A1090, H⟩ := H
          replace H : ((acmetop_armSpan.f t368 t368).bind fun bt380 => ((bolt_Force.f t351 t352 t353 t354 t355 t356 t357 t366 t367 t360 t361 t362 t363 3 0 0 0 0 bt380.1 bt380.2).bind fun bt382 => (if t378 = 0 then (if bt382.2.2 = 0 then (if (t376 == bt382.1 && (t377 == bt382.2.1)) = true then ((acmetop_armThread.f kj53).bind fun t386 => (if t386 = true then ((acmetop_armBolt.f).bind fun t387 => (some t387)) else (none))) else (none)) else (none)) else (none)))) = some r := H
          have A109 := Aside0.mk A1090
          clear A1090
          replace H := Option.bind_eq_some_iff.mp H
          obtain ⟨⟨t380, t381⟩, A1100, H⟩ := H
          replace H : ((bolt_Force.f t351 t352 t353 t354 t355 t356 t357 t366 t367 t360 t361 t362 t363 3 0 0 0 0 t380 t381).bind fun bt382 => (if t378 = 0 then (if bt382.2.2 = 0 then (if (t376 == bt382.1 && (t377 == bt382.2.1)) = true then ((acmetop_armThread.f kj53).bind fun t386 => (if t386 = true then ((acmetop_armBolt.f).bind fun t387 => (some t387)) else (none))) else (none)) else (none)) else (none))) = some r := H
          have A110 := Aside0.mk A1100
          clear A1100
          replace H := Option.bind_eq_some_iff.mp H
          obtain ⟨⟨t382, t383, t384⟩, A1110, H⟩ := H
          replace H : (if t378 = 0 then (if t384 = 0 then (if (t376 == t382 && (t377 == t383)) = true then ((acmetop_armThread.f kj53).bind fun t386 => (if t386 = true then ((acmetop_armBolt.f).bind fun t387 => (some t387)) else (none))) else (none)) else (none)) else (none)) = some r := H
          have A111 := Aside0.mk A1110
          clear A1110
          by_cases c112 : t378 = 0
          ·
           rw [if_pos c112] at H
           have c112b0 : (t378 == 0) = true := beq_iff_eq.mpr c112
           have c112b1 : (t378 != 0) = false := bne_eq_false_iff_eq.mpr c112
           clear c112
           by_cases c113 : t384 = 0
           ·
            rw [if_pos c113] at H
            have c113b0 : (t384 == 0) = true := beq_iff_eq.mpr c113
            have c113b1 : (t384 != 0) = false := bne_eq_false_iff_eq.mpr c113
            clear c113
            by_cases c114 : (t376 == t382 && (t377 == t383)) = true
            ·
             rw [if_pos c114] at H
             have c114b0 : (t376 == t382 && (t377 == t383)) = true := c114
             (try (have c114b1 : decide (t376 = t382 && (t377 == t383)) = true := by simpa using c114))
             (try (have c114b2 : (t376 == t382 && (t377 == t383)) = true := by simpa using c114))
             clear c114
             replace H := Option.bind_eq_some_iff.mp H
             obtain ⟨t386, A1150, H⟩ := H
             replace H : (if t386 = true then ((acmetop_armBolt.f).bind fun t387 => (some t387)) else (none)) = some r := H
             have A115 := Aside0.mk A1150
             clear A1150
             by_cases c116 : t386 = true
             ·
              subst c116
              have H1 : ((acmetop_armBolt.f).bind fun t387 => (some t387)) = some r := by rw [if_pos rfl] at H; exact H
              clear H
              have H := H1
              clear H1
              replace H := Option.bind_eq_some_iff.mp H
              obtain ⟨t387, A1170, H⟩ := H
              replace H : (some t387) = some r := H
              have A117 := Aside0.mk A1170
              clear A1170
              obtain rfl := Option.some.inj H
              try go_wp2
              have n0_ := Aside0.mk (blk_drew BK341.out)
              have n1_ := Aside0.mk (blk_drew BK342.out)
              have n2_ := Aside0.mk (blk_drew BK364.out)
              have n3_ := Aside0.mk (blk_drew BK365.out)
              have n4_ := Aside0.mk (blk_drew BK371.out)
              have n5_ := Aside0.mk (below_drew1 HB.out)
              clear BK341 BK342 BK364 BK365 BK371 HB; have BK341 := n0_; have BK342 := n1_; have BK364 := n2_; have BK365 := n3_; have BK371 := n4_; have HB := n5_; clear n0_ n1_ n2_ n3_ n4_ n5_
              refine start_ (n := 12) (S := fun w' => True) (ds := []) #[false, false, false, false, false, false, false, false, false, false, false, false] (by kernel_rfl) rfl rfl trivial (fun hHeld => ?_); refine with_tabW acmetop_TopBoltThread.tab13 acmetop_TopBoltThread.bits13 (fun HT_ HW_ => ?_)
              generalize wc.drew = w118 at BK341 BK342 BK364 BK365 BK371 HB hHeld ⊢
              refine pure_ (i := 1) (N := some 131) (v := ?_) (a' := ?_) #[false, true, false, false, false, false, false, false, false, false, false, false] rfl rfl (any_of HT_.out (by kernel_rfl)) (fun _ _ _ h => h) (Or.inl ⟨by rfl, ?_⟩) ?_ ?_
              rotate_left
              ·
               intro w'
               go_simp
               with_reducible rfl
              rotate_left
              ·
               simp only [Act.put, List.setIfInBounds_toArray, List.set_cons_zero, List.set_cons_succ, i64_w, i32_w]
               rfl
              refine pure_ (i := 2) (N := some 132) (v := ?_) (a' := ?_) #[false, true, true, false, false, false, false, false, false, false, false, false] rfl rfl (any_of HT_.out (by kernel_rfl)) (fun _ _ _ h => h) (Or.inl ⟨by rfl, ?_⟩) ?_ ?_
              rotate_left
              ·
               intro w'
               go_simp
               with_reducible rfl
              rotate_left
              ·
               simp only [Act.put, List.setIfInBounds_toArray, List.set_cons_zero, List.set_cons_succ, i64_w, i32_w]
               rfl
              refine inv_at [0, 3, 4, 5, 6, 7, 8, 9, 10, 11] (fun a0_ b a w' => ∃ (gb379 : Nat) (m9_ : Value), a = putSel a0_ b [(0, 130, .agg #[.int .i64 t351, .int .i64 t352, .int .i64 t353, .int .i64 t354, .int .i64 t355, .int .i64 t356, .int .i64 t357, .int .i64 t366, .int .i64 t367, .int .i64 t360, .int .i64 t361, .int .i64 t362, .int .i64 t363]), (3, 133, .agg #[.int .i64 t374, .int .i64 t375]), (4, 134, .agg #[.int .i64 2, .int .i64 0, .int .i64 0, .int .i64 t374, .int .i64 t375, .int .i64 0, .int .i64 0]), (5, 135, .tuple #[.agg #[.int .i64 t376, .int .i64 t377], .int .i64 t378]), (6, 129, .tuple #[.agg #[.int .i64 t376, .int .i64 t377], .int .i64 t378]), (7, 136, .agg #[.int .i64 t376, .int .i64 t377]), (8, 137, .int .i64 t378), (9, 14, m9_), (11, 15, .int .i64 t378)] ∧ (w'.heap[gb341]? = some (.cells #[.int .u8 a0_0, .int .u8 a0_1, .int .u8 a0_2, .int .u8 a0_3, .int .u8 a0_4, .int .u8 a0_5, .int .u8 a0_6, .int .u8 a0_7, .int .u8 a0_8] 26 (0, 0))) ∧ (w'.heap[gb342]? = some (.cells #[.int .u16 a1_0, .int .u16 a1_1, .int .u16 a1_2, .int .i8 a1_3, .int .i8 a1_4] 31 (0, 0))) ∧ (w'.heap[gb364]? = some (.cells #[.int .i64 t343, .int .i64 t344, .int .i64 t345, .int .i64 t346, .int .i64 t347, .int .i64 t348, .bool t349, .int .i64 t350] 33 (0, 0))) ∧ (w'.heap[gb365]? = some (.cells #[.int .i64 t351, .int .i64 t352, .int .i64 t353, .int .i64 t354, .int .i64 t355, .int .i64 t356, .int .i64 t357, .int .i64 t366, .int .i64 t367, .int .i64 t360, .int .i64 t361, .int .i64 t362, .int .i64 t363] 38 (0, 0))) ∧ (w'.heap[gb371]? = some (.cells #[.int .i64 t368, .int .i64 t369] 42 (0, 0))) ∧ (Below w.heap.size w w') ∧ (b 9 = true → b 10 = false → w'.heap[gb379]? = some (.cells #[.int .i64 0, .int .i64 0] 36 (0, 0))) ∧ (b 9 = true → w.heap.size ≤ gb379) ∧ (b 9 = true → w.heap.size ≤ gb379) ∧ (b 9 = true → gb341 ≠ gb379) ∧ (b 9 = true → gb379 ≠ gb341) ∧ (b 9 = true → gb342 ≠ gb379) ∧ (b 9 = true → gb379 ≠ gb342) ∧ (b 9 = true → gb364 ≠ gb379) ∧ (b 9 = true → gb379 ≠ gb364) ∧ (b 9 = true → gb365 ≠ gb379) ∧ (b 9 = true → gb379 ≠ gb365) ∧ (b 9 = true → gb371 ≠ gb379) ∧ (b 9 = true → gb379 ≠ gb371) ∧ (b 10 = true → w'.heap[gb379]? = some (.cells #[.int .i64 t376, .int .i64 t377] 36 (0, 0))) ∧ (b 9 = true → (m9_ : Value) = .pointer (some ⟨gb379, 0, none⟩))) HT_.out HW_.out (by kernel_rfl) (by kernel_rfl) ?_ ?_ ?_
              · exact ⟨0, .bool false, by simp only [putSel, Bool.false_eq_true, if_false], BK341.out, BK342.out, BK364.out, BK365.out, BK371.out, HB.out, fun h_ => absurd h_ (by decide), fun h_ => absurd h_ (by decide), fun h_ => absurd h_ (by decide), fun h_ => absurd h_ (by decide), fun h_ => absurd h_ (by decide), fun h_ => absurd h_ (by decide), fun h_ => absurd h_ (by decide), fun h_ => absurd h_ (by decide), fun h_ => absurd h_ (by decide), fun h_ => absurd h_ (by decide), fun h_ => absurd h_ (by decide), fun h_ => absurd h_ (by decide), fun h_ => absurd h_ (by decide), fun h_ => absurd h_ (by decide), fun h_ => absurd h_ (by decide)⟩
              ·
               clear BK341 BK342 BK364 BK365 BK371 HB
               refine steps_cons ?_ ?_
               ·
                rintro b a w' ⟨gb379, m9_, ha, Q_BK341, Q_BK342, Q_BK364, Q_BK365, Q_BK371, Q_HB, Q_BK379, Q_GW379, Q_GE379, Q_NB341_379, Q_NB379_341, Q_NB342_379, Q_NB379_342, Q_NB364_379, Q_NB379_364, Q_NB365_379, Q_NB379_365, Q_NB371_379, Q_NB379_371, Q_BK379_e10, Q_X9_⟩ hb_ hon hoff
                refine ⟨_, rfl, fun K hK => ?_⟩
                have e8 : a.tmps[8]? = some (.pointer (some ⟨gb365, 0, none⟩)) := by rw [ha]; exact (putSel_off rfl).trans rfl
                replace ha := Aside0.mk ha
                have BK341 := Aside0.mk Q_BK341
                have BK342 := Aside0.mk Q_BK342
                have BK364 := Aside0.mk Q_BK364
                have BK365 := Aside0.mk Q_BK365
                have BK371 := Aside0.mk Q_BK371
                have HB := Aside0.mk Q_HB
                have hc0_ : w'.cell? ⟨gb365, 0, none⟩ = some (.int .i64 t351) := (blk_cell BK365.out 0).trans rfl
                have hc1_ : w'.cell? ⟨gb365, 1, none⟩ = some (.int .i64 t352) := (blk_cell BK365.out 1).trans rfl
                have hc2_ : w'.cell? ⟨gb365, 2, none⟩ = some (.int .i64 t353) := (blk_cell BK365.out 2).trans rfl
                have hc3_ : w'.cell? ⟨gb365, 3, none⟩ = some (.int .i64 t354) := (blk_cell BK365.out 3).trans rfl
                have hc4_ : w'.cell? ⟨gb365, 4, none⟩ = some (.int .i64 t355) := (blk_cell BK365.out 4).trans rfl
                have hc5_ : w'.cell? ⟨gb365, 5, none⟩ = some (.int .i64 t356) := (blk_cell BK365.out 5).trans rfl
                have hc6_ : w'.cell? ⟨gb365, 6, none⟩ = some (.int .i64 t357) := (blk_cell BK365.out 6).trans rfl
                have hc7_ : w'.cell? ⟨gb365, 7, none⟩ = some (.int .i64 t366) := (blk_cell BK365.out 7).trans rfl
                have hc8_ : w'.cell? ⟨gb365, 8, none⟩ = some (.int .i64 t367) := (blk_cell BK365.out 8).trans rfl
                have hc9_ : w'.cell? ⟨gb365, 9, none⟩ = some (.int .i64 t360) := (blk_cell BK365.out 9).trans rfl
                have hc10_ : w'.cell? ⟨gb365, 10, none⟩ = some (.int .i64 t361) := (blk_cell BK365.out 10).trans rfl
                have hc11_ : w'.cell? ⟨gb365, 11, none⟩ = some (.int .i64 t362) := (blk_cell BK365.out 11).trans rfl
                have hc12_ : w'.cell? ⟨gb365, 12, none⟩ = some (.int .i64 t363) := (blk_cell BK365.out 12).trans rfl
                refine value_ (w1 := w') (v := .agg #[.int .i64 t351, .int .i64 t352, .int .i64 t353, .int .i64 t354, .int .i64 t355, .int .i64 t356, .int .i64 t357, .int .i64 t366, .int .i64 t367, .int .i64 t360, .int .i64 t361, .int .i64 t362, .int .i64 t363]) (by rfl) rfl ?_ ?_
                ·
                 go_simp
                 (try simp only [i64_w])
                 try rfl
                refine hK.out _ _ ⟨gb379, m9_, (by rw [ha.out]; exact putSel_upk 0 hb_ rfl rfl rfl), Q_BK341, Q_BK342, Q_BK364, Q_BK365, Q_BK371, Q_HB, Q_BK379, Q_GW379, Q_GE379, Q_NB341_379, Q_NB379_341, Q_NB342_379, Q_NB379_342, Q_NB364_379, Q_NB379_364, Q_NB365_379, Q_NB379_365, Q_NB371_379, Q_NB379_371, fun h0_ => absurd ((hoff 10 (by kernel_rfl)).symm.trans h0_) (by decide), Q_X9_⟩
               refine steps_cons ?_ ?_
               ·
                rintro b a w' ⟨gb379, m9_, ha, Q_BK341, Q_BK342, Q_BK364, Q_BK365, Q_BK371, Q_HB, Q_BK379, Q_GW379, Q_GE379, Q_NB341_379, Q_NB379_341, Q_NB342_379, Q_NB379_342, Q_NB364_379, Q_NB379_364, Q_NB365_379, Q_NB379_365, Q_NB371_379, Q_NB379_371, Q_BK379_e10, Q_X9_⟩ hb_ hon hoff
                refine ⟨_, rfl, fun K hK => ?_⟩
                have e131 : a.tmps[131]? = some (.int .i64 (wrap64 (x10_47 * (Int.tmod (wrap64 (a2)) (wrap64 ((wrap64 (Int.tdiv (2000 : Int) x10_47)) + 1)))))) := by rw [ha]; exact (putSel_off rfl).trans rfl
                have e132 : a.tmps[132]? = some (.int .i64 (wrap64 (x10_47 * (Int.tmod (wrap64 (a2)) (wrap64 ((wrap64 (Int.tdiv (2000 : Int) x10_47)) + 1)))))) := by rw [ha]; exact (putSel_off rfl).trans rfl
                replace ha := Aside0.mk ha
                have BK341 := Aside0.mk Q_BK341
                have BK342 := Aside0.mk Q_BK342
                have BK364 := Aside0.mk Q_BK364
                have BK365 := Aside0.mk Q_BK365
                have BK371 := Aside0.mk Q_BK371
                have HB := Aside0.mk Q_HB
                refine goes_ Try.func17 (by kernel_rfl) rfl #[.int .i64 (wrap64 (x10_47 * (Int.tmod (wrap64 (a2)) (wrap64 ((wrap64 (Int.tdiv (2000 : Int) x10_47)) + 1))))), .int .i64 (wrap64 (x10_47 * (Int.tmod (wrap64 (a2)) (wrap64 ((wrap64 (Int.tdiv (2000 : Int) x10_47)) + 1)))))] (by rfl) rfl rfl (by first | (simp only [List.map_toArray, List.map_cons, List.map_nil, Act.eval, Array.getD_eq_getD_getElem?, Option.getD_some, e131, e132]; done) | (simp only [List.map_toArray, List.map_cons, List.map_nil, Act.eval, Array.getD_eq_getD_getElem?, Option.getD_some, e131, e132]; rfl)) ?_
                with_reducible refine (acmetop_armSpan.calls (wrap64 (x10_47 * (Int.tmod (wrap64 (a2)) (wrap64 ((wrap64 (Int.tdiv (2000 : Int) x10_47)) + 1))))) (wrap64 (x10_47 * (Int.tmod (wrap64 (a2)) (wrap64 ((wrap64 (Int.tdiv (2000 : Int) x10_47)) + 1))))) t374 t375 _ A108.out).mono ?_
                rintro e w119 ⟨rfl, hb⟩
                refine ⟨_, rfl, ?_⟩
                have n0_ := Aside0.mk (blk_below (pl BK341.out) hb)
                have n1_ := Aside0.mk (blk_below (pl BK342.out) hb)
                have n2_ := Aside0.mk (blk_below (pl BK364.out) hb)
                have n3_ := Aside0.mk (blk_below (pl BK365.out) hb)
                have n4_ := Aside0.mk (blk_below (pl BK371.out) hb)
                have n5_ := Aside0.mk (below_step (hbp HB.out) hb)
                have z_BK379 := fun (h0_ : b 9 = true) (h1_ : b 10 = false) => (show w119.heap[gb379]? = some (.cells #[.int .i64 0, .int .i64 0] 36 (0, 0)) from by first | exact (blk_below (g := gb379) (pl (Q_BK379 h0_ h1_)) hb))
                clear BK341 BK342 BK364 BK365 BK371 HB; have BK341 := n0_; have BK342 := n1_; have BK364 := n2_; have BK365 := n3_; have BK371 := n4_; have HB := n5_; clear n0_ n1_ n2_ n3_ n4_ n5_; (try clear hb); (try clear hb2); (try clear hk); (try clear hi)
                refine hK.out _ _ ⟨gb379, m9_, (by rw [ha.out]; exact putSel_upk 1 hb_ rfl rfl rfl), (pl BK341.out), (pl BK342.out), (pl BK364.out), (pl BK365.out), (pl BK371.out), (hbp HB.out), z_BK379, Q_GW379, Q_GE379, Q_NB341_379, Q_NB379_341, Q_NB342_379, Q_NB379_342, Q_NB364_379, Q_NB379_364, Q_NB365_379, Q_NB379_365, Q_NB371_379, Q_NB379_371, fun h0_ => absurd ((hoff 10 (by kernel_rfl)).symm.trans h0_) (by decide), Q_X9_⟩
               refine steps_cons ?_ ?_
               ·
                rintro b a w' ⟨gb379, m9_, ha, Q_BK341, Q_BK342, Q_BK364, Q_BK365, Q_BK371, Q_HB, Q_BK379, Q_GW379, Q_GE379, Q_NB341_379, Q_NB379_341, Q_NB342_379, Q_NB379_342, Q_NB364_379, Q_NB379_364, Q_NB365_379, Q_NB379_365, Q_NB371_379, Q_NB379_371, Q_BK379_e10, Q_X9_⟩ hb_ hon hoff
                refine ⟨_, rfl, fun K hK => ?_⟩
                have e133 : a.tmps[133]? = some (.agg #[.int .i64 t374, .int .i64 t375]) := by rw [ha]; exact putSel_on (e := (3, 133, .agg #[.int .i64 t374, .int .i64 t375])) 1 rfl rfl (hon 3 (by kernel_rfl)) rfl
                replace ha := Aside0.mk ha
                have BK341 := Aside0.mk Q_BK341
                have BK342 := Aside0.mk Q_BK342
                have BK364 := Aside0.mk Q_BK364
                have BK365 := Aside0.mk Q_BK365
                have BK371 := Aside0.mk Q_BK371
                have HB := Aside0.mk Q_HB
                refine value_ (w1 := w') (v := .agg #[.int .i64 2, .int .i64 0, .int .i64 0, .int .i64 t374, .int .i64 t375, .int .i64 0, .int .i64 0]) (by rfl) rfl ?_ ?_
                ·
                 go_simp
                 (try simp only [i64_w])
                 try rfl
                refine hK.out _ _ ⟨gb379, m9_, (by rw [ha.out]; exact putSel_upk 2 hb_ rfl rfl rfl), Q_BK341, Q_BK342, Q_BK364, Q_BK365, Q_BK371, Q_HB, Q_BK379, Q_GW379, Q_GE379, Q_NB341_379, Q_NB379_341, Q_NB342_379, Q_NB379_342, Q_NB364_379, Q_NB379_364, Q_NB365_379, Q_NB379_365, Q_NB371_379, Q_NB379_371, fun h0_ => absurd ((hoff 10 (by kernel_rfl)).symm.trans h0_) (by decide), Q_X9_⟩
               refine steps_cons ?_ ?_
               ·
                rintro b a w' ⟨gb379, m9_, ha, Q_BK341, Q_BK342, Q_BK364, Q_BK365, Q_BK371, Q_HB, Q_BK379, Q_GW379, Q_GE379, Q_NB341_379, Q_NB379_341, Q_NB342_379, Q_NB379_342, Q_NB364_379, Q_NB379_364, Q_NB365_379, Q_NB379_365, Q_NB371_379, Q_NB379_371, Q_BK379_e10, Q_X9_⟩ hb_ hon hoff
                refine ⟨_, rfl, fun K hK => ?_⟩
                have e130 : a.tmps[130]? = some (.agg #[.int .i64 t351, .int .i64 t352, .int .i64 t353, .int .i64 t354, .int .i64 t355, .int .i64 t356, .int .i64 t357, .int .i64 t366, .int .i64 t367, .int .i64 t360, .int .i64 t361, .int .i64 t362, .int .i64 t363]) := by rw [ha]; exact putSel_on (e := (0, 130, .agg #[.int .i64 t351, .int .i64 t352, .int .i64 t353, .int .i64 t354, .int .i64 t355, .int .i64 t356, .int .i64 t357, .int .i64 t366, .int .i64 t367, .int .i64 t360, .int .i64 t361, .int .i64 t362, .int .i64 t363])) 0 rfl rfl (hon 0 (by kernel_rfl)) rfl
                have e134 : a.tmps[134]? = some (.agg #[.int .i64 2, .int .i64 0, .int .i64 0, .int .i64 t374, .int .i64 t375, .int .i64 0, .int .i64 0]) := by rw [ha]; exact putSel_on (e := (4, 134, .agg #[.int .i64 2, .int .i64 0, .int .i64 0, .int .i64 t374, .int .i64 t375, .int .i64 0, .int .i64 0])) 2 rfl rfl (hon 4 (by kernel_rfl)) rfl
                replace ha := Aside0.mk ha
                have BK341 := Aside0.mk Q_BK341
                have BK342 := Aside0.mk Q_BK342
                have BK364 := Aside0.mk Q_BK364
                have BK365 := Aside0.mk Q_BK365
                have BK371 := Aside0.mk Q_BK371
                have HB := Aside0.mk Q_HB
                refine goes_ Try.func21 (by kernel_rfl) rfl #[.agg #[.int .i64 t351, .int .i64 t352, .int .i64 t353, .int .i64 t354, .int .i64 t355, .int .i64 t356, .int .i64 t357, .int .i64 t366, .int .i64 t367, .int .i64 t360, .int .i64 t361, .int .i64 t362, .int .i64 t363], .agg #[.int .i64 2, .int .i64 0, .int .i64 0, .int .i64 t374, .int .i64 t375, .int .i64 0, .int .i64 0]] (by rfl) rfl rfl (by first | (simp only [List.map_toArray, List.map_cons, List.map_nil, Act.eval, Array.getD_eq_getD_getElem?, Option.getD_some, e130, e134]; done) | (simp only [List.map_toArray, List.map_cons, List.map_nil, Act.eval, Array.getD_eq_getD_getElem?, Option.getD_some, e130, e134]; rfl)) ?_
                with_reducible refine (bolt_Force.calls t351 t352 t353 t354 t355 t356 t357 t366 t367 t360 t361 t362 t363 2 0 0 t374 t375 0 0 t376 t377 t378 _ A109.out).mono ?_
                rintro e w121 ⟨rfl, hb⟩
                refine ⟨_, rfl, ?_⟩
                have n0_ := Aside0.mk (blk_below (pl BK341.out) hb)
                have n1_ := Aside0.mk (blk_below (pl BK342.out) hb)
                have n2_ := Aside0.mk (blk_below (pl BK364.out) hb)
                have n3_ := Aside0.mk (blk_below (pl BK365.out) hb)
                have n4_ := Aside0.mk (blk_below (pl BK371.out) hb)
                have n5_ := Aside0.mk (below_step (hbp HB.out) hb)
                have z_BK379 := fun (h0_ : b 9 = true) (h1_ : b 10 = false) => (show w121.heap[gb379]? = some (.cells #[.int .i64 0, .int .i64 0] 36 (0, 0)) from by first | exact (blk_below (g := gb379) (pl (Q_BK379 h0_ h1_)) hb))
                clear BK341 BK342 BK364 BK365 BK371 HB; have BK341 := n0_; have BK342 := n1_; have BK364 := n2_; have BK365 := n3_; have BK371 := n4_; have HB := n5_; clear n0_ n1_ n2_ n3_ n4_ n5_; (try clear hb); (try clear hb2); (try clear hk); (try clear hi)
                refine hK.out _ _ ⟨gb379, m9_, (by rw [ha.out]; exact putSel_upk 3 hb_ rfl rfl rfl), (pl BK341.out), (pl BK342.out), (pl BK364.out), (pl BK365.out), (pl BK371.out), (hbp HB.out), z_BK379, Q_GW379, Q_GE379, Q_NB341_379, Q_NB379_341, Q_NB342_379, Q_NB379_342, Q_NB364_379, Q_NB379_364, Q_NB365_379, Q_NB379_365, Q_NB371_379, Q_NB379_371, fun h0_ => absurd ((hoff 10 (by kernel_rfl)).symm.trans h0_) (by decide), Q_X9_⟩
               refine steps_cons ?_ ?_
               ·
                rintro b a w' ⟨gb379, m9_, ha, Q_BK341, Q_BK342, Q_BK364, Q_BK365, Q_BK371, Q_HB, Q_BK379, Q_GW379, Q_GE379, Q_NB341_379, Q_NB379_341, Q_NB342_379, Q_NB379_342, Q_NB364_379, Q_NB379_364, Q_NB365_379, Q_NB379_365, Q_NB371_379, Q_NB379_371, Q_BK379_e10, Q_X9_⟩ hb_ hon hoff
                refine ⟨_, rfl, fun K hK => ?_⟩
                have e135 : a.tmps[135]? = some (.tuple #[.agg #[.int .i64 t376, .int .i64 t377], .int .i64 t378]) := by rw [ha]; exact putSel_on (e := (5, 135, .tuple #[.agg #[.int .i64 t376, .int .i64 t377], .int .i64 t378])) 3 rfl rfl (hon 5 (by kernel_rfl)) rfl
                replace ha := Aside0.mk ha
                have BK341 := Aside0.mk Q_BK341
                have BK342 := Aside0.mk Q_BK342
                have BK364 := Aside0.mk Q_BK364
                have BK365 := Aside0.mk Q_BK365
                have BK371 := Aside0.mk Q_BK371
                have HB := Aside0.mk Q_HB
                refine value_ (w1 := w') (v := .tuple #[.agg #[.int .i64 t376, .int .i64 t377], .int .i64 t378]) (by rfl) rfl ?_ ?_
                ·
                 go_simp
                 (try simp only [i64_w])
                 try rfl
                refine hK.out _ _ ⟨gb379, m9_, (by rw [ha.out]; exact putSel_upk 4 hb_ rfl rfl rfl), Q_BK341, Q_BK342, Q_BK364, Q_BK365, Q_BK371, Q_HB, Q_BK379, Q_GW379, Q_GE379, Q_NB341_379, Q_NB379_341, Q_NB342_379, Q_NB379_342, Q_NB364_379, Q_NB379_364, Q_NB365_379, Q_NB379_365, Q_NB371_379, Q_NB379_371, fun h0_ => absurd ((hoff 10 (by kernel_rfl)).symm.trans h0_) (by decide), Q_X9_⟩
               refine steps_cons ?_ ?_
               ·
                rintro b a w' ⟨gb379, m9_, ha, Q_BK341, Q_BK342, Q_BK364, Q_BK365, Q_BK371, Q_HB, Q_BK379, Q_GW379, Q_GE379, Q_NB341_379, Q_NB379_341, Q_NB342_379, Q_NB379_342, Q_NB364_379, Q_NB379_364, Q_NB365_379, Q_NB379_365, Q_NB371_379, Q_NB379_371, Q_BK379_e10, Q_X9_⟩ hb_ hon hoff
                refine ⟨_, rfl, fun K hK => ?_⟩
                have e129 : a.tmps[129]? = some (.tuple #[.agg #[.int .i64 t376, .int .i64 t377], .int .i64 t378]) := by rw [ha]; exact putSel_on (e := (6, 129, .tuple #[.agg #[.int .i64 t376, .int .i64 t377], .int .i64 t378])) 4 rfl rfl (hon 6 (by kernel_rfl)) rfl
                replace ha := Aside0.mk ha
                have BK341 := Aside0.mk Q_BK341
                have BK342 := Aside0.mk Q_BK342
                have BK364 := Aside0.mk Q_BK364
                have BK365 := Aside0.mk Q_BK365
                have BK371 := Aside0.mk Q_BK371
                have HB := Aside0.mk Q_HB
                refine value_ (w1 := w') (v := .agg #[.int .i64 t376, .int .i64 t377]) (by rfl) rfl ?_ ?_
                ·
                 go_simp
                 (try simp only [i64_w])
                 try rfl
                refine hK.out _ _ ⟨gb379, m9_, (by rw [ha.out]; exact putSel_upk 5 hb_ rfl rfl rfl), Q_BK341, Q_BK342, Q_BK364, Q_BK365, Q_BK371, Q_HB, Q_BK379, Q_GW379, Q_GE379, Q_NB341_379, Q_NB379_341, Q_NB342_379, Q_NB379_342, Q_NB364_379, Q_NB379_364, Q_NB365_379, Q_NB379_365, Q_NB371_379, Q_NB379_371, fun h0_ => absurd ((hoff 10 (by kernel_rfl)).symm.trans h0_) (by decide), Q_X9_⟩
               refine steps_cons ?_ ?_
               ·
                rintro b a w' ⟨gb379, m9_, ha, Q_BK341, Q_BK342, Q_BK364, Q_BK365, Q_BK371, Q_HB, Q_BK379, Q_GW379, Q_GE379, Q_NB341_379, Q_NB379_341, Q_NB342_379, Q_NB379_342, Q_NB364_379, Q_NB379_364, Q_NB365_379, Q_NB379_365, Q_NB371_379, Q_NB379_371, Q_BK379_e10, Q_X9_⟩ hb_ hon hoff
                refine ⟨_, rfl, fun K hK => ?_⟩
                have e129 : a.tmps[129]? = some (.tuple #[.agg #[.int .i64 t376, .int .i64 t377], .int .i64 t378]) := by rw [ha]; exact putSel_on (e := (6, 129, .tuple #[.agg #[.int .i64 t376, .int .i64 t377], .int .i64 t378])) 4 rfl rfl (hon 6 (by kernel_rfl)) rfl
                replace ha := Aside0.mk ha
                have BK341 := Aside0.mk Q_BK341
                have BK342 := Aside0.mk Q_BK342
                have BK364 := Aside0.mk Q_BK364
                have BK365 := Aside0.mk Q_BK365
                have BK371 := Aside0.mk Q_BK371
                have HB := Aside0.mk Q_HB
                refine value_ (w1 := w') (v := .int .i64 t378) (by rfl) rfl ?_ ?_
                ·
                 go_simp
                 (try simp only [i64_w])
                 try rfl
                refine hK.out _ _ ⟨gb379, m9_, (by rw [ha.out]; exact putSel_upk 6 hb_ rfl rfl rfl), Q_BK341, Q_BK342, Q_BK364, Q_BK365, Q_BK371, Q_HB, Q_BK379, Q_GW379, Q_GE379, Q_NB341_379, Q_NB379_341, Q_NB342_379, Q_NB379_342, Q_NB364_379, Q_NB379_364, Q_NB365_379, Q_NB379_365, Q_NB371_379, Q_NB379_371, Q_BK379_e10, Q_X9_⟩
               refine steps_cons ?_ ?_
               ·
                rintro b a w' ⟨gb379, m9_, ha, Q_BK341, Q_BK342, Q_BK364, Q_BK365, Q_BK371, Q_HB, Q_BK379, Q_GW379, Q_GE379, Q_NB341_379, Q_NB379_341, Q_NB342_379, Q_NB379_342, Q_NB364_379, Q_NB379_364, Q_NB365_379, Q_NB379_365, Q_NB371_379, Q_NB379_371, Q_BK379_e10, Q_X9_⟩ hb_ hon hoff
                refine ⟨_, rfl, fun K hK => ?_⟩
                replace ha := Aside0.mk ha
                have BK341 := Aside0.mk Q_BK341
                have BK342 := Aside0.mk Q_BK342
                have BK364 := Aside0.mk Q_BK364
                have BK365 := Aside0.mk Q_BK365
                have BK371 := Aside0.mk Q_BK371
                have HB := Aside0.mk Q_HB
                refine box_step ?hg (N := 14) ?hd (cs := #[.int .i64 0, .int .i64 0]) (t := 36) ?hr ?_; (case hd => rfl); (case hg => rfl); (case hr => first | (go_simp; done) | (go_simp; rfl))
                intro gb379 hg w119 hbox hb
                have n0_ := Aside0.mk (blk_below (pl BK341.out) hb)
                have n1_ := Aside0.mk (blk_below (pl BK342.out) hb)
                have n2_ := Aside0.mk (blk_below (pl BK364.out) hb)
                have n3_ := Aside0.mk (blk_below (pl BK365.out) hb)
                have n4_ := Aside0.mk (blk_below (pl BK371.out) hb)
                have n5_ := Aside0.mk (below_step (hbp HB.out) hb)
                have n6_ := Aside0.mk (hbox)
                have n7_ := Aside0.mk (geB hg (hbp HB.out))
                have n8_ := Aside0.mk (geB hg (hbp HB.out))
                have n9_ := Aside0.mk (ltB hg (pl BK341.out))
                have n10_ := Aside0.mk (gtB hg (pl BK341.out))
                have n11_ := Aside0.mk (ltB hg (pl BK342.out))
                have n12_ := Aside0.mk (gtB hg (pl BK342.out))
                have n13_ := Aside0.mk (ltB hg (pl BK364.out))
                have n14_ := Aside0.mk (gtB hg (pl BK364.out))
                have n15_ := Aside0.mk (ltB hg (pl BK365.out))
                have n16_ := Aside0.mk (gtB hg (pl BK365.out))
                have n17_ := Aside0.mk (ltB hg (pl BK371.out))
                have n18_ := Aside0.mk (gtB hg (pl BK371.out))
                clear BK341 BK342 BK364 BK365 BK371 HB; have BK341 := n0_; have BK342 := n1_; have BK364 := n2_; have BK365 := n3_; have BK371 := n4_; have HB := n5_; have BK379 := n6_; have GW379 := n7_; have GE379 := n8_; have NB341_379 := n9_; have NB379_341 := n10_; have NB342_379 := n11_; have NB379_342 := n12_; have NB364_379 := n13_; have NB379_364 := n14_; have NB365_379 := n15_; have NB379_365 := n16_; have NB371_379 := n17_; have NB379_371 := n18_; clear n0_ n1_ n2_ n3_ n4_ n5_ n6_ n7_ n8_ n9_ n10_ n11_ n12_ n13_ n14_ n15_ n16_ n17_ n18_ hb hbox hg
                refine hK.out _ _ ⟨gb379, (.pointer (some ⟨gb379, 0, none⟩)), (by rw [ha.out]; exact putSel_upk 7 hb_ rfl rfl rfl), (pl BK341.out), (pl BK342.out), (pl BK364.out), (pl BK365.out), (pl BK371.out), (hbp HB.out), fun _ _ => (pl BK379.out), fun _ => GW379.out, fun _ => GE379.out, fun _ => NB341_379.out, fun _ => NB379_341.out, fun _ => NB342_379.out, fun _ => NB379_342.out, fun _ => NB364_379.out, fun _ => NB379_364.out, fun _ => NB365_379.out, fun _ => NB379_365.out, fun _ => NB371_379.out, fun _ => NB379_371.out, fun h0_ => absurd ((hoff 10 (by kernel_rfl)).symm.trans h0_) (by decide), fun _ => rfl⟩
               refine steps_cons ?_ ?_
               ·
                rintro b a w' ⟨gb379, m9_, ha, Q_BK341, Q_BK342, Q_BK364, Q_BK365, Q_BK371, Q_HB, Q_BK379, Q_GW379, Q_GE379, Q_NB341_379, Q_NB379_341, Q_NB342_379, Q_NB379_342, Q_NB364_379, Q_NB379_364, Q_NB365_379, Q_NB379_365, Q_NB371_379, Q_NB379_371, Q_BK379_e10, Q_X9_⟩ hb_ hon hoff
                refine ⟨_, rfl, fun K hK => ?_⟩
                have e14 : a.tmps[14]? = some (m9_) := by rw [ha]; exact putSel_on (e := (9, 14, m9_)) 7 rfl rfl (hon 9 (by kernel_rfl)) rfl
                rw [Q_X9_ (hon 9 (by kernel_rfl))] at e14
                have e136 : a.tmps[136]? = some (.agg #[.int .i64 t376, .int .i64 t377]) := by rw [ha]; exact putSel_on (e := (7, 136, .agg #[.int .i64 t376, .int .i64 t377])) 5 rfl rfl (hon 7 (by kernel_rfl)) rfl
                replace ha := Aside0.mk ha
                have BK341 := Aside0.mk Q_BK341
                have BK342 := Aside0.mk Q_BK342
                have BK364 := Aside0.mk Q_BK364
                have BK365 := Aside0.mk Q_BK365
                have BK371 := Aside0.mk Q_BK371
                have HB := Aside0.mk Q_HB
                have BK379 := Aside0.mk (Q_BK379 (hon 9 (by kernel_rfl)) hb_)
                have GW379 := Aside0.mk (Q_GW379 (hon 9 (by kernel_rfl)))
                have GE379 := Aside0.mk (Q_GE379 (hon 9 (by kernel_rfl)))
                have NB341_379 := Aside0.mk (Q_NB341_379 (hon 9 (by kernel_rfl)))
                have NB379_341 := Aside0.mk (Q_NB379_341 (hon 9 (by kernel_rfl)))
                have NB342_379 := Aside0.mk (Q_NB342_379 (hon 9 (by kernel_rfl)))
                have NB379_342 := Aside0.mk (Q_NB379_342 (hon 9 (by kernel_rfl)))
                have NB364_379 := Aside0.mk (Q_NB364_379 (hon 9 (by kernel_rfl)))
                have NB379_364 := Aside0.mk (Q_NB379_364 (hon 9 (by kernel_rfl)))
                have NB365_379 := Aside0.mk (Q_NB365_379 (hon 9 (by kernel_rfl)))
                have NB379_365 := Aside0.mk (Q_NB379_365 (hon 9 (by kernel_rfl)))
                have NB371_379 := Aside0.mk (Q_NB371_379 (hon 9 (by kernel_rfl)))
                have NB379_371 := Aside0.mk (Q_NB379_371 (hon 9 (by kernel_rfl)))
                have hs123 : w'.cell? ⟨gb379, 0, none⟩ = some (.int .i64 0) := (blk_cell BK379.out 0).trans rfl
                have hfs123 := blk_frozen BK379.out 0
                have hns123_0 := NB341_379.out
                have hns123_1 := NB342_379.out
                have hns123_2 := NB364_379.out
                have hns123_3 := NB365_379.out
                have hns123_4 := NB371_379.out
                have hms123_0 := NB379_341.out
                have hms123_1 := NB379_342.out
                have hms123_2 := NB379_364.out
                have hms123_3 := NB379_365.out
                have hms123_4 := NB379_371.out
                have hs124 : w'.cell? ⟨gb379, 1, none⟩ = some (.int .i64 0) := (blk_cell BK379.out 1).trans rfl
                have hfs124 := blk_frozen BK379.out 1
                have hns124_0 := NB341_379.out
                have hns124_1 := NB342_379.out
                have hns124_2 := NB364_379.out
                have hns124_3 := NB365_379.out
                have hns124_4 := NB371_379.out
                have hms124_0 := NB379_341.out
                have hms124_1 := NB379_342.out
                have hms124_2 := NB379_364.out
                have hms124_3 := NB379_365.out
                have hms124_4 := NB379_371.out
                refine skip_ (w1 := ?_) (by rfl) rfl ?_ ?_
                rotate_left
                ·
                 go_simp
                 rfl
                refine hK.out _ _ ⟨gb379, m9_, (by rw [ha.out]; exact putSel_none (v := undef) rfl), (plf BK341.out), (plf BK342.out), (plf BK364.out), (plf BK365.out), (plf BK371.out), (hbp HB.out), fun _ h1_ => absurd ((up_self b 10).symm.trans h1_) (by decide), fun _ => GW379.out, fun _ => GE379.out, fun _ => NB341_379.out, fun _ => NB379_341.out, fun _ => NB342_379.out, fun _ => NB379_342.out, fun _ => NB364_379.out, fun _ => NB379_364.out, fun _ => NB365_379.out, fun _ => NB379_365.out, fun _ => NB371_379.out, fun _ => NB379_371.out, fun _ => (by (with_reducible repeat (first | refine blk_drewN ?_ _ | refine blk_drew ?_ | refine blk_alloc ?_ _)); refine blk_put (cs := #[.int .i64 t376, .int .i64 0]) ?_ 1 _ rfl; (with_reducible repeat (first | refine blk_drewN ?_ _ | refine blk_drew ?_ | refine blk_alloc ?_ _)); refine blk_put (cs := #[.int .i64 0, .int .i64 0]) ?_ 0 _ rfl; (with_reducible repeat (first | refine blk_drewN ?_ _ | refine blk_drew ?_ | refine blk_alloc ?_ _)); exact BK379.out), Q_X9_⟩
               refine steps_cons ?_ ?_
               ·
                rintro b a w' ⟨gb379, m9_, ha, Q_BK341, Q_BK342, Q_BK364, Q_BK365, Q_BK371, Q_HB, Q_BK379, Q_GW379, Q_GE379, Q_NB341_379, Q_NB379_341, Q_NB342_379, Q_NB379_342, Q_NB364_379, Q_NB379_364, Q_NB365_379, Q_NB379_365, Q_NB371_379, Q_NB379_371, Q_BK379_e10, Q_X9_⟩ hb_ hon hoff
                refine ⟨_, rfl, fun K hK => ?_⟩
                have e137 : a.tmps[137]? = some (.int .i64 t378) := by rw [ha]; exact putSel_on (e := (8, 137, .int .i64 t378)) 6 rfl rfl (hon 8 (by kernel_rfl)) rfl
                replace ha := Aside0.mk ha
                have BK341 := Aside0.mk Q_BK341
                have BK342 := Aside0.mk Q_BK342
                have BK364 := Aside0.mk Q_BK364
                have BK365 := Aside0.mk Q_BK365
                have BK371 := Aside0.mk Q_BK371
                have HB := Aside0.mk Q_HB
                have GW379 := Aside0.mk (Q_GW379 (hon 9 (by kernel_rfl)))
                have GE379 := Aside0.mk (Q_GE379 (hon 9 (by kernel_rfl)))
                have NB341_379 := Aside0.mk (Q_NB341_379 (hon 9 (by kernel_rfl)))
                have NB379_341 := Aside0.mk (Q_NB379_341 (hon 9 (by kernel_rfl)))
                have NB342_379 := Aside0.mk (Q_NB342_379 (hon 9 (by kernel_rfl)))
                have NB379_342 := Aside0.mk (Q_NB379_342 (hon 9 (by kernel_rfl)))
                have NB364_379 := Aside0.mk (Q_NB364_379 (hon 9 (by kernel_rfl)))
                have NB379_364 := Aside0.mk (Q_NB379_364 (hon 9 (by kernel_rfl)))
                have NB365_379 := Aside0.mk (Q_NB365_379 (hon 9 (by kernel_rfl)))
                have NB379_365 := Aside0.mk (Q_NB379_365 (hon 9 (by kernel_rfl)))
                have NB371_379 := Aside0.mk (Q_NB371_379 (hon 9 (by kernel_rfl)))
                have NB379_371 := Aside0.mk (Q_NB379_371 (hon 9 (by kernel_rfl)))
                have BK379 := Aside0.mk (Q_BK379_e10 (hon 10 (by kernel_rfl)))
                refine value_ (w1 := w') (v := .int .i64 t378) (by rfl) rfl ?_ ?_
                ·
                 go_simp
                 (try simp only [i64_w])
                 try rfl
                refine hK.out _ _ ⟨gb379, m9_, (by rw [ha.out]; exact putSel_upk 8 hb_ rfl rfl rfl), Q_BK341, Q_BK342, Q_BK364, Q_BK365, Q_BK371, Q_HB, fun _ h1_ => absurd ((hon 10 (by kernel_rfl)).symm.trans h1_) (by decide), Q_GW379, Q_GE379, Q_NB341_379, Q_NB379_341, Q_NB342_379, Q_NB379_342, Q_NB364_379, Q_NB379_364, Q_NB365_379, Q_NB379_365, Q_NB371_379, Q_NB379_371, Q_BK379_e10, Q_X9_⟩
               exact steps_nil
              rintro b a w124 hall ⟨gb379, m9_, ha, Q_BK341, Q_BK342, Q_BK364, Q_BK365, Q_BK371, Q_HB, Q_BK379, Q_GW379, Q_GE379, Q_NB341_379, Q_NB379_341, Q_NB342_379, Q_NB379_342, Q_NB364_379, Q_NB379_364, Q_NB365_379, Q_NB379_365, Q_NB371_379, Q_NB379_371, Q_BK379_e10, Q_X9_⟩
              clear BK341 BK342 BK364 BK365 BK371 HB
              have hb0_ := hall 0 (by kernel_rfl)
              have hb3_ := hall 3 (by kernel_rfl)
              have hb4_ := hall 4 (by kernel_rfl)
              have hb5_ := hall 5 (by kernel_rfl)
              have hb6_ := hall 6 (by kernel_rfl)
              have hb7_ := hall 7 (by kernel_rfl)
              have hb8_ := hall 8 (by kernel_rfl)
              have hb9_ := hall 9 (by kernel_rfl)
              have hb10_ := hall 10 (by kernel_rfl)
              have hb11_ := hall 11 (by kernel_rfl)
              subst ha
              obtain rfl := Q_X9_ hb9_
              simp only [putSel, hb0_, hb3_, hb4_, hb5_, hb6_, hb7_, hb8_, hb9_, hb10_, hb11_, if_true, Act.put, List.setIfInBounds_toArray, List.set_cons_zero, List.set_cons_succ]
              have BK341 := Aside0.mk Q_BK341
              clear Q_BK341
              have BK342 := Aside0.mk Q_BK342
              clear Q_BK342
              have BK364 := Aside0.mk Q_BK364
              clear Q_BK364
              have BK365 := Aside0.mk Q_BK365
              clear Q_BK365
              have BK371 := Aside0.mk Q_BK371
              clear Q_BK371
              have HB := Aside0.mk Q_HB
              clear Q_HB Q_BK379
              have GW379 := Aside0.mk (Q_GW379 hb9_)
              clear Q_GW379
              have GE379 := Aside0.mk (Q_GE379 hb9_)
              clear Q_GE379
              have NB341_379 := Aside0.mk (Q_NB341_379 hb9_)
              clear Q_NB341_379
              have NB379_341 := Aside0.mk (Q_NB379_341 hb9_)
              clear Q_NB379_341
              have NB342_379 := Aside0.mk (Q_NB342_379 hb9_)
              clear Q_NB342_379
              have NB379_342 := Aside0.mk (Q_NB379_342 hb9_)
              clear Q_NB379_342
              have NB364_379 := Aside0.mk (Q_NB364_379 hb9_)
              clear Q_NB364_379
              have NB379_364 := Aside0.mk (Q_NB379_364 hb9_)
              clear Q_NB379_364
              have NB365_379 := Aside0.mk (Q_NB365_379 hb9_)
              clear Q_NB365_379
              have NB379_365 := Aside0.mk (Q_NB379_365 hb9_)
              clear Q_NB379_365
              have NB371_379 := Aside0.mk (Q_NB371_379 hb9_)
              clear Q_NB371_379
              have NB379_371 := Aside0.mk (Q_NB379_371 hb9_)
              clear Q_NB379_371
              have BK379 := Aside0.mk (Q_BK379_e10 hb10_)
              clear Q_BK379_e10 hall hb0_ hb3_ hb4_ hb5_ hb6_ hb7_ hb8_ hb9_ hb10_ hb11_
              try go_wp2
              have n0_ := Aside0.mk (blk_drew BK341.out)
              have n1_ := Aside0.mk (blk_drew BK342.out)
              have n2_ := Aside0.mk (blk_drew BK364.out)
              have n3_ := Aside0.mk (blk_drew BK365.out)
              have n4_ := Aside0.mk (blk_drew BK371.out)
              have n5_ := Aside0.mk (blk_drew BK379.out)
              have n6_ := Aside0.mk (below_drew1 HB.out)
              clear BK341 BK342 BK364 BK365 BK371 BK379 HB; have BK341 := n0_; have BK342 := n1_; have BK364 := n2_; have BK365 := n3_; have BK371 := n4_; have BK379 := n5_; have HB := n6_; clear n0_ n1_ n2_ n3_ n4_ n5_ n6_
              refine start_ (n := 14) (S := fun w' => True) (ds := []) #[false, false, false, false, false, false, false, false, false, false, false, false, false, false] (by kernel_rfl) rfl rfl trivial (fun hHeld => ?_); refine with_tabW acmetop_TopBoltThread.tab14 acmetop_TopBoltThread.bits14 (fun HT_ HW_ => ?_)
              generalize w124.drew = w125 at BK341 BK342 BK364 BK365 BK371 BK379 HB hHeld ⊢
              refine pure_ (i := 1) (N := some 140) (v := ?_) (a' := ?_) #[false, true, false, false, false, false, false, false, false, false, false, false, false, false] rfl rfl (any_of HT_.out (by kernel_rfl)) (fun _ _ _ h => h) (Or.inl ⟨by rfl, ?_⟩) ?_ ?_
              rotate_left
              ·
               intro w'
               go_simp
               with_reducible rfl
              rotate_left
              ·
               simp only [Act.put, List.setIfInBounds_toArray, List.set_cons_zero, List.set_cons_succ, i64_w, i32_w]
               rfl
              refine pure_ (i := 3) (N := some 142) (v := ?_) (a' := ?_) #[false, true, false, true, false, false, false, false, false, false, false, false, false, false] rfl rfl (any_of HT_.out (by kernel_rfl)) (fun _ _ _ h => h) (Or.inl ⟨by rfl, ?_⟩) ?_ ?_
              rotate_left
              ·
               intro w'
               go_simp
               with_reducible rfl
              rotate_left
              ·
               simp only [Act.put, List.setIfInBounds_toArray, List.set_cons_zero, List.set_cons_succ, i64_w, i32_w]
               rfl
              refine inv_at [0, 2, 4, 5, 6, 7, 8, 9, 10, 11, 12, 13] (fun a0_ b a w' => ∃ (gb385 : Nat) (m11_ : Value), a = putSel a0_ b [(0, 139, .agg #[.int .i64 t351, .int .i64 t352, .int .i64 t353, .int .i64 t354, .int .i64 t355, .int .i64 t356, .int .i64 t357, .int .i64 t366, .int .i64 t367, .int .i64 t360, .int .i64 t361, .int .i64 t362, .int .i64 t363]), (2, 141, .int .i64 t368), (4, 143, .int .i64 t368), (5, 144, .agg #[.int .i64 t380, .int .i64 t381]), (6, 145, .agg #[.int .i64 3, .int .i64 0, .int .i64 0, .int .i64 0, .int .i64 0, .int .i64 t380, .int .i64 t381]), (7, 146, .tuple #[.agg #[.int .i64 t382, .int .i64 t383], .int .i64 t384]), (8, 138, .tuple #[.agg #[.int .i64 t382, .int .i64 t383], .int .i64 t384]), (9, 147, .agg #[.int .i64 t382, .int .i64 t383]), (10, 148, .int .i64 t384), (11, 16, m11_), (13, 17, .int .i64 t384)] ∧ (w'.heap[gb341]? = some (.cells #[.int .u8 a0_0, .int .u8 a0_1, .int .u8 a0_2, .int .u8 a0_3, .int .u8 a0_4, .int .u8 a0_5, .int .u8 a0_6, .int .u8 a0_7, .int .u8 a0_8] 26 (0, 0))) ∧ (w'.heap[gb342]? = some (.cells #[.int .u16 a1_0, .int .u16 a1_1, .int .u16 a1_2, .int .i8 a1_3, .int .i8 a1_4] 31 (0, 0))) ∧ (w'.heap[gb364]? = some (.cells #[.int .i64 t343, .int .i64 t344, .int .i64 t345, .int .i64 t346, .int .i64 t347, .int .i64 t348, .bool t349, .int .i64 t350] 33 (0, 0))) ∧ (w'.heap[gb365]? = some (.cells #[.int .i64 t351, .int .i64 t352, .int .i64 t353, .int .i64 t354, .int .i64 t355, .int .i64 t356, .int .i64 t357, .int .i64 t366, .int .i64 t367, .int .i64 t360, .int .i64 t361, .int .i64 t362, .int .i64 t363] 38 (0, 0))) ∧ (w'.heap[gb371]? = some (.cells #[.int .i64 t368, .int .i64 t369] 42 (0, 0))) ∧ (w'.heap[gb379]? = some (.cells #[.int .i64 t376, .int .i64 t377] 36 (0, 0))) ∧ (Below w.heap.size w w') ∧ (b 11 = true → b 12 = false → w'.heap[gb385]? = some (.cells #[.int .i64 0, .int .i64 0] 36 (0, 0))) ∧ (b 11 = true → w.heap.size ≤ gb385) ∧ (b 11 = true → w.heap.size ≤ gb385) ∧ (b 11 = true → gb341 ≠ gb385) ∧ (b 11 = true → gb385 ≠ gb341) ∧ (b 11 = true → gb342 ≠ gb385) ∧ (b 11 = true → gb385 ≠ gb342) ∧ (b 11 = true → gb364 ≠ gb385) ∧ (b 11 = true → gb385 ≠ gb364) ∧ (b 11 = true → gb365 ≠ gb385) ∧ (b 11 = true → gb385 ≠ gb365) ∧ (b 11 = true → gb371 ≠ gb385) ∧ (b 11 = true → gb385 ≠ gb371) ∧ (b 11 = true → gb379 ≠ gb385) ∧ (b 11 = true → gb385 ≠ gb379) ∧ (b 12 = true → w'.heap[gb385]? = some (.cells #[.int .i64 t382, .int .i64 t383] 36 (0, 0))) ∧ (b 11 = true → (m11_ : Value) = .pointer (some ⟨gb385, 0, none⟩))) HT_.out HW_.out (by kernel_rfl) (by kernel_rfl) ?_ ?_ ?_
              · exact ⟨0, .bool false, by simp only [putSel, Bool.false_eq_true, if_false], BK341.out, BK342.out, BK364.out, BK365.out, BK371.out, BK379.out, HB.out, fun h_ => absurd h_ (by decide), fun h_ => absurd h_ (by decide), fun h_ => absurd h_ (by decide), fun h_ => absurd h_ (by decide), fun h_ => absurd h_ (by decide), fun h_ => absurd h_ (by decide), fun h_ => absurd h_ (by decide), fun h_ => absurd h_ (by decide), fun h_ => absurd h_ (by decide), fun h_ => absurd h_ (by decide), fun h_ => absurd h_ (by decide), fun h_ => absurd h_ (by decide), fun h_ => absurd h_ (by decide), fun h_ => absurd h_ (by decide), fun h_ => absurd h_ (by decide), fun h_ => absurd h_ (by decide), fun h_ => absurd h_ (by decide)⟩
              ·
               clear BK341 BK342 BK364 BK365 BK371 BK379 HB
               refine steps_cons ?_ ?_
               ·
                rintro b a w' ⟨gb385, m11_, ha, Q_BK341, Q_BK342, Q_BK364, Q_BK365, Q_BK371, Q_BK379, Q_HB, Q_BK385, Q_GW385, Q_GE385, Q_NB341_385, Q_NB385_341, Q_NB342_385, Q_NB385_342, Q_NB364_385, Q_NB385_364, Q_NB365_385, Q_NB385_365, Q_NB371_385, Q_NB385_371, Q_NB379_385, Q_NB385_379, Q_BK385_e12, Q_X11_⟩ hb_ hon hoff
                refine ⟨_, rfl, fun K hK => ?_⟩
                have e8 : a.tmps[8]? = some (.pointer (some ⟨gb365, 0, none⟩)) := by rw [ha]; exact (putSel_off rfl).trans rfl
                replace ha := Aside0.mk ha
                have BK341 := Aside0.mk Q_BK341
                have BK342 := Aside0.mk Q_BK342
                have BK364 := Aside0.mk Q_BK364
                have BK365 := Aside0.mk Q_BK365
                have BK371 := Aside0.mk Q_BK371
                have BK379 := Aside0.mk Q_BK379
                have HB := Aside0.mk Q_HB
                have hc0_ : w'.cell? ⟨gb365, 0, none⟩ = some (.int .i64 t351) := (blk_cell BK365.out 0).trans rfl
                have hc1_ : w'.cell? ⟨gb365, 1, none⟩ = some (.int .i64 t352) := (blk_cell BK365.out 1).trans rfl
                have hc2_ : w'.cell? ⟨gb365, 2, none⟩ = some (.int .i64 t353) := (blk_cell BK365.out 2).trans rfl
                have hc3_ : w'.cell? ⟨gb365, 3, none⟩ = some (.int .i64 t354) := (blk_cell BK365.out 3).trans rfl
                have hc4_ : w'.cell? ⟨gb365, 4, none⟩ = some (.int .i64 t355) := (blk_cell BK365.out 4).trans rfl
                have hc5_ : w'.cell? ⟨gb365, 5, none⟩ = some (.int .i64 t356) := (blk_cell BK365.out 5).trans rfl
                have hc6_ : w'.cell? ⟨gb365, 6, none⟩ = some (.int .i64 t357) := (blk_cell BK365.out 6).trans rfl
                have hc7_ : w'.cell? ⟨gb365, 7, none⟩ = some (.int .i64 t366) := (blk_cell BK365.out 7).trans rfl
                have hc8_ : w'.cell? ⟨gb365, 8, none⟩ = some (.int .i64 t367) := (blk_cell BK365.out 8).trans rfl
                have hc9_ : w'.cell? ⟨gb365, 9, none⟩ = some (.int .i64 t360) := (blk_cell BK365.out 9).trans rfl
                have hc10_ : w'.cell? ⟨gb365, 10, none⟩ = some (.int .i64 t361) := (blk_cell BK365.out 10).trans rfl
                have hc11_ : w'.cell? ⟨gb365, 11, none⟩ = some (.int .i64 t362) := (blk_cell BK365.out 11).trans rfl
                have hc12_ : w'.cell? ⟨gb365, 12, none⟩ = some (.int .i64 t363) := (blk_cell BK365.out 12).trans rfl
                refine value_ (w1 := w') (v := .agg #[.int .i64 t351, .int .i64 t352, .int .i64 t353, .int .i64 t354, .int .i64 t355, .int .i64 t356, .int .i64 t357, .int .i64 t366, .int .i64 t367, .int .i64 t360, .int .i64 t361, .int .i64 t362, .int .i64 t363]) (by rfl) rfl ?_ ?_
                ·
                 go_simp
                 (try simp only [i64_w])
                 try rfl
                refine hK.out _ _ ⟨gb385, m11_, (by rw [ha.out]; exact putSel_upk 0 hb_ rfl rfl rfl), Q_BK341, Q_BK342, Q_BK364, Q_BK365, Q_BK371, Q_BK379, Q_HB, Q_BK385, Q_GW385, Q_GE385, Q_NB341_385, Q_NB385_341, Q_NB342_385, Q_NB385_342, Q_NB364_385, Q_NB385_364, Q_NB365_385, Q_NB385_365, Q_NB371_385, Q_NB385_371, Q_NB379_385, Q_NB385_379, fun h0_ => absurd ((hoff 12 (by kernel_rfl)).symm.trans h0_) (by decide), Q_X11_⟩
               refine steps_cons ?_ ?_
               ·
                rintro b a w' ⟨gb385, m11_, ha, Q_BK341, Q_BK342, Q_BK364, Q_BK365, Q_BK371, Q_BK379, Q_HB, Q_BK385, Q_GW385, Q_GE385, Q_NB341_385, Q_NB385_341, Q_NB342_385, Q_NB385_342, Q_NB364_385, Q_NB385_364, Q_NB365_385, Q_NB385_365, Q_NB371_385, Q_NB385_371, Q_NB379_385, Q_NB385_379, Q_BK385_e12, Q_X11_⟩ hb_ hon hoff
                refine ⟨_, rfl, fun K hK => ?_⟩
                have e140 : a.tmps[140]? = some (.pointer (some ⟨gb371, 0, none⟩)) := by rw [ha]; exact (putSel_off rfl).trans rfl
                replace ha := Aside0.mk ha
                have BK341 := Aside0.mk Q_BK341
                have BK342 := Aside0.mk Q_BK342
                have BK364 := Aside0.mk Q_BK364
                have BK365 := Aside0.mk Q_BK365
                have BK371 := Aside0.mk Q_BK371
                have BK379 := Aside0.mk Q_BK379
                have HB := Aside0.mk Q_HB
                have hc0_ : w'.cell? ⟨gb371, 0, none⟩ = some (.int .i64 t368) := (blk_cell BK371.out 0).trans rfl
                have hc1_ : w'.cell? ⟨gb371, 1, none⟩ = some (.int .i64 t369) := (blk_cell BK371.out 1).trans rfl
                refine value_ (w1 := w') (v := .int .i64 t368) (by rfl) rfl ?_ ?_
                ·
                 go_simp
                 (try simp only [i64_w])
                 try rfl
                refine hK.out _ _ ⟨gb385, m11_, (by rw [ha.out]; exact putSel_upk 1 hb_ rfl rfl rfl), Q_BK341, Q_BK342, Q_BK364, Q_BK365, Q_BK371, Q_BK379, Q_HB, Q_BK385, Q_GW385, Q_GE385, Q_NB341_385, Q_NB385_341, Q_NB342_385, Q_NB385_342, Q_NB364_385, Q_NB385_364, Q_NB365_385, Q_NB385_365, Q_NB371_385, Q_NB385_371, Q_NB379_385, Q_NB385_379, fun h0_ => absurd ((hoff 12 (by kernel_rfl)).symm.trans h0_) (by decide), Q_X11_⟩
               refine steps_cons ?_ ?_
               ·
                rintro b a w' ⟨gb385, m11_, ha, Q_BK341, Q_BK342, Q_BK364, Q_BK365, Q_BK371, Q_BK379, Q_HB, Q_BK385, Q_GW385, Q_GE385, Q_NB341_385, Q_NB385_341, Q_NB342_385, Q_NB385_342, Q_NB364_385, Q_NB385_364, Q_NB365_385, Q_NB385_365, Q_NB371_385, Q_NB385_371, Q_NB379_385, Q_NB385_379, Q_BK385_e12, Q_X11_⟩ hb_ hon hoff
                refine ⟨_, rfl, fun K hK => ?_⟩
                have e142 : a.tmps[142]? = some (.pointer (some ⟨gb371, 0, none⟩)) := by rw [ha]; exact (putSel_off rfl).trans rfl
                replace ha := Aside0.mk ha
                have BK341 := Aside0.mk Q_BK341
                have BK342 := Aside0.mk Q_BK342
                have BK364 := Aside0.mk Q_BK364
                have BK365 := Aside0.mk Q_BK365
                have BK371 := Aside0.mk Q_BK371
                have BK379 := Aside0.mk Q_BK379
                have HB := Aside0.mk Q_HB
                have hc0_ : w'.cell? ⟨gb371, 0, none⟩ = some (.int .i64 t368) := (blk_cell BK371.out 0).trans rfl
                have hc1_ : w'.cell? ⟨gb371, 1, none⟩ = some (.int .i64 t369) := (blk_cell BK371.out 1).trans rfl
                refine value_ (w1 := w') (v := .int .i64 t368) (by rfl) rfl ?_ ?_
                ·
                 go_simp
                 (try simp only [i64_w])
                 try rfl
                refine hK.out _ _ ⟨gb385, m11_, (by rw [ha.out]; exact putSel_upk 2 hb_ rfl rfl rfl), Q_BK341, Q_BK342, Q_BK364, Q_BK365, Q_BK371, Q_BK379, Q_HB, Q_BK385, Q_GW385, Q_GE385, Q_NB341_385, Q_NB385_341, Q_NB342_385, Q_NB385_342, Q_NB364_385, Q_NB385_364, Q_NB365_385, Q_NB385_365, Q_NB371_385, Q_NB385_371, Q_NB379_385, Q_NB385_379, fun h0_ => absurd ((hoff 12 (by kernel_rfl)).symm.trans h0_) (by decide), Q_X11_⟩
               refine steps_cons ?_ ?_
               ·
                rintro b a w' ⟨gb385, m11_, ha, Q_BK341, Q_BK342, Q_BK364, Q_BK365, Q_BK371, Q_BK379, Q_HB, Q_BK385, Q_GW385, Q_GE385, Q_NB341_385, Q_NB385_341, Q_NB342_385, Q_NB385_342, Q_NB364_385, Q_NB385_364, Q_NB365_385, Q_NB385_365, Q_NB371_385, Q_NB385_371, Q_NB379_385, Q_NB385_379, Q_BK385_e12, Q_X11_⟩ hb_ hon hoff
                refine ⟨_, rfl, fun K hK => ?_⟩
                have e141 : a.tmps[141]? = some (.int .i64 t368) := by rw [ha]; exact putSel_on (e := (2, 141, .int .i64 t368)) 1 rfl rfl (hon 2 (by kernel_rfl)) rfl
                have e143 : a.tmps[143]? = some (.int .i64 t368) := by rw [ha]; exact putSel_on (e := (4, 143, .int .i64 t368)) 2 rfl rfl (hon 4 (by kernel_rfl)) rfl
                replace ha := Aside0.mk ha
                have BK341 := Aside0.mk Q_BK341
                have BK342 := Aside0.mk Q_BK342
                have BK364 := Aside0.mk Q_BK364
                have BK365 := Aside0.mk Q_BK365
                have BK371 := Aside0.mk Q_BK371
                have BK379 := Aside0.mk Q_BK379
                have HB := Aside0.mk Q_HB
                refine goes_ Try.func17 (by kernel_rfl) rfl #[.int .i64 t368, .int .i64 t368] (by rfl) rfl rfl (by first | (simp only [List.map_toArray, List.map_cons, List.map_nil, Act.eval, Array.getD_eq_getD_getElem?, Option.getD_some, e141, e143]; done) | (simp only [List.map_toArray, List.map_cons, List.map_nil, Act.eval, Array.getD_eq_getD_getElem?, Option.getD_some, e141, e143]; rfl)) ?_
                with_reducible refine (acmetop_armSpan.calls t368 t368 t380 t381 _ A110.out).mono ?_
                rintro e w126 ⟨rfl, hb⟩
                refine ⟨_, rfl, ?_⟩
                have n0_ := Aside0.mk (blk_below (pl BK341.out) hb)
                have n1_ := Aside0.mk (blk_below (pl BK342.out) hb)
                have n2_ := Aside0.mk (blk_below (pl BK364.out) hb)
                have n3_ := Aside0.mk (blk_below (pl BK365.out) hb)
                have n4_ := Aside0.mk (blk_below (pl BK371.out) hb)
                have n5_ := Aside0.mk (blk_below (pl BK379.out) hb)
                have n6_ := Aside0.mk (below_step (hbp HB.out) hb)
                have z_BK385 := fun (h0_ : b 11 = true) (h1_ : b 12 = false) => (show w126.heap[gb385]? = some (.cells #[.int .i64 0, .int .i64 0] 36 (0, 0)) from by first | exact (blk_below (g := gb385) (pl (Q_BK385 h0_ h1_)) hb))
                clear BK341 BK342 BK364 BK365 BK371 BK379 HB; have BK341 := n0_; have BK342 := n1_; have BK364 := n2_; have BK365 := n3_; have BK371 := n4_; have BK379 := n5_; have HB := n6_; clear n0_ n1_ n2_ n3_ n4_ n5_ n6_; (try clear hb); (try clear hb2); (try clear hk); (try clear hi)
                refine hK.out _ _ ⟨gb385, m11_, (by rw [ha.out]; exact putSel_upk 3 hb_ rfl rfl rfl), (pl BK341.out), (pl BK342.out), (pl BK364.out), (pl BK365.out), (pl BK371.out), (pl BK379.out), (hbp HB.out), z_BK385, Q_GW385, Q_GE385, Q_NB341_385, Q_NB385_341, Q_NB342_385, Q_NB385_342, Q_NB364_385, Q_NB385_364, Q_NB365_385, Q_NB385_365, Q_NB371_385, Q_NB385_371, Q_NB379_385, Q_NB385_379, fun h0_ => absurd ((hoff 12 (by kernel_rfl)).symm.trans h0_) (by decide), Q_X11_⟩
               refine steps_cons ?_ ?_
               ·
                rintro b a w' ⟨gb385, m11_, ha, Q_BK341, Q_BK342, Q_BK364, Q_BK365, Q_BK371, Q_BK379, Q_HB, Q_BK385, Q_GW385, Q_GE385, Q_NB341_385, Q_NB385_341, Q_NB342_385, Q_NB385_342, Q_NB364_385, Q_NB385_364, Q_NB365_385, Q_NB385_365, Q_NB371_385, Q_NB385_371, Q_NB379_385, Q_NB385_379, Q_BK385_e12, Q_X11_⟩ hb_ hon hoff
                refine ⟨_, rfl, fun K hK => ?_⟩
                have e144 : a.tmps[144]? = some (.agg #[.int .i64 t380, .int .i64 t381]) := by rw [ha]; exact putSel_on (e := (5, 144, .agg #[.int .i64 t380, .int .i64 t381])) 3 rfl rfl (hon 5 (by kernel_rfl)) rfl
                replace ha := Aside0.mk ha
                have BK341 := Aside0.mk Q_BK341
                have BK342 := Aside0.mk Q_BK342
                have BK364 := Aside0.mk Q_BK364
                have BK365 := Aside0.mk Q_BK365
                have BK371 := Aside0.mk Q_BK371
                have BK379 := Aside0.mk Q_BK379
                have HB := Aside0.mk Q_HB
                refine value_ (w1 := w') (v := .agg #[.int .i64 3, .int .i64 0, .int .i64 0, .int .i64 0, .int .i64 0, .int .i64 t380, .int .i64 t381]) (by rfl) rfl ?_ ?_
                ·
                 go_simp
                 (try simp only [i64_w])
                 try rfl
                refine hK.out _ _ ⟨gb385, m11_, (by rw [ha.out]; exact putSel_upk 4 hb_ rfl rfl rfl), Q_BK341, Q_BK342, Q_BK364, Q_BK365, Q_BK371, Q_BK379, Q_HB, Q_BK385, Q_GW385, Q_GE385, Q_NB341_385, Q_NB385_341, Q_NB342_385, Q_NB385_342, Q_NB364_385, Q_NB385_364, Q_NB365_385, Q_NB385_365, Q_NB371_385, Q_NB385_371, Q_NB379_385, Q_NB385_379, fun h0_ => absurd ((hoff 12 (by kernel_rfl)).symm.trans h0_) (by decide), Q_X11_⟩
               refine steps_cons ?_ ?_
               ·
                rintro b a w' ⟨gb385, m11_, ha, Q_BK341, Q_BK342, Q_BK364, Q_BK365, Q_BK371, Q_BK379, Q_HB, Q_BK385, Q_GW385, Q_GE385, Q_NB341_385, Q_NB385_341, Q_NB342_385, Q_NB385_342, Q_NB364_385, Q_NB385_364, Q_NB365_385, Q_NB385_365, Q_NB371_385, Q_NB385_371, Q_NB379_385, Q_NB385_379, Q_BK385_e12, Q_X11_⟩ hb_ hon hoff
                refine ⟨_, rfl, fun K hK => ?_⟩
                have e139 : a.tmps[139]? = some (.agg #[.int .i64 t351, .int .i64 t352, .int .i64 t353, .int .i64 t354, .int .i64 t355, .int .i64 t356, .int .i64 t357, .int .i64 t366, .int .i64 t367, .int .i64 t360, .int .i64 t361, .int .i64 t362, .int .i64 t363]) := by rw [ha]; exact putSel_on (e := (0, 139, .agg #[.int .i64 t351, .int .i64 t352, .int .i64 t353, .int .i64 t354, .int .i64 t355, .int .i64 t356, .int .i64 t357, .int .i64 t366, .int .i64 t367, .int .i64 t360, .int .i64 t361, .int .i64 t362, .int .i64 t363])) 0 rfl rfl (hon 0 (by kernel_rfl)) rfl
                have e145 : a.tmps[145]? = some (.agg #[.int .i64 3, .int .i64 0, .int .i64 0, .int .i64 0, .int .i64 0, .int .i64 t380, .int .i64 t381]) := by rw [ha]; exact putSel_on (e := (6, 145, .agg #[.int .i64 3, .int .i64 0, .int .i64 0, .int .i64 0, .int .i64 0, .int .i64 t380, .int .i64 t381])) 4 rfl rfl (hon 6 (by kernel_rfl)) rfl
                replace ha := Aside0.mk ha
                have BK341 := Aside0.mk Q_BK341
                have BK342 := Aside0.mk Q_BK342
                have BK364 := Aside0.mk Q_BK364
                have BK365 := Aside0.mk Q_BK365
                have BK371 := Aside0.mk Q_BK371
                have BK379 := Aside0.mk Q_BK379
                have HB := Aside0.mk Q_HB
                refine goes_ Try.func21 (by kernel_rfl) rfl #[.agg #[.int .i64 t351, .int .i64 t352, .int .i64 t353, .int .i64 t354, .int .i64 t355, .int .i64 t356, .int .i64 t357, .int .i64 t366, .int .i64 t367, .int .i64 t360, .int .i64 t361, .int .i64 t362, .int .i64 t363], .agg #[.int .i64 3, .int .i64 0, .int .i64 0, .int .i64 0, .int .i64 0, .int .i64 t380, .int .i64 t381]] (by rfl) rfl rfl (by first | (simp only [List.map_toArray, List.map_cons, List.map_nil, Act.eval, Array.getD_eq_getD_getElem?, Option.getD_some, e139, e145]; done) | (simp only [List.map_toArray, List.map_cons, List.map_nil, Act.eval, Array.getD_eq_getD_getElem?, Option.getD_some, e139, e145]; rfl)) ?_
                with_reducible refine (bolt_Force.calls t351 t352 t353 t354 t355 t356 t357 t366 t367 t360 t361 t362 t363 3 0 0 0 0 t380 t381 t382 t383 t384 _ A111.out).mono ?_
                rintro e w128 ⟨rfl, hb⟩
                refine ⟨_, rfl, ?_⟩
                have n0_ := Aside0.mk (blk_below (pl BK341.out) hb)
                have n1_ := Aside0.mk (blk_below (pl BK342.out) hb)
                have n2_ := Aside0.mk (blk_below (pl BK364.out) hb)
                have n3_ := Aside0.mk (blk_below (pl BK365.out) hb)
                have n4_ := Aside0.mk (blk_below (pl BK371.out) hb)
                have n5_ := Aside0.mk (blk_below (pl BK379.out) hb)
                have n6_ := Aside0.mk (below_step (hbp HB.out) hb)
                have z_BK385 := fun (h0_ : b 11 = true) (h1_ : b 12 = false) => (show w128.heap[gb385]? = some (.cells #[.int .i64 0, .int .i64 0] 36 (0, 0)) from by first | exact (blk_below (g := gb385) (pl (Q_BK385 h0_ h1_)) hb))
                clear BK341 BK342 BK364 BK365 BK371 BK379 HB; have BK341 := n0_; have BK342 := n1_; have BK364 := n2_; have BK365 := n3_; have BK371 := n4_; have BK379 := n5_; have HB := n6_; clear n0_ n1_ n2_ n3_ n4_ n5_ n6_; (try clear hb); (try clear hb2); (try clear hk); (try clear hi)
                refine hK.out _ _ ⟨gb385, m11_, (by rw [ha.out]; exact putSel_upk 5 hb_ rfl rfl rfl), (pl BK341.out), (pl BK342.out), (pl BK364.out), (pl BK365.out), (pl BK371.out), (pl BK379.out), (hbp HB.out), z_BK385, Q_GW385, Q_GE385, Q_NB341_385, Q_NB385_341, Q_NB342_385, Q_NB385_342, Q_NB364_385, Q_NB385_364, Q_NB365_385, Q_NB385_365, Q_NB371_385, Q_NB385_371, Q_NB379_385, Q_NB385_379, fun h0_ => absurd ((hoff 12 (by kernel_rfl)).symm.trans h0_) (by decide), Q_X11_⟩
               refine steps_cons ?_ ?_
               ·
                rintro b a w' ⟨gb385, m11_, ha, Q_BK341, Q_BK342, Q_BK364, Q_BK365, Q_BK371, Q_BK379, Q_HB, Q_BK385, Q_GW385, Q_GE385, Q_NB341_385, Q_NB385_341, Q_NB342_385, Q_NB385_342, Q_NB364_385, Q_NB385_364, Q_NB365_385, Q_NB385_365, Q_NB371_385, Q_NB385_371, Q_NB379_385, Q_NB385_379, Q_BK385_e12, Q_X11_⟩ hb_ hon hoff
                refine ⟨_, rfl, fun K hK => ?_⟩
                have e146 : a.tmps[146]? = some (.tuple #[.agg #[.int .i64 t382, .int .i64 t383], .int .i64 t384]) := by rw [ha]; exact putSel_on (e := (7, 146, .tuple #[.agg #[.int .i64 t382, .int .i64 t383], .int .i64 t384])) 5 rfl rfl (hon 7 (by kernel_rfl)) rfl
                replace ha := Aside0.mk ha
                have BK341 := Aside0.mk Q_BK341
                have BK342 := Aside0.mk Q_BK342
                have BK364 := Aside0.mk Q_BK364
                have BK365 := Aside0.mk Q_BK365
                have BK371 := Aside0.mk Q_BK371
                have BK379 := Aside0.mk Q_BK379
                have HB := Aside0.mk Q_HB
                refine value_ (w1 := w') (v := .tuple #[.agg #[.int .i64 t382, .int .i64 t383], .int .i64 t384]) (by rfl) rfl ?_ ?_
                ·
                 go_simp
                 (try simp only [i64_w])
                 try rfl
                refine hK.out _ _ ⟨gb385, m11_, (by rw [ha.out]; exact putSel_upk 6 hb_ rfl rfl rfl), Q_BK341, Q_BK342, Q_BK364, Q_BK365, Q_BK371, Q_BK379, Q_HB, Q_BK385, Q_GW385, Q_GE385, Q_NB341_385, Q_NB385_341, Q_NB342_385, Q_NB385_342, Q_NB364_385, Q_NB385_364, Q_NB365_385, Q_NB385_365, Q_NB371_385, Q_NB385_371, Q_NB379_385, Q_NB385_379, fun h0_ => absurd ((hoff 12 (by kernel_rfl)).symm.trans h0_) (by decide), Q_X11_⟩
               refine steps_cons ?_ ?_
               ·
                rintro b a w' ⟨gb385, m11_, ha, Q_BK341, Q_BK342, Q_BK364, Q_BK365, Q_BK371, Q_BK379, Q_HB, Q_BK385, Q_GW385, Q_GE385, Q_NB341_385, Q_NB385_341, Q_NB342_385, Q_NB385_342, Q_NB364_385, Q_NB385_364, Q_NB365_385, Q_NB385_365, Q_NB371_385, Q_NB385_371, Q_NB379_385, Q_NB385_379, Q_BK385_e12, Q_X11_⟩ hb_ hon hoff
                refine ⟨_, rfl, fun K hK => ?_⟩
                have e138 : a.tmps[138]? = some (.tuple #[.agg #[.int .i64 t382, .int .i64 t383], .int .i64 t384]) := by rw [ha]; exact putSel_on (e := (8, 138, .tuple #[.agg #[.int .i64 t382, .int .i64 t383], .int .i64 t384])) 6 rfl rfl (hon 8 (by kernel_rfl)) rfl
                replace ha := Aside0.mk ha
                have BK341 := Aside0.mk Q_BK341
                have BK342 := Aside0.mk Q_BK342
                have BK364 := Aside0.mk Q_BK364
                have BK365 := Aside0.mk Q_BK365
                have BK371 := Aside0.mk Q_BK371
                have BK379 := Aside0.mk Q_BK379
                have HB := Aside0.mk Q_HB
                refine value_ (w1 := w') (v := .agg #[.int .i64 t382, .int .i64 t383]) (by rfl) rfl ?_ ?_
                ·
                 go_simp
                 (try simp only [i64_w])
                 try rfl
                refine hK.out _ _ ⟨gb385, m11_, (by rw [ha.out]; exact putSel_upk 7 hb_ rfl rfl rfl), Q_BK341, Q_BK342, Q_BK364, Q_BK365, Q_BK371, Q_BK379, Q_HB, Q_BK385, Q_GW385, Q_GE385, Q_NB341_385, Q_NB385_341, Q_NB342_385, Q_NB385_342, Q_NB364_385, Q_NB385_364, Q_NB365_385, Q_NB385_365, Q_NB371_385, Q_NB385_371, Q_NB379_385, Q_NB385_379, fun h0_ => absurd ((hoff 12 (by kernel_rfl)).symm.trans h0_) (by decide), Q_X11_⟩
               refine steps_cons ?_ ?_
               ·
                rintro b a w' ⟨gb385, m11_, ha, Q_BK341, Q_BK342, Q_BK364, Q_BK365, Q_BK371, Q_BK379, Q_HB, Q_BK385, Q_GW385, Q_GE385, Q_NB341_385, Q_NB385_341, Q_NB342_385, Q_NB385_342, Q_NB364_385, Q_NB385_364, Q_NB365_385, Q_NB385_365, Q_NB371_385, Q_NB385_371, Q_NB379_385, Q_NB385_379, Q_BK385_e12, Q_X11_⟩ hb_ hon hoff
                refine ⟨_, rfl, fun K hK => ?_⟩
                have e138 : a.tmps[138]? = some (.tuple #[.agg #[.int .i64 t382, .int .i64 t383], .int .i64 t384]) := by rw [ha]; exact putSel_on (e := (8, 138, .tuple #[.agg #[.int .i64 t382, .int .i64 t383], .int .i64 t384])) 6 rfl rfl (hon 8 (by kernel_rfl)) rfl
                replace ha := Aside0.mk ha
                have BK341 := Aside0.mk Q_BK341
                have BK342 := Aside0.mk Q_BK342
                have BK364 := Aside0.mk Q_BK364
                have BK365 := Aside0.mk Q_BK365
                have BK371 := Aside0.mk Q_BK371
                have BK379 := Aside0.mk Q_BK379
                have HB := Aside0.mk Q_HB
                refine value_ (w1 := w') (v := .int .i64 t384) (by rfl) rfl ?_ ?_
                ·
                 go_simp
                 (try simp only [i64_w])
                 try rfl
                refine hK.out _ _ ⟨gb385, m11_, (by rw [ha.out]; exact putSel_upk 8 hb_ rfl rfl rfl), Q_BK341, Q_BK342, Q_BK364, Q_BK365, Q_BK371, Q_BK379, Q_HB, Q_BK385, Q_GW385, Q_GE385, Q_NB341_385, Q_NB385_341, Q_NB342_385, Q_NB385_342, Q_NB364_385, Q_NB385_364, Q_NB365_385, Q_NB385_365, Q_NB371_385, Q_NB385_371, Q_NB379_385, Q_NB385_379, Q_BK385_e12, Q_X11_⟩
               refine steps_cons ?_ ?_
               ·
                rintro b a w' ⟨gb385, m11_, ha, Q_BK341, Q_BK342, Q_BK364, Q_BK365, Q_BK371, Q_BK379, Q_HB, Q_BK385, Q_GW385, Q_GE385, Q_NB341_385, Q_NB385_341, Q_NB342_385, Q_NB385_342, Q_NB364_385, Q_NB385_364, Q_NB365_385, Q_NB385_365, Q_NB371_385, Q_NB385_371, Q_NB379_385, Q_NB385_379, Q_BK385_e12, Q_X11_⟩ hb_ hon hoff
                refine ⟨_, rfl, fun K hK => ?_⟩
                replace ha := Aside0.mk ha
                have BK341 := Aside0.mk Q_BK341
                have BK342 := Aside0.mk Q_BK342
                have BK364 := Aside0.mk Q_BK364
                have BK365 := Aside0.mk Q_BK365
                have BK371 := Aside0.mk Q_BK371
                have BK379 := Aside0.mk Q_BK379
                have HB := Aside0.mk Q_HB
                refine box_step ?hg (N := 16) ?hd (cs := #[.int .i64 0, .int .i64 0]) (t := 36) ?hr ?_; (case hd => rfl); (case hg => rfl); (case hr => first | (go_simp; done) | (go_simp; rfl))
                intro gb385 hg w126 hbox hb
                have n0_ := Aside0.mk (blk_below (pl BK341.out) hb)
                have n1_ := Aside0.mk (blk_below (pl BK342.out) hb)
                have n2_ := Aside0.mk (blk_below (pl BK364.out) hb)
                have n3_ := Aside0.mk (blk_below (pl BK365.out) hb)
                have n4_ := Aside0.mk (blk_below (pl BK371.out) hb)
                have n5_ := Aside0.mk (blk_below (pl BK379.out) hb)
                have n6_ := Aside0.mk (below_step (hbp HB.out) hb)
                have n7_ := Aside0.mk (hbox)
                have n8_ := Aside0.mk (geB hg (hbp HB.out))
                have n9_ := Aside0.mk (geB hg (hbp HB.out))
                have n10_ := Aside0.mk (ltB hg (pl BK341.out))
                have n11_ := Aside0.mk (gtB hg (pl BK341.out))
                have n12_ := Aside0.mk (ltB hg (pl BK342.out))
                have n13_ := Aside0.mk (gtB hg (pl BK342.out))
                have n14_ := Aside0.mk (ltB hg (pl BK364.out))
                have n15_ := Aside0.mk (gtB hg (pl BK364.out))
                have n16_ := Aside0.mk (ltB hg (pl BK365.out))
                have n17_ := Aside0.mk (gtB hg (pl BK365.out))
                have n18_ := Aside0.mk (ltB hg (pl BK371.out))
                have n19_ := Aside0.mk (gtB hg (pl BK371.out))
                have n20_ := Aside0.mk (ltB hg (pl BK379.out))
                have n21_ := Aside0.mk (gtB hg (pl BK379.out))
                clear BK341 BK342 BK364 BK365 BK371 BK379 HB; have BK341 := n0_; have BK342 := n1_; have BK364 := n2_; have BK365 := n3_; have BK371 := n4_; have BK379 := n5_; have HB := n6_; have BK385 := n7_; have GW385 := n8_; have GE385 := n9_; have NB341_385 := n10_; have NB385_341 := n11_; have NB342_385 := n12_; have NB385_342 := n13_; have NB364_385 := n14_; have NB385_364 := n15_; have NB365_385 := n16_; have NB385_365 := n17_; have NB371_385 := n18_; have NB385_371 := n19_; have NB379_385 := n20_; have NB385_379 := n21_; clear n0_ n1_ n2_ n3_ n4_ n5_ n6_ n7_ n8_ n9_ n10_ n11_ n12_ n13_ n14_ n15_ n16_ n17_ n18_ n19_ n20_ n21_ hb hbox hg
                refine hK.out _ _ ⟨gb385, (.pointer (some ⟨gb385, 0, none⟩)), (by rw [ha.out]; exact putSel_upk 9 hb_ rfl rfl rfl), (pl BK341.out), (pl BK342.out), (pl BK364.out), (pl BK365.out), (pl BK371.out), (pl BK379.out), (hbp HB.out), fun _ _ => (pl BK385.out), fun _ => GW385.out, fun _ => GE385.out, fun _ => NB341_385.out, fun _ => NB385_341.out, fun _ => NB342_385.out, fun _ => NB385_342.out, fun _ => NB364_385.out, fun _ => NB385_364.out, fun _ => NB365_385.out, fun _ => NB385_365.out, fun _ => NB371_385.out, fun _ => NB385_371.out, fun _ => NB379_385.out, fun _ => NB385_379.out, fun h0_ => absurd ((hoff 12 (by kernel_rfl)).symm.trans h0_) (by decide), fun _ => rfl⟩
               refine steps_cons ?_ ?_
               ·
                rintro b a w' ⟨gb385, m11_, ha, Q_BK341, Q_BK342, Q_BK364, Q_BK365, Q_BK371, Q_BK379, Q_HB, Q_BK385, Q_GW385, Q_GE385, Q_NB341_385, Q_NB385_341, Q_NB342_385, Q_NB385_342, Q_NB364_385, Q_NB385_364, Q_NB365_385, Q_NB385_365, Q_NB371_385, Q_NB385_371, Q_NB379_385, Q_NB385_379, Q_BK385_e12, Q_X11_⟩ hb_ hon hoff
                refine ⟨_, rfl, fun K hK => ?_⟩
                have e16 : a.tmps[16]? = some (m11_) := by rw [ha]; exact putSel_on (e := (11, 16, m11_)) 9 rfl rfl (hon 11 (by kernel_rfl)) rfl
                rw [Q_X11_ (hon 11 (by kernel_rfl))] at e16
                have e147 : a.tmps[147]? = some (.agg #[.int .i64 t382, .int .i64 t383]) := by rw [ha]; exact putSel_on (e := (9, 147, .agg #[.int .i64 t382, .int .i64 t383])) 7 rfl rfl (hon 9 (by kernel_rfl)) rfl
                replace ha := Aside0.mk ha
                have BK341 := Aside0.mk Q_BK341
                have BK342 := Aside0.mk Q_BK342
                have BK364 := Aside0.mk Q_BK364
                have BK365 := Aside0.mk Q_BK365
                have BK371 := Aside0.mk Q_BK371
                have BK379 := Aside0.mk Q_BK379
                have HB := Aside0.mk Q_HB
                have BK385 := Aside0.mk (Q_BK385 (hon 11 (by kernel_rfl)) hb_)
                have GW385 := Aside0.mk (Q_GW385 (hon 11 (by kernel_rfl)))
                have GE385 := Aside0.mk (Q_GE385 (hon 11 (by kernel_rfl)))
                have NB341_385 := Aside0.mk (Q_NB341_385 (hon 11 (by kernel_rfl)))
                have NB385_341 := Aside0.mk (Q_NB385_341 (hon 11 (by kernel_rfl)))
                have NB342_385 := Aside0.mk (Q_NB342_385 (hon 11 (by kernel_rfl)))
                have NB385_342 := Aside0.mk (Q_NB385_342 (hon 11 (by kernel_rfl)))
                have NB364_385 := Aside0.mk (Q_NB364_385 (hon 11 (by kernel_rfl)))
                have NB385_364 := Aside0.mk (Q_NB385_364 (hon 11 (by kernel_rfl)))
                have NB365_385 := Aside0.mk (Q_NB365_385 (hon 11 (by kernel_rfl)))
                have NB385_365 := Aside0.mk (Q_NB385_365 (hon 11 (by kernel_rfl)))
                have NB371_385 := Aside0.mk (Q_NB371_385 (hon 11 (by kernel_rfl)))
                have NB385_371 := Aside0.mk (Q_NB385_371 (hon 11 (by kernel_rfl)))
                have NB379_385 := Aside0.mk (Q_NB379_385 (hon 11 (by kernel_rfl)))
                have NB385_379 := Aside0.mk (Q_NB385_379 (hon 11 (by kernel_rfl)))
                have hs130 : w'.cell? ⟨gb385, 0, none⟩ = some (.int .i64 0) := (blk_cell BK385.out 0).trans rfl
                have hfs130 := blk_frozen BK385.out 0
                have hns130_0 := NB341_385.out
                have hns130_1 := NB342_385.out
                have hns130_2 := NB364_385.out
                have hns130_3 := NB365_385.out
                have hns130_4 := NB371_385.out
                have hns130_5 := NB379_385.out
                have hms130_0 := NB385_341.out
                have hms130_1 := NB385_342.out
                have hms130_2 := NB385_364.out
                have hms130_3 := NB385_365.out
                have hms130_4 := NB385_371.out
                have hms130_5 := NB385_379.out
                have hs131 : w'.cell? ⟨gb385, 1, none⟩ = some (.int .i64 0) := (blk_cell BK385.out 1).trans rfl
                have hfs131 := blk_frozen BK385.out 1
                have hns131_0 := NB341_385.out
                have hns131_1 := NB342_385.out
                have hns131_2 := NB364_385.out
                have hns131_3 := NB365_385.out
                have hns131_4 := NB371_385.out
                have hns131_5 := NB379_385.out
                have hms131_0 := NB385_341.out
                have hms131_1 := NB385_342.out
                have hms131_2 := NB385_364.out
                have hms131_3 := NB385_365.out
                have hms131_4 := NB385_371.out
                have hms131_5 := NB385_379.out
                refine skip_ (w1 := ?_) (by rfl) rfl ?_ ?_
                rotate_left
                ·
                 go_simp
                 rfl
                refine hK.out _ _ ⟨gb385, m11_, (by rw [ha.out]; exact putSel_none (v := undef) rfl), (plf BK341.out), (plf BK342.out), (plf BK364.out), (plf BK365.out), (plf BK371.out), (plf BK379.out), (hbp HB.out), fun _ h1_ => absurd ((up_self b 12).symm.trans h1_) (by decide), fun _ => GW385.out, fun _ => GE385.out, fun _ => NB341_385.out, fun _ => NB385_341.out, fun _ => NB342_385.out, fun _ => NB385_342.out, fun _ => NB364_385.out, fun _ => NB385_364.out, fun _ => NB365_385.out, fun _ => NB385_365.out, fun _ => NB371_385.out, fun _ => NB385_371.out, fun _ => NB379_385.out, fun _ => NB385_379.out, fun _ => (by (with_reducible repeat (first | refine blk_drewN ?_ _ | refine blk_drew ?_ | refine blk_alloc ?_ _)); refine blk_put (cs := #[.int .i64 t382, .int .i64 0]) ?_ 1 _ rfl; (with_reducible repeat (first | refine blk_drewN ?_ _ | refine blk_drew ?_ | refine blk_alloc ?_ _)); refine blk_put (cs := #[.int .i64 0, .int .i64 0]) ?_ 0 _ rfl; (with_reducible repeat (first | refine blk_drewN ?_ _ | refine blk_drew ?_ | refine blk_alloc ?_ _)); exact BK385.out), Q_X11_⟩
               refine steps_cons ?_ ?_
               ·
                rintro b a w' ⟨gb385, m11_, ha, Q_BK341, Q_BK342, Q_BK364, Q_BK365, Q_BK371, Q_BK379, Q_HB, Q_BK385, Q_GW385, Q_GE385, Q_NB341_385, Q_NB385_341, Q_NB342_385, Q_NB385_342, Q_NB364_385, Q_NB385_364, Q_NB365_385, Q_NB385_365, Q_NB371_385, Q_NB385_371, Q_NB379_385, Q_NB385_379, Q_BK385_e12, Q_X11_⟩ hb_ hon hoff
                refine ⟨_, rfl, fun K hK => ?_⟩
                have e148 : a.tmps[148]? = some (.int .i64 t384) := by rw [ha]; exact putSel_on (e := (10, 148, .int .i64 t384)) 8 rfl rfl (hon 10 (by kernel_rfl)) rfl
                replace ha := Aside0.mk ha
                have BK341 := Aside0.mk Q_BK341
                have BK342 := Aside0.mk Q_BK342
                have BK364 := Aside0.mk Q_BK364
                have BK365 := Aside0.mk Q_BK365
                have BK371 := Aside0.mk Q_BK371
                have BK379 := Aside0.mk Q_BK379
                have HB := Aside0.mk Q_HB
                have GW385 := Aside0.mk (Q_GW385 (hon 11 (by kernel_rfl)))
                have GE385 := Aside0.mk (Q_GE385 (hon 11 (by kernel_rfl)))
                have NB341_385 := Aside0.mk (Q_NB341_385 (hon 11 (by kernel_rfl)))
                have NB385_341 := Aside0.mk (Q_NB385_341 (hon 11 (by kernel_rfl)))
                have NB342_385 := Aside0.mk (Q_NB342_385 (hon 11 (by kernel_rfl)))
                have NB385_342 := Aside0.mk (Q_NB385_342 (hon 11 (by kernel_rfl)))
                have NB364_385 := Aside0.mk (Q_NB364_385 (hon 11 (by kernel_rfl)))
                have NB385_364 := Aside0.mk (Q_NB385_364 (hon 11 (by kernel_rfl)))
                have NB365_385 := Aside0.mk (Q_NB365_385 (hon 11 (by kernel_rfl)))
                have NB385_365 := Aside0.mk (Q_NB385_365 (hon 11 (by kernel_rfl)))
                have NB371_385 := Aside0.mk (Q_NB371_385 (hon 11 (by kernel_rfl)))
                have NB385_371 := Aside0.mk (Q_NB385_371 (hon 11 (by kernel_rfl)))
                have NB379_385 := Aside0.mk (Q_NB379_385 (hon 11 (by kernel_rfl)))
                have NB385_379 := Aside0.mk (Q_NB385_379 (hon 11 (by kernel_rfl)))
                have BK385 := Aside0.mk (Q_BK385_e12 (hon 12 (by kernel_rfl)))
                refine value_ (w1 := w') (v := .int .i64 t384) (by rfl) rfl ?_ ?_
                ·
                 go_simp
                 (try simp only [i64_w])
                 try rfl
                refine hK.out _ _ ⟨gb385, m11_, (by rw [ha.out]; exact putSel_upk 10 hb_ rfl rfl rfl), Q_BK341, Q_BK342, Q_BK364, Q_BK365, Q_BK371, Q_BK379, Q_HB, fun _ h1_ => absurd ((hon 12 (by kernel_rfl)).symm.trans h1_) (by decide), Q_GW385, Q_GE385, Q_NB341_385, Q_NB385_341, Q_NB342_385, Q_NB385_342, Q_NB364_385, Q_NB385_364, Q_NB365_385, Q_NB385_365, Q_NB371_385, Q_NB385_371, Q_NB379_385, Q_NB385_379, Q_BK385_e12, Q_X11_⟩
               exact steps_nil
              rintro b a w131 hall ⟨gb385, m11_, ha, Q_BK341, Q_BK342, Q_BK364, Q_BK365, Q_BK371, Q_BK379, Q_HB, Q_BK385, Q_GW385, Q_GE385, Q_NB341_385, Q_NB385_341, Q_NB342_385, Q_NB385_342, Q_NB364_385, Q_NB385_364, Q_NB365_385, Q_NB385_365, Q_NB371_385, Q_NB385_371, Q_NB379_385, Q_NB385_379, Q_BK385_e12, Q_X11_⟩
              clear BK341 BK342 BK364 BK365 BK371 BK379 HB
              have hb0_ := hall 0 (by kernel_rfl)
              have hb2_ := hall 2 (by kernel_rfl)
              have hb4_ := hall 4 (by kernel_rfl)
              have hb5_ := hall 5 (by kernel_rfl)
              have hb6_ := hall 6 (by kernel_rfl)
              have hb7_ := hall 7 (by kernel_rfl)
              have hb8_ := hall 8 (by kernel_rfl)
              have hb9_ := hall 9 (by kernel_rfl)
              have hb10_ := hall 10 (by kernel_rfl)
              have hb11_ := hall 11 (by kernel_rfl)
              have hb12_ := hall 12 (by kernel_rfl)
              have hb13_ := hall 13 (by kernel_rfl)
              subst ha
              obtain rfl := Q_X11_ hb11_
              simp only [putSel, hb0_, hb2_, hb4_, hb5_, hb6_, hb7_, hb8_, hb9_, hb10_, hb11_, hb12_, hb13_, if_true, Act.put, List.setIfInBounds_toArray, List.set_cons_zero, List.set_cons_succ]
              have BK341 := Aside0.mk Q_BK341
              clear Q_BK341
              have BK342 := Aside0.mk Q_BK342
              clear Q_BK342
              have BK364 := Aside0.mk Q_BK364
              clear Q_BK364
              have BK365 := Aside0.mk Q_BK365
              clear Q_BK365
              have BK371 := Aside0.mk Q_BK371
              clear Q_BK371
              have BK379 := Aside0.mk Q_BK379
              clear Q_BK379
              have HB := Aside0.mk Q_HB
              clear Q_HB Q_BK385
              have GW385 := Aside0.mk (Q_GW385 hb11_)
              clear Q_GW385
              have GE385 := Aside0.mk (Q_GE385 hb11_)
              clear Q_GE385
              have NB341_385 := Aside0.mk (Q_NB341_385 hb11_)
              clear Q_NB341_385
              have NB385_341 := Aside0.mk (Q_NB385_341 hb11_)
              clear Q_NB385_341
              have NB342_385 := Aside0.mk (Q_NB342_385 hb11_)
              clear Q_NB342_385
              have NB385_342 := Aside0.mk (Q_NB385_342 hb11_)
              clear Q_NB385_342
              have NB364_385 := Aside0.mk (Q_NB364_385 hb11_)
              clear Q_NB364_385
              have NB385_364 := Aside0.mk (Q_NB385_364 hb11_)
              clear Q_NB385_364
              have NB365_385 := Aside0.mk (Q_NB365_385 hb11_)
              clear Q_NB365_385
              have NB385_365 := Aside0.mk (Q_NB385_365 hb11_)
              clear Q_NB385_365
              have NB371_385 := Aside0.mk (Q_NB371_385 hb11_)
              clear Q_NB371_385
              have NB385_371 := Aside0.mk (Q_NB385_371 hb11_)
              clear Q_NB385_371
              have NB379_385 := Aside0.mk (Q_NB379_385 hb11_)
              clear Q_NB379_385
              have NB385_379 := Aside0.mk (Q_NB385_379 hb11_)
              clear Q_NB385_379
              have BK385 := Aside0.mk (Q_BK385_e12 hb12_)
              clear Q_BK385_e12 hall hb0_ hb2_ hb4_ hb5_ hb6_ hb7_ hb8_ hb9_ hb10_ hb11_ hb12_ hb13_
              have hnb132 := NB379_341.out
              have hnc132 := NB341_379.out
              have hnb133 := NB379_342.out
              have hnc133 := NB342_379.out
              have hnb134 := NB379_364.out
              have hnc134 := NB364_379.out
              have hnb135 := NB379_365.out
              have hnc135 := NB365_379.out
              have hnb136 := NB379_371.out
              have hnc136 := NB371_379.out
              have hnb137 := NB379_385.out
              have hnc137 := NB385_379.out
              have hcz138_0 : w131.cell? ⟨gb379, 0, none⟩ = some (.int .i64 t376) := (blk_cell BK379.out 0).trans rfl
              have hcz138_1 : w131.cell? ⟨gb379, 1, none⟩ = some (.int .i64 t377) := (blk_cell BK379.out 1).trans rfl
              have hfz138_0 := blk_frozen BK379.out 0
              have hfz138_1 := blk_frozen BK379.out 1
              have hnb139 := NB385_341.out
              have hnc139 := NB341_385.out
              have hnb140 := NB385_342.out
              have hnc140 := NB342_385.out
              have hnb141 := NB385_364.out
              have hnc141 := NB364_385.out
              have hnb142 := NB385_365.out
              have hnc142 := NB365_385.out
              have hnb143 := NB385_371.out
              have hnc143 := NB371_385.out
              have hcz144_0 : w131.cell? ⟨gb385, 0, none⟩ = some (.int .i64 t382) := (blk_cell BK385.out 0).trans rfl
              have hcz144_1 : w131.cell? ⟨gb385, 1, none⟩ = some (.int .i64 t383) := (blk_cell BK385.out 1).trans rfl
              have hfz144_0 := blk_frozen BK385.out 0
              have hfz144_1 := blk_frozen BK385.out 1
              try go_wp2_with (first | (go_at_call 19; (with_reducible refine (acmetop_armThread.calls kj53  true _ A115.out).mono ?_); rintro e w145 ⟨rfl, hb⟩; have n0_ := Aside0.mk (blk_below (pl BK341.out) hb); have n1_ := Aside0.mk (blk_below (pl BK342.out) hb); have n2_ := Aside0.mk (blk_below (pl BK364.out) hb); have n3_ := Aside0.mk (blk_below (pl BK365.out) hb); have n4_ := Aside0.mk (blk_below (pl BK371.out) hb); have n5_ := Aside0.mk (blk_below (pl BK379.out) hb); have n6_ := Aside0.mk (blk_below (pl BK385.out) hb); have n7_ := Aside0.mk (below_step (hbp HB.out) hb); clear BK341; clear BK342; clear BK364; clear BK365; clear BK371; clear BK379; clear BK385; clear HB; have BK341 := n0_; have BK342 := n1_; have BK364 := n2_; have BK365 := n3_; have BK371 := n4_; have BK379 := n5_; have BK385 := n6_; have HB := n7_; clear n0_ n1_ n2_ n3_ n4_ n5_ n6_ n7_; (try clear hb); (try clear hb2); (try clear hk); (try clear hi)) | (go_at_call 20; (with_reducible refine (acmetop_armBolt.calls  t387 _ A117.out).mono ?_); rintro e w146 ⟨rfl, hb⟩; have n0_ := Aside0.mk (blk_below (pl BK341.out) hb); have n1_ := Aside0.mk (blk_below (pl BK342.out) hb); have n2_ := Aside0.mk (blk_below (pl BK364.out) hb); have n3_ := Aside0.mk (blk_below (pl BK365.out) hb); have n4_ := Aside0.mk (blk_below (pl BK371.out) hb); have n5_ := Aside0.mk (blk_below (pl BK379.out) hb); have n6_ := Aside0.mk (blk_below (pl BK385.out) hb); have n7_ := Aside0.mk (below_step (hbp HB.out) hb); clear BK341; clear BK342; clear BK364; clear BK365; clear BK371; clear BK379; clear BK385; clear HB; have BK341 := n0_; have BK342 := n1_; have BK364 := n2_; have BK365 := n3_; have BK371 := n4_; have BK379 := n5_; have BK385 := n6_; have HB := n7_; clear n0_ n1_ n2_ n3_ n4_ n5_ n6_ n7_; (try clear hb); (try clear hb2); (try clear hk); (try clear hi)))
              go_ret
              exact ⟨by first | rfl | (simp [errW_none, errW_some] <;> rfl) | (simp [*, errW_none, errW_some] <;> rfl), by repeat (first | (with_reducible first | exact HB.out | apply below_alloc | apply pw_below_drewN | apply below_drew1 | refine below_set ?_ GE341.out | refine below_set ?_ GE342.out | refine below_set ?_ GE364.out | refine below_set ?_ GE365.out | refine below_set ?_ GE371.out | refine below_set ?_ GE379.out | refine below_set ?_ GE385.out) | exact HB.out)⟩
             ·
              replace c116 := Bool.eq_false_iff.mpr c116
              subst c116
              have H1 : (none) = some r := by rw [if_neg (show ¬ (false = true) by decide)] at H; exact H
              clear H
              have H := H1
              clear H1
              exact absurd H (by simp)
            ·
             rw [if_neg c114] at H
             exact absurd H (by simp)
           ·
            rw [if_neg c113] at H
            exact absurd H (by simp)
          ·
           rw [if_neg c112] at H
           exact absurd H (by simp)

end Go.Proofs.Ytbnbikkhnjcmdab.PBT
