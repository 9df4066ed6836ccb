import Derived.Test.YtbnbikkhnjcmdabPBTx0
import Derived.Test.YtbnbikkhnjcmdabPBTx8a
import Derived.Test.YtbnbikkhnjcmdabPBTx8b
import Derived.Test.YtbnbikkhnjcmdabPBTx8c
import Derived.Test.YtbnbikkhnjcmdabPBTx8d
import Derived.Test.YtbnbikkhnjcmdabPBTx6
import Derived.Test.YtbnbikkhnjcmdabPBTx7
-- Written by a program of this session (wip/pr/drive.py).
namespace Go.Proofs.Ytbnbikkhnjcmdab.PBT
open Go.RowKit Go.Proofs.YtbnbikkhnjcmdabW.PrintWords Go.Proofs.YtbnbikkhnjcmdabW.PrintLast Go.Proofs.YtbnbikkhnjcmdabW.PrintMore
attribute [local go_sem] max2_int min2_int max_two min_two max_three min_three max_four min_four   -- for this text's walks alone
set_option linter.unusedVariables false
set_option linter.unusedSimpArgs false
def bolt_Right.f (a0_0 : Int) (a0_1 : Int) (a0_2 : Int) (a0_3 : Int) (a0_4 : Int) (a0_5 : Int) (a0_6 : Int) (a0_7 : Int) (a0_8 : Int) (a0_9 : Int) (a0_10 : Int) (a0_11 : Int) (a0_12 : Int) (a1_0 : Int) (a1_1 : Int) (a2_0 : Int) (a2_1 : Int) : Option (Int × Int × Int) := (bolt_open.f a0_0 a0_1 a0_2 a0_3 a0_4 a0_5 a0_6 a0_7 a0_8 a0_9 a0_10 a0_11 a0_12 ([] : List (S51))).bind fun bt287 => (if bt287.2.2.2.2.2.2.2.2.2.2.2.2.2 = 0 then ((bolt_isForce.f a1_0 a1_1).bind fun t302 => (if t302 = true then ((bolt_isSpan.f a2_0 a2_1 (-10000000000000) 10000000000000).bind fun t303 => (if t303 = true then ((bolt_kind_within.f bt287.1 bt287.2.1 bt287.2.2.1 bt287.2.2.2.1 bt287.2.2.2.2.1 bt287.2.2.2.2.2.1 bt287.2.2.2.2.2.2.1 bt287.2.2.2.2.2.2.2.1 bt287.2.2.2.2.2.2.2.2.1 bt287.2.2.2.2.2.2.2.2.2.1 bt287.2.2.2.2.2.2.2.2.2.2.1 bt287.2.2.2.2.2.2.2.2.2.2.2.1 bt287.2.2.2.2.2.2.2.2.2.2.2.2.1 a1_0 a1_1).bind fun bt304 => ((bolt_kind_arms.f bt287.1 bt287.2.1 bt287.2.2.1 bt287.2.2.2.1 bt287.2.2.2.2.1 bt287.2.2.2.2.2.1 bt287.2.2.2.2.2.2.1 bt287.2.2.2.2.2.2.2.1 bt287.2.2.2.2.2.2.2.2.1 bt287.2.2.2.2.2.2.2.2.2.1 bt287.2.2.2.2.2.2.2.2.2.2.1 bt287.2.2.2.2.2.2.2.2.2.2.2.1 bt287.2.2.2.2.2.2.2.2.2.2.2.2.1).bind fun bt306 => ((bolt_up.f (wrap64 (bt304.1 * bt306.2)) 1000).bind fun t310 => ((bolt_up.f (wrap64 ((wrap64 (bt304.2 + 1)) * bt306.1)) 1000).bind fun t311 => (if (wrap64 ((wrap64 (t311 - 1)) - a2_1)) < 10000000000000 then (if t310 > 0 then (if (mx 0 (wrap64 (t310 - a2_0))) > (wrap64 ((wrap64 (t311 - 1)) - a2_1)) then (none) else (some (mx 0 (wrap64 (t310 - a2_0)), wrap64 ((wrap64 (t311 - 1)) - a2_1), 0))) else (if 0 > (wrap64 ((wrap64 (t311 - 1)) - a2_1)) then (none) else (some (0, wrap64 ((wrap64 (t311 - 1)) - a2_1), 0)))) else (if t310 > 0 then (if (mx 0 (wrap64 (t310 - a2_0))) > 10000000000000 then (none) else (some (mx 0 (wrap64 (t310 - a2_0)), 10000000000000, 0))) else (if 0 > 10000000000000 then (none) else (some (0, 10000000000000, 0))))))))) else (none))) else (none))) else (none))
theorem ite_some_ {α : Type} {c : Prop} [Decidable c] {x : Option α} {r : α} (h : (if c then x else none) = some r) : c ∧ x = some r := by split at h <;> simp_all
theorem ite_two_ {α : Type} {c : Prop} [Decidable c] {x y : Option α} {r : α} (h : (if c then x else y) = some r) : (c ∧ x = some r) ∨ (¬ c ∧ y = some r) := by split at h <;> simp_all
set_option maxRecDepth 100000 in
theorem bolt_Right.ends (a0_0 : Int) (a0_1 : Int) (a0_2 : Int) (a0_3 : Int) (a0_4 : Int) (a0_5 : Int) (a0_6 : Int) (a0_7 : Int) (a0_8 : Int) (a0_9 : Int) (a0_10 : Int) (a0_11 : Int) (a0_12 : Int) (a1_0 : Int) (a1_1 : Int) (a2_0 : Int) (a2_1 : Int) (r1 : Int) (r2 : Int) (r3 : Int) (h : bolt_Right.f a0_0 a0_1 a0_2 a0_3 a0_4 a0_5 a0_6 a0_7 a0_8 a0_9 a0_10 a0_11 a0_12 a1_0 a1_1 a2_0 a2_1 = some (r1, r2, r3)) : bolt_Right.e0 a0_0 a0_1 a0_2 a0_3 a0_4 a0_5 a0_6 a0_7 a0_8 a0_9 a0_10 a0_11 a0_12 a1_0 a1_1 a2_0 a2_1 = some (r1, r2, r3) ∨ bolt_Right.e1 a0_0 a0_1 a0_2 a0_3 a0_4 a0_5 a0_6 a0_7 a0_8 a0_9 a0_10 a0_11 a0_12 a1_0 a1_1 a2_0 a2_1 = some (r1, r2, r3) ∨ bolt_Right.e2 a0_0 a0_1 a0_2 a0_3 a0_4 a0_5 a0_6 a0_7 a0_8 a0_9 a0_10 a0_11 a0_12 a1_0 a1_1 a2_0 a2_1 = some (r1, r2, r3) ∨ bolt_Right.e3 a0_0 a0_1 a0_2 a0_3 a0_4 a0_5 a0_6 a0_7 a0_8 a0_9 a0_10 a0_11 a0_12 a1_0 a1_1 a2_0 a2_1 = some (r1, r2, r3) := by
  unfold bolt_Right.f at h
  obtain ⟨_, h1, h⟩ := Option.bind_eq_some_iff.mp h
  obtain ⟨h2, h⟩ := ite_some_ h
  obtain ⟨_, h3, h⟩ := Option.bind_eq_some_iff.mp h
  obtain ⟨h4, h⟩ := ite_some_ h
  obtain ⟨_, h5, h⟩ := Option.bind_eq_some_iff.mp h
  obtain ⟨h6, h⟩ := ite_some_ h
  obtain ⟨_, h7, h⟩ := Option.bind_eq_some_iff.mp h
  obtain ⟨_, h8, h⟩ := Option.bind_eq_some_iff.mp h
  obtain ⟨_, h9, h⟩ := Option.bind_eq_some_iff.mp h
  obtain ⟨_, h10, h⟩ := Option.bind_eq_some_iff.mp h
  rcases ite_two_ h with ⟨c4, h⟩ | ⟨c4, h⟩ <;> rcases ite_two_ h with ⟨c5, h⟩ | ⟨c5, h⟩
  · refine Or.inl ?_
    unfold bolt_Right.e0
    exact Option.bind_eq_some_iff.mpr ⟨_, h1, (if_pos h2).trans (Option.bind_eq_some_iff.mpr ⟨_, h3, (if_pos h4).trans (Option.bind_eq_some_iff.mpr ⟨_, h5, (if_pos h6).trans (Option.bind_eq_some_iff.mpr ⟨_, h7, Option.bind_eq_some_iff.mpr ⟨_, h8, Option.bind_eq_some_iff.mpr ⟨_, h9, Option.bind_eq_some_iff.mpr ⟨_, h10, (if_pos c4).trans ((if_pos c5).trans h)⟩⟩⟩⟩)⟩)⟩)⟩
  · refine Or.inr <| Or.inl ?_
    unfold bolt_Right.e1
    exact Option.bind_eq_some_iff.mpr ⟨_, h1, (if_pos h2).trans (Option.bind_eq_some_iff.mpr ⟨_, h3, (if_pos h4).trans (Option.bind_eq_some_iff.mpr ⟨_, h5, (if_pos h6).trans (Option.bind_eq_some_iff.mpr ⟨_, h7, Option.bind_eq_some_iff.mpr ⟨_, h8, Option.bind_eq_some_iff.mpr ⟨_, h9, Option.bind_eq_some_iff.mpr ⟨_, h10, (if_pos c4).trans ((if_neg c5).trans h)⟩⟩⟩⟩)⟩)⟩)⟩
  · refine Or.inr <| Or.inr <| Or.inl ?_
    unfold bolt_Right.e2
    exact Option.bind_eq_some_iff.mpr ⟨_, h1, (if_pos h2).trans (Option.bind_eq_some_iff.mpr ⟨_, h3, (if_pos h4).trans (Option.bind_eq_some_iff.mpr ⟨_, h5, (if_pos h6).trans (Option.bind_eq_some_iff.mpr ⟨_, h7, Option.bind_eq_some_iff.mpr ⟨_, h8, Option.bind_eq_some_iff.mpr ⟨_, h9, Option.bind_eq_some_iff.mpr ⟨_, h10, (if_neg c4).trans ((if_pos c5).trans h)⟩⟩⟩⟩)⟩)⟩)⟩
  · refine Or.inr <| Or.inr <| Or.inr ?_
    unfold bolt_Right.e3
    exact Option.bind_eq_some_iff.mpr ⟨_, h1, (if_pos h2).trans (Option.bind_eq_some_iff.mpr ⟨_, h3, (if_pos h4).trans (Option.bind_eq_some_iff.mpr ⟨_, h5, (if_pos h6).trans (Option.bind_eq_some_iff.mpr ⟨_, h7, Option.bind_eq_some_iff.mpr ⟨_, h8, Option.bind_eq_some_iff.mpr ⟨_, h9, Option.bind_eq_some_iff.mpr ⟨_, h10, (if_neg c4).trans ((if_neg c5).trans h)⟩⟩⟩⟩)⟩)⟩)⟩
theorem bolt_Right.calls (a0_0 : Int) (a0_1 : Int) (a0_2 : Int) (a0_3 : Int) (a0_4 : Int) (a0_5 : Int) (a0_6 : Int) (a0_7 : Int) (a0_8 : Int) (a0_9 : Int) (a0_10 : Int) (a0_11 : Int) (a0_12 : Int) (a1_0 : Int) (a1_1 : Int) (a2_0 : Int) (a2_1 : Int) (r1 : Int) (r2 : Int) (r3 : Int) (w : World) (h : bolt_Right.f a0_0 a0_1 a0_2 a0_3 a0_4 a0_5 a0_6 a0_7 a0_8 a0_9 a0_10 a0_11 a0_12 a1_0 a1_1 a2_0 a2_1 = some (r1, r2, r3)) :
  Calls Try.prog 66 #[.agg #[.int .i64 a0_0, .int .i64 a0_1, .int .i64 a0_2, .int .i64 a0_3, .int .i64 a0_4, .int .i64 a0_5, .int .i64 a0_6, .int .i64 a0_7, .int .i64 a0_8, .int .i64 a0_9, .int .i64 a0_10, .int .i64 a0_11, .int .i64 a0_12], .agg #[.int .i64 a1_0, .int .i64 a1_1], .agg #[.int .i64 a2_0, .int .i64 a2_1]] w fun e w' => e = .returned (.tuple #[.agg #[.int .i64 r1, .int .i64 r2], .int .i64 r3]) ∧ Below w.heap.size w w' := by
 rcases bolt_Right.ends a0_0 a0_1 a0_2 a0_3 a0_4 a0_5 a0_6 a0_7 a0_8 a0_9 a0_10 a0_11 a0_12 a1_0 a1_1 a2_0 a2_1 r1 r2 r3 h with h | h | h | h
 · exact bolt_Right.c0 a0_0 a0_1 a0_2 a0_3 a0_4 a0_5 a0_6 a0_7 a0_8 a0_9 a0_10 a0_11 a0_12 a1_0 a1_1 a2_0 a2_1 r1 r2 r3 w h
 · exact bolt_Right.c1 a0_0 a0_1 a0_2 a0_3 a0_4 a0_5 a0_6 a0_7 a0_8 a0_9 a0_10 a0_11 a0_12 a1_0 a1_1 a2_0 a2_1 r1 r2 r3 w h
 · exact bolt_Right.c2 a0_0 a0_1 a0_2 a0_3 a0_4 a0_5 a0_6 a0_7 a0_8 a0_9 a0_10 a0_11 a0_12 a1_0 a1_1 a2_0 a2_1 r1 r2 r3 w h
 · exact bolt_Right.c3 a0_0 a0_1 a0_2 a0_3 a0_4 a0_5 a0_6 a0_7 a0_8 a0_9 a0_10 a0_11 a0_12 a1_0 a1_1 a2_0 a2_1 r1 r2 r3 w h
end Go.Proofs.Ytbnbikkhnjcmdab.PBT
