/- acmetop.TopBoltThread: whatever the input, the law returns true. Conditions: none. -/
import Derived.Test.YtbnbikkhnjcmdabRows
import Derived.Test.YtbnbikkhnjcmdabJBT
import Derived.Test.YtbnbikkhnjcmdabPBTx10
import Derived.Test.YtbnbikkhnjcmdabPureBT
import Derived.Test.YtbnbikkhnjcmdabK
import Derived.WalkKit
import Derived.ProofKit
import Derived.OpenShut
import Derived.ShutString
import Derived.ChangeOld
import Derived.Below
import Derived.SizedLaws
import Derived.Carry
namespace Go.Proofs.Ytbnbikkhnjcmdab.topBoltThread
open Go.ChangeShapes Go.WideShapes Go.ChangeAt Go.RowKit Go.Proofs.Ytbnbikkhnjcmdab.PBT
set_option linter.unusedVariables false
theorem own : ownKnob Try.prog.godebug = none := by kernel_rfl
theorem laidOut : laidOutB Try.prog = true := by kernel_rfl
set_option maxRecDepth 100000 in
set_option maxHeartbeats 4000000 in
theorem lifted (os : Os) (started : os.Started) (H : Type) (enc : TypeId × Value → H) :
    ReturnsInHanded {} Try.checked os 3 .any (Rows.topBoltThreadSpec.pre6 enc Try.prog Try.f3 Rows.topBoltThreadRow.domain false) (Rows.topBoltThreadSpec.post enc Try.prog Try.f3 false true false false) := by
  refine returnsInHanded_of_change_sized (C := Try.checked) own started (by kernel_rfl) Try.func3
    (ChangeSpec.witness6 (enc := enc) (C := Try.checked) false ⟨#[], #[.agg #[.int .u8 0, .int .u8 0, .int .u8 0, .int .u8 0, .int .u8 0, .int .u8 0, .int .u8 0, .int .u8 0, .int .u8 0], .agg #[.int .u16 0, .int .u16 0, .int .u16 0, .int .i8 0, .int .i8 0], .int .u16 0], []⟩ 8 (by kernel_rfl) (by kernel_rfl) (by kernel_rfl) (by kernel_rfl)) ?_
  intro W base args ds gs before hval0 hW hcnd hsz0 _
  have hval : ∀ (j : Nat) t v, Try.f3.params[j]? = some t → args[j]? = some v → Value.okWide Try.prog W .any base t v := hval0
  have hW' := hW
  obtain ⟨p, q, hA0, hV, rfl, hfz, hnd⟩ := hW
  have hA : DataW.TrodAll enc Try.prog W 0 (fun _ => true) true Try.f3.params.toList args.toList ds p := hA0
  rw [Try.params3] at hA hval
  obtain ⟨v0, vs0, d0, ds0, p0, q0, hargs, rfl, rfl, h0, r0⟩ := trodAll_cons hA
  obtain ⟨v1, vs1, d1, ds1, p1, q1, rfl, rfl, rfl, h1, r1⟩ := trodAll_cons r0
  obtain ⟨v2, vs2, d2, ds2, p2, q2, rfl, rfl, rfl, h2, r2⟩ := trodAll_cons r1
  obtain ⟨rfl, rfl, rfl⟩ := trodAll_nil r2
  obtain rfl : args = #[v0, v1, v2] := by cases args; simp_all
  obtain ⟨rfl, rfl⟩ := trodVars_none hV
  have k0 := h0
  have lt0 : ∀ x ∈ p0, x.block < W.heap.size := by obtain ⟨m, hm⟩ := k0; exact DataW.trod_lt m _ _ _ hm
  obtain ⟨cs0, rfl, hc0_0⟩ := cells_open (ts := [5, 5, 5, 5, 5, 5, 5, 5, 5]) (.inl ⟨_, Try.underlying26⟩) (by kernel_rfl) (by kernel_rfl) (hval 0 26 v0 rfl rfl)
  obtain ⟨c0_0, cs0_0, rfl, hd0_0, hc0_1⟩ := cells_cons hc0_0
  obtain ⟨a0_0, rfl, w0_0⟩ := cell_int Try.underlying5 hd0_0
  obtain ⟨c0_1, cs0_1, rfl, hd0_1, hc0_2⟩ := cells_cons hc0_1
  obtain ⟨a0_1, rfl, w0_1⟩ := cell_int Try.underlying5 hd0_1
  obtain ⟨c0_2, cs0_2, rfl, hd0_2, hc0_3⟩ := cells_cons hc0_2
  obtain ⟨a0_2, rfl, w0_2⟩ := cell_int Try.underlying5 hd0_2
  obtain ⟨c0_3, cs0_3, rfl, hd0_3, hc0_4⟩ := cells_cons hc0_3
  obtain ⟨a0_3, rfl, w0_3⟩ := cell_int Try.underlying5 hd0_3
  obtain ⟨c0_4, cs0_4, rfl, hd0_4, hc0_5⟩ := cells_cons hc0_4
  obtain ⟨a0_4, rfl, w0_4⟩ := cell_int Try.underlying5 hd0_4
  obtain ⟨c0_5, cs0_5, rfl, hd0_5, hc0_6⟩ := cells_cons hc0_5
  obtain ⟨a0_5, rfl, w0_5⟩ := cell_int Try.underlying5 hd0_5
  obtain ⟨c0_6, cs0_6, rfl, hd0_6, hc0_7⟩ := cells_cons hc0_6
  obtain ⟨a0_6, rfl, w0_6⟩ := cell_int Try.underlying5 hd0_6
  obtain ⟨c0_7, cs0_7, rfl, hd0_7, hc0_8⟩ := cells_cons hc0_7
  obtain ⟨a0_7, rfl, w0_7⟩ := cell_int Try.underlying5 hd0_7
  obtain ⟨c0_8, cs0_8, rfl, hd0_8, hc0_9⟩ := cells_cons hc0_8
  obtain ⟨a0_8, rfl, w0_8⟩ := cell_int Try.underlying5 hd0_8
  obtain rfl := cells_nil hc0_9
  have k1 := h1
  have lt1 : ∀ x ∈ p1, x.block < W.heap.size := by obtain ⟨m, hm⟩ := k1; exact DataW.trod_lt m _ _ _ hm
  obtain ⟨cs1, rfl, hc1_0⟩ := cells_open (ts := [27, 27, 27, 28, 28]) (.inl ⟨_, Try.underlying31⟩) (by kernel_rfl) (by kernel_rfl) (hval 1 31 v1 rfl rfl)
  obtain ⟨c1_0, cs1_0, rfl, hd1_0, hc1_1⟩ := cells_cons hc1_0
  obtain ⟨a1_0, rfl, w1_0⟩ := cell_int Try.underlying27 hd1_0
  obtain ⟨c1_1, cs1_1, rfl, hd1_1, hc1_2⟩ := cells_cons hc1_1
  obtain ⟨a1_1, rfl, w1_1⟩ := cell_int Try.underlying27 hd1_1
  obtain ⟨c1_2, cs1_2, rfl, hd1_2, hc1_3⟩ := cells_cons hc1_2
  obtain ⟨a1_2, rfl, w1_2⟩ := cell_int Try.underlying27 hd1_2
  obtain ⟨c1_3, cs1_3, rfl, hd1_3, hc1_4⟩ := cells_cons hc1_3
  obtain ⟨a1_3, rfl, w1_3⟩ := cell_int Try.underlying28 hd1_3
  obtain ⟨c1_4, cs1_4, rfl, hd1_4, hc1_5⟩ := cells_cons hc1_4
  obtain ⟨a1_4, rfl, w1_4⟩ := cell_int Try.underlying28 hd1_4
  obtain rfl := cells_nil hc1_5
  have k2 := h2
  have lt2 : ∀ x ∈ p2, x.block < W.heap.size := by obtain ⟨m, hm⟩ := k2; exact DataW.trod_lt m _ _ _ hm
  obtain ⟨a2, rfl, w2⟩ := cell_int Try.underlying27 (value_cell_int Try.underlying27 (hval 2 27 v2 rfl rfl))
  clear hA0 hval0 hsz0 hA hval
  obtain ⟨k, h⟩ := Pure.TopBoltThread a0_0 a0_1 a0_2 a0_3 a0_4 a0_5 a0_6 a0_7 a0_8 a1_0 a1_1 a1_2 a1_3 a1_4 a2 w0_0 w0_1 w0_2 w0_3 w0_4 w0_5 w0_6 w0_7 w0_8 w1_0 w1_1 w1_2 w1_3 w1_4 w2
  refine (acmetop_TopBoltThread.calls k a0_0 a0_1 a0_2 a0_3 a0_4 a0_5 a0_6 a0_7 a0_8 a1_0 a1_1 a1_2 a1_3 a1_4 a2 true W h).mono fun e W' ⟨he, bel⟩ => ?_
  subst he
  exact ⟨_, rfl, _, _, _, [], _, [], hW', trodAll_mk1 (shut_bool Try.underlying4 _), (trodAll_cons_mk (Below.trod laidOut (by kernel_rfl) (of_decide_eq_true (by kernel_rfl)) k0 bel lt0) (trodAll_cons_mk (Below.trod laidOut (by kernel_rfl) (of_decide_eq_true (by kernel_rfl)) k1 bel lt1) (trodAll_cons_mk (Below.trod laidOut (by kernel_rfl) (of_decide_eq_true (by kernel_rfl)) k2 bel lt2) trodAll_mk0))), rfl, bel.frame _, fun h => by cases h⟩
/-- Two closed facts, each by itself: together they are too much for the kernel's memory. -/
theorem named_ : Try.pinned.checked.prog.funcNamed Rows.topBoltThreadRow.func = some 3 := by kernel_rfl
theorem over : Rows.topBoltThreadRow.holds Try.pinned (OpenSpec.ofChange Rows.topBoltThreadSpec) :=
  OpenClaim.holds_of_wide 3 Try.f3 rfl rfl rfl rfl rfl rfl rfl ⟨rfl, rfl, rfl, rfl, rfl⟩ rfl rfl rfl rfl rfl named_ Try.func3 joined_
    (of_decide_eq_true (by kernel_rfl)) (by unfold Func.isWrapper; first | (rw [if_pos (by decide +kernel)]; kernel_rfl) | (rw [if_neg (by decide +kernel)]; exact ⟨rfl, rfl⟩))
    (fun os started H enc _ => lifted os started H enc)
theorem proved : Rows.TopBoltThreadSaid := over
#print axioms proved
end Go.Proofs.Ytbnbikkhnjcmdab.topBoltThread
namespace Go.Proofs.Ytbnbikkhnjcmdab
/-- The row, under a short name, for the claim. -/
theorem topBoltThread_holds : Rows.TopBoltThreadSaid := topBoltThread.proved
end Go.Proofs.Ytbnbikkhnjcmdab
