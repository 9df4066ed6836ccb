/- The plain law. -/
import Derived.Test.YtbnbikkhnjcmdabPBTx10
namespace Go.Proofs.Ytbnbikkhnjcmdab.Pure
open Go.RowKit Go.Proofs.Ytbnbikkhnjcmdab.PBT Go.Proofs.YtbnbikkhnjcmdabW.PrintWords Go.Proofs.YtbnbikkhnjcmdabW.PrintLast Go.Proofs.YtbnbikkhnjcmdabW.PrintMore
set_option linter.unusedVariables false
set_option linter.unusedSimpArgs false
theorem w64 {x : Int} (h1 : -9223372036854775808 ≤ x) (h2 : x ≤ 9223372036854775807) : wrap64 x = x := by unfold wrap64; omega
theorem mx_eq (a b : Int) : mx a b = max a b := by unfold mx; omega
theorem mn_eq (a b : Int) : mn a b = min a b := by unfold mn; omega
theorem prod_in {a b A B C : Int} (h0 : 0 ≤ a) (h1 : a ≤ A) (g0 : 0 ≤ b) (g1 : b ≤ B) (hC : A * B = C) : 0 ≤ a * b ∧ a * b ≤ C := by
  have := Int.mul_le_mul h1 g1 g0 (Int.le_trans h0 h1)
  exact ⟨Int.mul_nonneg h0 g0, by omega⟩
theorem any_one (lo hi x : Int) (h1 : lo ≤ x) (h2 : x ≤ hi) : (!anyBad lo hi [x]) = true := by
  rw [any1]; simp [ok1, h1, h2]
theorem any_two (lo hi x y : Int) (h1 : lo ≤ x) (h2 : x ≤ hi) (h3 : lo ≤ y) (h4 : y ≤ hi) : (!anyBad lo hi [x, y]) = true := by
  rw [any2]; simp [ok2, h1, h2, h3, h4]
theorem u8_in {a : Int} (h : (Lit.int .u8 a).wf = true) : 0 ≤ a ∧ a ≤ 255 := by
  simp [Lit.wf, IntKind.min, IntKind.max, IntKind.signed, IntKind.bits] at h; omega
theorem u16_in {a : Int} (h : (Lit.int .u16 a).wf = true) : 0 ≤ a ∧ a ≤ 65535 := by
  simp [Lit.wf, IntKind.min, IntKind.max, IntKind.signed, IntKind.bits] at h; omega
theorem i8_in {a : Int} (h : (Lit.int .i8 a).wf = true) : -128 ≤ a ∧ a ≤ 127 := by
  simp [Lit.wf, IntKind.min, IntKind.max, IntKind.signed, IntKind.bits] at h; omega
theorem i64_in {a : Int} (h : (Lit.int .i64 a).wf = true) : -9223372036854775808 ≤ a ∧ a ≤ 9223372036854775807 := by
  simp [Lit.wf, IntKind.min, IntKind.max, IntKind.signed, IntKind.bits] at h; omega

theorem rounds_up {α : Type} {f : Nat → Option α} {r : α} (hm : ∀ k, LeO (f k) (f (k + 1))) {K : Nat} (h : f K = some r) : ∀ k, K ≤ k → f k = some r := by
  intro k hk
  obtain ⟨d, rfl⟩ : ∃ d, k = K + d := ⟨k - K, by omega⟩
  clear hk
  induction d with
  | zero => exact h
  | succ d ih => exact hm _ _ ih

theorem width_eq {p l r a b s t y : Int} {lh : Bool} (hp : 0 ≤ p ∧ p ≤ 200000) (hl : 0 ≤ l ∧ l ≤ 3000) (hr : 0 ≤ r ∧ r ≤ 3000) (hy : -200000 ≤ y ∧ y ≤ 200000) : thread_form_width.f p l r a b s lh t y = some (1000 * p - 2 * y * (l + r)) := by
  unfold thread_form_width.f thread_form_leans.f
  have h1 : -2400000000 ≤ 2 * y * (l + r) ∧ 2 * y * (l + r) ≤ 2400000000 := by
    by_cases h : 0 ≤ y
    · have := prod_in (a := 2 * y) (b := l + r) (A := 400000) (B := 6000) (by omega) (by omega) (by omega) (by omega) rfl; omega
    · have := prod_in (a := 2 * (-y)) (b := l + r) (A := 400000) (B := 6000) (by omega) (by omega) (by omega) (by omega) rfl
      have e : 2 * -y * (l + r) = -(2 * y * (l + r)) := by rw [Int.mul_neg, Int.neg_mul]
      omega
  simp only [Option.bind_some]
  rw [w64 (x := l + r) (by omega) (by omega), w64 (x := 2 * y) (by omega) (by omega), w64 (x := 1000 * p) (by omega) (by omega), w64 (x := 2 * y * (l + r)) (by omega) (by omega), w64 (by omega) (by omega)]
theorem check_ok {p l r a b s t : Int} {lh : Bool} (hp : 100 ≤ p ∧ p ≤ 200000) (hl : 0 ≤ l ∧ l ≤ 3000) (hr : 0 ≤ r ∧ r ≤ 3000) (ha : 0 ≤ a ∧ a ≤ 200000) (hb : 0 ≤ b ∧ b ≤ 200000) (hab : 1 ≤ a + b) (hs : 1 ≤ s ∧ s ≤ 8) (ht : 0 ≤ t ∧ t ≤ 100)
    (h1 : 2 * a * (l + r) ≤ 1000 * p) (h2 : 2 * b * (l + r) ≤ 1000 * p) : thread_Check.f p l r a b s lh t = some 0 := by
  unfold thread_Check.f thErr
  rw [if_pos]
  simp only [thOk, ok1, ok2, Bool.and_eq_true, decide_eq_true_eq]
  refine ⟨⟨⟨⟨⟨⟨⟨?_, ?_⟩, ?_⟩, ?_⟩, ?_⟩, ?_⟩, ?_⟩, ?_⟩ <;> first | omega | (unfold thW; omega)
theorem open_ok {p l r a b s t : Int} {lh : Bool} (h : thread_Check.f p l r a b s lh t = some 0) : thread_open.f p l r a b s lh t = some (p, l, r, a, b, s, lh, t, 0) := by
  unfold thread_open.f; rw [h]; rfl

theorem ratio_whole (k : Nat) {q : Int} (h0 : -9000000000 ≤ q) (h1 : q ≤ 9000000000) : thread_ratio.f (k + 2) (1000000 * q) 1000000 = some (q, 1) := by
  unfold thread_ratio.f thread_gcd.f
  simp only [thread_gcd.l0]
  rw [if_neg (by decide), show Int.tmod (1000000 * q) 1000000 = 0 from Int.mul_tmod_right _ _, if_pos rfl]
  simp only [Option.bind_some]
  rw [show mx 1000000 (wrap64 (-1000000)) = 1000000 from by decide +kernel, if_neg (by decide), Int.mul_tdiv_cancel_left _ (by decide), w64 (by omega) (by omega)]
  rw [show wrap64 (Int.tdiv 1000000 1000000) = 1 from by decide +kernel]

theorem armThread_ok : ∀ k, 20 ≤ k → acmetop_armThread.f k = some true := rounds_up acmetop_armThread.mono (by decide +kernel)
theorem armBolt_ok : acmetop_armBolt.f = some true := by decide +kernel
theorem span_eq (a b : Int) : acmetop_armSpan.f a b = some (a, b) := rfl

theorem force_angle {ld th hd t0 t1 h0 h1 s0 s1 p0 p1 y0 y1 a : Int} (hk : kOk ld th hd t0 t1 h0 h1 s0 s1 p0 p1 y0 y1 = true) (ha : 0 ≤ a ∧ a ≤ 100000) :
    bolt_Force.f ld th hd t0 t1 h0 h1 s0 s1 p0 p1 y0 y1 2 0 0 a a 0 0 = some (s0 * a / 1000, s1 * a / 1000, 0) := by
  have hw : wOk 2 0 0 a a 0 0 = true := by simp [wOk, okS, ha.1, ha.2]
  unfold bolt_Force.f bolt_open.f
  simp only [Option.bind_some]
  rw [if_pos (by simp [oErr, hk, bolt_open.ok, hw])]
  unfold bolt_kind_force.f
  rw [if_pos (by rw [hk, hw]; rfl)]
  simp [fLo, fHi, oErr, hk, bolt_open.ok, hw]
theorem force_stretch {ld th hd t0 t1 h0 h1 s0 s1 p0 p1 y0 y1 x : Int} (hk : kOk ld th hd t0 t1 h0 h1 s0 s1 p0 p1 y0 y1 = true) (hx : 0 ≤ x ∧ x ≤ 100000) :
    bolt_Force.f ld th hd t0 t1 h0 h1 s0 s1 p0 p1 y0 y1 3 0 0 0 0 x x = some (p0 * x, p1 * x, 0) := by
  have hw : wOk 3 0 0 0 0 x x = true := by simp [wOk, okS, hx.1, hx.2]
  unfold bolt_Force.f bolt_open.f
  simp only [Option.bind_some]
  rw [if_pos (by simp [oErr, hk, bolt_open.ok, hw])]
  unfold bolt_kind_force.f
  rw [if_pos (by rw [hk, hw]; rfl)]
  simp [fLo, fHi, oErr, hk, bolt_open.ok, hw]
theorem advance_eq (k : Nat) {p l r s a q : Int} (hp : 4000 ≤ p ∧ p ≤ 24000) (hl : 1 ≤ l ∧ l ≤ 900) (hr : 1 ≤ r ∧ r ≤ 900) (hs : 1 ≤ s ∧ s ≤ 3) (ha : 0 ≤ a ∧ a ≤ 2000) (hq : p * s * a = 1000 * q) :
    thread_Advance.f (k + 2) p l r 900 900 s false 0 (1000 * a) = some (q, 1, 0) := by
  have hps := prod_in (a := p) (b := s) (A := 24000) (B := 3) (by omega) (by omega) (by omega) (by omega) rfl
  have hpa := prod_in (a := p * s) (b := a) (A := 72000) (B := 2000) (by omega) (by omega) (by omega) (by omega) rfl
  unfold thread_Advance.f
  rw [open_ok (check_ok (by omega) (by omega) (by omega) (by omega) (by omega) (by omega) (by omega) (by omega) (by omega) (by omega))]
  simp only [Option.bind_some, if_true]
  unfold thread_within.f
  rw [any_one _ _ _ (by omega) (by omega)]
  simp only [Option.bind_some, if_true, Bool.false_eq_true, if_false]
  unfold thread_form_lead.f
  simp only [Option.bind_some]
  rw [w64 (x := p * s) (by omega) (by omega)]
  have e : p * s * (1000 * a) = 1000000 * q := by
    rw [Int.mul_left_comm, hq, ← Int.mul_assoc]; rfl
  rw [e, w64 (by omega) (by omega), ratio_whole k (by omega) (by omega)]
  rfl

def TopBoltThreadPure : Prop := ∀ (a0_0 : Int) (a0_1 : Int) (a0_2 : Int) (a0_3 : Int) (a0_4 : Int) (a0_5 : Int) (a0_6 : Int) (a0_7 : Int) (a0_8 : Int) (a1_0 : Int) (a1_1 : Int) (a1_2 : Int) (a1_3 : Int) (a1_4 : Int) (a2 : Int), (Lit.int .u8 a0_0).wf = true → (Lit.int .u8 a0_1).wf = true → (Lit.int .u8 a0_2).wf = true → (Lit.int .u8 a0_3).wf = true → (Lit.int .u8 a0_4).wf = true → (Lit.int .u8 a0_5).wf = true → (Lit.int .u8 a0_6).wf = true → (Lit.int .u8 a0_7).wf = true → (Lit.int .u8 a0_8).wf = true → (Lit.int .u16 a1_0).wf = true → (Lit.int .u16 a1_1).wf = true → (Lit.int .u16 a1_2).wf = true → (Lit.int .i8 a1_3).wf = true → (Lit.int .i8 a1_4).wf = true → (Lit.int .u16 a2).wf = true → ∃ k, acmetop_TopBoltThread.f k a0_0 a0_1 a0_2 a0_3 a0_4 a0_5 a0_6 a0_7 a0_8 a1_0 a1_1 a1_2 a1_3 a1_4 a2 = some true

section
variable {p l r s ang th hd t0 t1 h0 h1 P0 P1 : Int}
/-- What the law knows of its form, its bolt and its step. -/
structure Known (p l r s ang th hd t0 t1 h0 h1 P0 P1 : Int) : Prop where
  hp : 4000 ≤ p ∧ p ≤ 24000
  hl : 1 ≤ l ∧ l ≤ 900
  hr : 1 ≤ r ∧ r ≤ 900
  hs : 1 ≤ s ∧ s ≤ 3
  ha : 0 ≤ ang ∧ ang ≤ 65535
  hP : 1 ≤ P0 ∧ P0 ≤ P1 ∧ P1 ≤ 400
  hk : ∀ S0 S1, 1 ≤ S0 → S0 ≤ S1 → S1 ≤ 100000000 → kOk 100 th hd t0 t1 h0 h1 S0 S1 P0 P1 20000 30000 = true
theorem j4_ok (K : Known p l r s ang th hd t0 t1 h0 h1 P0 P1) (k : Nat) (hk : 21 ≤ k) {a q : Int} (big : Bool) (ha : 0 ≤ a ∧ a ≤ 2000) (hq : p * s * a = 1000 * q) (hb : big = false → q ≤ 100000 ∧ P1 * (p * s) ≤ 100000000) :
    acmetop_TopBoltThread.j4 k (p * s) a 0 big 100 th hd t0 t1 h0 h1 (P0 * (p * s)) (P1 * (p * s)) P0 P1 20000 30000 q 1 = some true := by
  obtain ⟨k, rfl⟩ : ∃ m, k = m + 1 := ⟨k - 1, by omega⟩
  obtain ⟨hp, hl, hr, hs, hang, hP, hkk⟩ := K
  have hps := prod_in (a := p) (b := s) (A := 24000) (B := 3) (by omega) (by omega) (by omega) (by omega) rfl
  have hps1 : 4000 * 1 ≤ p * s := Int.mul_le_mul (by omega) (by omega) (by omega) (by omega)
  have hpa := prod_in (a := p * s) (b := a) (A := 72000) (B := 2000) (by omega) (by omega) (by omega) (by omega) rfl
  cases big with
  | true =>
    simp only [acmetop_TopBoltThread.j4, if_true]
    rw [w64 (x := p * s * a) (by omega) (by omega), hq, Int.mul_tdiv_cancel_left _ (by decide), w64 (by omega) (by omega), if_pos rfl, armThread_ok k (by omega)]
    simp only [Option.bind_some, if_true]
    rw [armBolt_ok]; rfl
  | false =>
    obtain ⟨hb1, hb2⟩ := hb rfl
    have hP0 := prod_in (a := P0) (b := p * s) (A := 400) (B := 72000) (by omega) (by omega) (by omega) (by omega) rfl
    have hP01 : P0 * (p * s) ≤ P1 * (p * s) := Int.mul_le_mul_of_nonneg_right (by omega) (by omega)
    have hP1 : 1 * 1 ≤ P0 * (p * s) := Int.mul_le_mul (by omega) (by omega) (by omega) (by omega)
    have hK := hkk (P0 * (p * s)) (P1 * (p * s)) hP1 hP01 hb2
    simp only [acmetop_TopBoltThread.j4, Bool.false_eq_true, if_false]
    rw [span_eq, span_eq]
    simp only [Option.bind_some]
    rw [force_angle hK (by omega), force_stretch hK (by omega)]
    have e : ∀ x : Int, x * (p * s) * a / 1000 = x * q := fun x => by
      rw [Int.mul_assoc, hq, Int.mul_left_comm, Int.mul_ediv_cancel_left _ (by decide)]
    simp only [Option.bind_some, if_true, e, beq_self_eq_true, Bool.and_self]
    rw [armThread_ok k (by omega)]
    simp only [Option.bind_some, if_true]
    rw [armBolt_ok]; rfl
theorem j3_ok (K : Known p l r s ang th hd t0 t1 h0 h1 P0 P1) (k : Nat) (hk : 30 ≤ k) {st : Int} (hst : 1 ≤ st ∧ st ≤ 1000) (hd1 : (p * s * st) % 1000 = 0) :
    acmetop_TopBoltThread.j3 k ang (p * s) st p l r 900 900 s false 0 100 th hd t0 t1 h0 h1 (P0 * (p * s)) (P1 * (p * s)) P0 P1 20000 30000 = some true := by
  obtain ⟨k, rfl⟩ : ∃ m, k = m + 2 + 1 := ⟨k - 3, by omega⟩
  have K' := K
  obtain ⟨hp, hl, hr, hs, hang, hP, hkk⟩ := K'
  have hps := prod_in (a := p) (b := s) (A := 24000) (B := 3) (by omega) (by omega) (by omega) (by omega) rfl
  have hdv : 2 ≤ 2000 / st ∧ 2000 / st ≤ 2000 := ⟨(Int.le_ediv_iff_mul_le (by omega)).2 (by omega), Int.ediv_le_self _ (by omega)⟩
  simp only [acmetop_TopBoltThread.j3]
  rw [if_neg (by omega), Int.tdiv_eq_ediv_of_nonneg (show (0 : Int) ≤ 2000 by decide), w64 (x := (2000 : Int) / st) (by omega) (by omega), w64 (x := 2000 / st + 1) (by omega) (by omega), if_neg (by omega), w64 (x := ang) (by omega) (by omega)]
  have hm0 : Int.tmod ang (2000 / st + 1) = ang % (2000 / st + 1) := Int.tmod_eq_emod_of_nonneg (by omega)
  rw [hm0]
  have m1 := Int.emod_nonneg ang (show (2000 / st + 1 : Int) ≠ 0 by omega)
  have m2 := Int.emod_lt_of_pos ang (show (0 : Int) < 2000 / st + 1 by omega)
  generalize ang % (2000 / st + 1) = m at m1 m2 ⊢
  have hle : st * m ≤ 2000 := by
    have h1 : st * m ≤ st * (2000 / st) := Int.mul_le_mul_of_nonneg_left (by omega) (by omega)
    have h2 := Int.mul_ediv_self_le (x := 2000) (k := st) (by omega)
    omega
  have hge : 0 ≤ st * m := Int.mul_nonneg (by omega) m1
  obtain ⟨q0, hq0⟩ : ∃ q0, p * s * st = 1000 * q0 := ⟨p * s * st / 1000, by omega⟩
  have hq : p * s * (st * m) = 1000 * (q0 * m) := by rw [← Int.mul_assoc, hq0, Int.mul_assoc]
  rw [w64 (x := st * m) (by omega) (by omega)]
  generalize st * m = a at hle hge hq ⊢
  generalize q0 * m = q at hq ⊢
  have hpa := prod_in (a := p * s) (b := a) (A := 72000) (B := 2000) (by omega) (by omega) (by omega) (by omega) rfl
  rw [w64 (x := 1000 * a) (by omega) (by omega), advance_eq k hp hl hr hs ⟨hge, hle⟩ hq]
  simp only [Option.bind_some, if_true]
  rw [w64 (x := p * s * a) (by omega) (by omega), hq, Int.mul_tdiv_cancel_left _ (by decide), w64 (by omega) (by omega), if_pos rfl]
  split
  · exact j4_ok K _ (by omega) true ⟨hge, hle⟩ hq (by simp)
  · exact j4_ok K _ (by omega) _ ⟨hge, hle⟩ hq (fun h => ⟨by omega, by simpa using h⟩)
theorem l1_ok (K : Known p l r s ang th hd t0 t1 h0 h1 P0 P1) (d : Nat) : ∀ (k : Nat) (st : Int), st.toNat ≤ d → d + 40 ≤ k → 1 ≤ st ∧ st ≤ 1000 → (p * s * st) % 1000 = 0 →
    acmetop_TopBoltThread.l1 k ang (p * s) st p l r 900 900 s false 0 100 th hd t0 t1 h0 h1 (P0 * (p * s)) (P1 * (p * s)) P0 P1 20000 30000 = some true := by
  induction d with
  | zero => intro k st hA _ hC; omega
  | succ d ih =>
    intro k st hA hB hC hD
    obtain ⟨k, rfl⟩ : ∃ m, k = m + 1 := ⟨k - 1, by omega⟩
    have K' := K
    obtain ⟨hp, hl, hr, hs, hang, hP, hkk⟩ := K'
    have hps := prod_in (a := p) (b := s) (A := 24000) (B := 3) (by omega) (by omega) (by omega) (by omega) rfl
    simp only [acmetop_TopBoltThread.l1]
    rw [Int.tmod_eq_emod_of_nonneg (by omega), Int.tdiv_eq_ediv_of_nonneg (by omega), w64 (x := st / 5) (by omega) (by omega)]
    split
    · rename_i h5
      have hps5 := prod_in (a := p * s) (b := st / 5) (A := 72000) (B := 200) (by omega) (by omega) (by omega) (by omega) rfl
      rw [w64 (x := p * s * (st / 5)) (by omega) (by omega), Int.tmod_eq_emod_of_nonneg (by omega)]
      split
      · rename_i h6
        exact ih k (st / 5) (by omega) (by omega) (by omega) h6
      · exact j3_ok K k (by omega) hC hD
    · exact j3_ok K k (by omega) hC hD
theorem l0_ok (K : Known p l r s ang th hd t0 t1 h0 h1 P0 P1) (d : Nat) : ∀ (k : Nat) (st : Int), st.toNat ≤ d → d + 1050 ≤ k → 1 ≤ st ∧ st ≤ 1000 → (p * s * st) % 1000 = 0 →
    acmetop_TopBoltThread.l0 k ang (p * s) st p l r 900 900 s false 0 100 th hd t0 t1 h0 h1 (P0 * (p * s)) (P1 * (p * s)) P0 P1 20000 30000 = some true := by
  induction d with
  | zero => intro k st hA _ hC; omega
  | succ d ih =>
    intro k st hA hB hC hD
    obtain ⟨k, rfl⟩ : ∃ m, k = m + 1 + 1 := ⟨k - 2, by omega⟩
    have K' := K
    obtain ⟨hp, hl, hr, hs, hang, hP, hkk⟩ := K'
    have hps := prod_in (a := p) (b := s) (A := 24000) (B := 3) (by omega) (by omega) (by omega) (by omega) rfl
    simp only [acmetop_TopBoltThread.l0]
    have hj : acmetop_TopBoltThread.j1 (k + 1) ang (p * s) st p l r 900 900 s false 0 100 th hd t0 t1 h0 h1 (P0 * (p * s)) (P1 * (p * s)) P0 P1 20000 30000 = some true := by
      simp only [acmetop_TopBoltThread.j1]
      exact l1_ok K 1000 k st (by omega) (by omega) hC hD
    rw [Int.tmod_eq_emod_of_nonneg (by omega), Int.tdiv_eq_ediv_of_nonneg (by omega), w64 (x := st / 2) (by omega) (by omega)]
    split
    · have hps5 := prod_in (a := p * s) (b := st / 2) (A := 72000) (B := 500) (by omega) (by omega) (by omega) (by omega) rfl
      rw [w64 (x := p * s * (st / 2)) (by omega) (by omega), Int.tmod_eq_emod_of_nonneg (by omega)]
      split
      · rename_i h6
        exact ih (k + 1) (st / 2) (by omega) (by omega) (by omega) h6
      · exact hj
    · exact hj
end
theorem TopBoltThread : TopBoltThreadPure := by
  intro z0 z1 z2 o0 o1 o2 o3 f0 f1 b0 b1 b2 d0 d1 ang w0 w1 w2 w3 w4 w5 w6 w7 w8 v0 v1 v2 _ _ wa
  have w0 := u8_in w0; have w1 := u8_in w1; have w2 := u8_in w2; have w3 := u8_in w3; have w4 := u8_in w4; have w5 := u8_in w5; have w6 := u8_in w6; have w7 := u8_in w7; have w8 := u8_in w8
  have v0 := u16_in v0; have v1 := u16_in v1; have v2 := u16_in v2; have wa := u16_in wa
  refine ⟨3000, ?_⟩
  have tm : ∀ x n : Int, 0 ≤ x → Int.tmod x n = x % n := fun x n h => Int.tmod_eq_emod_of_nonneg h
  unfold acmetop_TopBoltThread.f acmetop_ArmForm_form.f acmetop_ArmBolt_kind.f
  simp only [span_eq, Option.bind_some]
  rw [w64 (x := b0) (by omega) (by omega), w64 (x := b1) (by omega) (by omega), w64 (x := b2) (by omega) (by omega), w64 (x := z1) (by omega) (by omega), w64 (x := z2) (by omega) (by omega), w64 (x := o0) (by omega) (by omega), w64 (x := o1) (by omega) (by omega), w64 (x := o2) (by omega) (by omega), w64 (x := o3) (by omega) (by omega), w64 (x := f0) (by omega) (by omega), w64 (x := f1) (by omega) (by omega)]
  rw [tm b0 _ (by omega), tm b0 _ (by omega), tm b1 _ (by omega), tm b2 _ (by omega), tm o1 _ (by omega), tm o3 _ (by omega), tm f1 _ (by omega)]
  rw [w64 (x := 1000 + b0 % 5000) (by omega) (by omega), w64 (x := 4 * (1000 + b0 % 5000)) (by omega) (by omega), w64 (x := 1 + b1 % 900) (by omega) (by omega), w64 (x := 1 + b2 % 900) (by omega) (by omega), w64 (x := 1 + b0 % 3) (by omega) (by omega), w64 (x := 20 * z1) (by omega) (by omega), w64 (x := 30 * z2) (by omega) (by omega), w64 (x := o0 + o1 % 60) (by omega) (by omega), w64 (x := o2 + o3 % 60) (by omega) (by omega), w64 (x := 1 + f0) (by omega) (by omega), w64 (x := 1 + f0 + f1 % 20) (by omega) (by omega)]
  have K : Known (4 * (1000 + b0 % 5000)) (1 + b1 % 900) (1 + b2 % 900) (1 + b0 % 3) ang (20 * z1) (30 * z2) o0 (o0 + o1 % 60) o2 (o2 + o3 % 60) (1 + f0) (1 + f0 + f1 % 20) := by
    refine ⟨by omega, by omega, by omega, by omega, by omega, by omega, fun S0 S1 h1 h2 h3 => ?_⟩
    exact kOk_of (by omega)
  generalize 4 * (1000 + b0 % 5000) = p at K ⊢
  generalize 1 + b0 % 3 = s at K ⊢
  have hp := K.hp
  have hs := K.hs
  have hP := K.hP
  have hps := prod_in (a := p) (b := s) (A := 24000) (B := 3) (by omega) (by omega) (by omega) (by omega) rfl
  have hP0 := prod_in (a := 1 + f0) (b := p * s) (A := 400) (B := 72000) (by omega) (by omega) (by omega) (by omega) rfl
  have hP1 := prod_in (a := 1 + f0 + f1 % 20) (b := p * s) (A := 400) (B := 72000) (by omega) (by omega) (by omega) (by omega) rfl
  rw [w64 (x := p * s) (by omega) (by omega), w64 (x := (1 + f0) * (p * s)) (by omega) (by omega), w64 (x := (1 + f0 + f1 % 20) * (p * s)) (by omega) (by omega)]
  exact l0_ok K 1000 3000 1000 (by decide) (by decide) (by decide) (by omega)

end Go.Proofs.Ytbnbikkhnjcmdab.Pure
