/- Contracts of the package bolt, on: ways, and what opens a kind. -/
import Derived.Test.YtbnbikkhnjcmdabBolt3
set_option linter.unusedVariables false
set_option linter.unusedSimpArgs false
namespace Go.Proofs.Ytbnbikkhnjcmdab
open Go.RowKit


set_option maxHeartbeats 4000000 in
theorem bolt_isWay (wk q0 q1 a0 a1 x0 x1 : Int) (w : World) : Calls Try.prog 147 #[.agg #[.int .i64 wk, .int .i64 q0, .int .i64 q1, .int .i64 a0, .int .i64 a1, .int .i64 x0, .int .i64 x1]] w fun e w' => e = .returned (.bool (wOk wk q0 q1 a0 a1 x0 x1)) ∧ Below w.heap.size w w' := by
  by_cases k1 : wk = 1
  · subst k1
    go_enter Try.func147, Try.ntmps147
    go_wp2_with fail
    refine (bolt_isTorque _ _ _).mono ?_
    rintro e w1 ⟨rfl, hb1⟩
    obtain ⟨hc1, hf1⟩ := bcell hb1
    have hz10 : w.heap.size < w1.heap.size := by have := hb1.size; (try simp at this); omega
    have hz11 : w.heap.size + 1 < w1.heap.size := by have := hb1.size; (try simp at this); omega
    have HB1 : Hid (Below w.heap.size w w1) := bthen (balloc (bnew w _) _) hb1
    clear hb1
    by_cases g1 : okS 0 10000000000000 q0 q1 = false
    · rw [g1]
      have G1 := Lib.hid g1; clear g1
      go_wp2_with fail
      go_ret
      exact ⟨ret_bool (by simp [wOk, G1.out]), HB1.out⟩
    rw [isT g1]
    have G1 := Lib.hid (isT g1); clear g1
    go_wp2_with fail
    all_goals (go_ret; exact ⟨ret_bool (by first | (simp [wOk, G1.out]; done) | (simp [wOk, G1.out]; omega)), HB1.out⟩)
  by_cases k2 : wk = 2
  · subst k2
    clear k1
    go_enter Try.func147, Try.ntmps147
    go_wp2_with fail
    refine (bolt_isTorque _ _ _).mono ?_
    rintro e w1 ⟨rfl, hb1⟩
    obtain ⟨hc1, hf1⟩ := bcell hb1
    have hz10 : w.heap.size < w1.heap.size := by have := hb1.size; (try simp at this); omega
    have hz11 : w.heap.size + 1 < w1.heap.size := by have := hb1.size; (try simp at this); omega
    have HB1 : Hid (Below w.heap.size w w1) := bthen (balloc (bnew w _) _) hb1
    clear hb1
    by_cases g1 : okS 0 10000000000000 q0 q1 = false
    · rw [g1]
      have G1 := Lib.hid g1; clear g1
      go_wp2_with fail
      go_ret
      exact ⟨ret_bool (by simp [wOk, G1.out]), HB1.out⟩
    rw [isT g1]
    have G1 := Lib.hid (isT g1); clear g1
    go_wp2_with fail
    refine (bolt_isSpan _ _ _ _ _).mono ?_
    rintro e w2 ⟨rfl, hb2⟩
    obtain ⟨hc2, hf2⟩ := bcell hb2
    have hz20 : w.heap.size < w2.heap.size := by have := hb2.size; (try simp at this); omega
    have hz21 : w.heap.size + 1 < w2.heap.size := by have := hb2.size; (try simp at this); omega
    have HB2 : Hid (Below w.heap.size w w2) := bthen HB1.out hb2
    clear hb2
    by_cases g2 : okS 0 100000 a0 a1 = false
    · rw [g2]
      have G2 := Lib.hid g2; clear g2
      go_wp2_with fail
      go_ret
      exact ⟨ret_bool (by simp [wOk, G1.out, G2.out]), HB2.out⟩
    rw [isT g2]
    have G2 := Lib.hid (isT g2); clear g2
    go_wp2_with fail
    all_goals (go_ret; exact ⟨ret_bool (by first | (simp [wOk, G1.out, G2.out]; done) | (simp [wOk, G1.out, G2.out]; omega)), HB2.out⟩)
  by_cases k3 : wk = 3
  · subst k3
    clear k1 k2
    go_enter Try.func147, Try.ntmps147
    go_wp2_with fail
    refine (bolt_isSpan _ _ _ _ _).mono ?_
    rintro e w1 ⟨rfl, hb1⟩
    obtain ⟨hc1, hf1⟩ := bcell hb1
    have hz10 : w.heap.size < w1.heap.size := by have := hb1.size; (try simp at this); omega
    have hz11 : w.heap.size + 1 < w1.heap.size := by have := hb1.size; (try simp at this); omega
    have HB1 : Hid (Below w.heap.size w w1) := bthen (balloc (bnew w _) _) hb1
    clear hb1
    by_cases g1 : okS 0 100000 x0 x1 = false
    · rw [g1]
      have G1 := Lib.hid g1; clear g1
      go_wp2_with fail
      go_ret
      exact ⟨ret_bool (by simp [wOk, G1.out]), HB1.out⟩
    rw [isT g1]
    have G1 := Lib.hid (isT g1); clear g1
    go_wp2_with fail
    all_goals (go_ret; exact ⟨ret_bool (by first | (simp [wOk, G1.out]; done) | (simp [wOk, G1.out]; omega)), HB1.out⟩)
  · have e1 : (wk == 1) = false := by simpa using k1
    have e2 : (wk == 2) = false := by simpa using k2
    have e3 : (wk == 3) = false := by simpa using k3
    have hfin : Hid (wOk wk q0 q1 a0 a1 x0 x1 = false) := by show _ = _; simp [wOk, k1, k2, k3]
    clear k1 k2 k3
    go_enter Try.func147, Try.ntmps147
    go_wp2_with fail
    go_ret
    exact ⟨ret_bool hfin.out.symm, balloc (bnew w _) _⟩
theorem bolt_openlit (wk q0 q1 a0 a1 x0 x1 : Int) (w : World) : Calls Try.prog 146 #[.agg #[.int .i64 wk, .int .i64 q0, .int .i64 q1, .int .i64 a0, .int .i64 a1, .int .i64 x0, .int .i64 x1]] w fun e w' => e = .returned (.bool (!wOk wk q0 q1 a0 a1 x0 x1)) ∧ Below w.heap.size w w' := by
  go_enter Try.func146, Try.ntmps146
  go_wp2_with (go_at_call 147; refine (bolt_isWay wk q0 q1 a0 a1 x0 x1 _).mono ?_; rintro e w' ⟨rfl, hb⟩)
  go_ret
  exact ⟨rfl, bthen (bnew w _) hb⟩
/-- A way that lies at a place. -/
def WayAt (w : World) (b o : Nat) (f : Nat → Int) : Prop := w.cell? ⟨b, o, none⟩ = some (.int .i64 (f 0)) ∧ w.cell? ⟨b, o + 1, none⟩ = some (.int .i64 (f 1)) ∧ w.cell? ⟨b, o + 2, none⟩ = some (.int .i64 (f 2)) ∧ w.cell? ⟨b, o + 3, none⟩ = some (.int .i64 (f 3)) ∧ w.cell? ⟨b, o + 4, none⟩ = some (.int .i64 (f 4)) ∧ w.cell? ⟨b, o + 5, none⟩ = some (.int .i64 (f 5)) ∧ w.cell? ⟨b, o + 6, none⟩ = some (.int .i64 (f 6))
def wOkf (f : Nat → Int) : Bool := wOk (f 0) (f 1) (f 2) (f 3) (f 4) (f 5) (f 6)
theorem WayAt.below {w w' : World} {b o : Nat} {f : Nat → Int} (h : WayAt w b o f) (hb : Below w.heap.size w w') : WayAt w' b o f := by
  obtain ⟨h0, h1, h2, h3, h4, h5, h6⟩ := h
  exact ⟨ckeep h0 hb, ckeep h1 hb, ckeep h2 hb, ckeep h3 hb, ckeep h4 hb, ckeep h5 hb, ckeep h6 hb⟩
/-- Where the first wrong way stands: from k on, so many are left. -/
def idxWay (f : Nat → Nat → Int) : Nat → Nat → Int
  | _, 0 => -1
  | k, m + 1 => if wOkf (f k) then idxWay f (k + 1) m else k


set_option maxHeartbeats 2000000 in
theorem bolt_idxway (f : Nat → Nat → Int) (b off n c : Nat) (w : World) (hm : n ≤ 9223372036854775807) (hc : ∀ j, j < n → WayAt w b (off + j * 7) (f j)) :
    Calls Try.prog 220 #[.slice (some ⟨b, off, none⟩) n c, .func (.func 146) #[] #[]] w fun e w' => e = .returned (.int .i64 (idxWay f 0 n)) ∧ Below w.heap.size w w' := by
    have HC : Hid (∀ j, j < n → WayAt w b (off + j * 7) (f j)) := hc
    clear hc
    go_enter Try.func220, Try.ntmps220
    go_wp2
    go_loopw [8] (fun i wr => ∃ k : Nat, k ≤ n ∧ i = .int .i64 k ∧ Hid (idxWay f 0 n = idxWay f k (n - k)) ∧ Hid (Below w.heap.size w wr)) (fun i _ => n - (intOf i).toNat)
    case atStart => exact ⟨0, Nat.zero_le _, rfl, rfl, Below.refl _ _⟩
    case round =>
      obtain ⟨k, hk, rfl, HI, HR⟩ := hrel
      by_cases hlt : k < n
      · obtain ⟨g0, g1, g2, g3, g4, g5, g6⟩ := (HC.out k hlt).below HR.out
        have HS : Hid (idxWay f k (n - k) = if wOkf (f k) then idxWay f (k + 1) (n - (k + 1)) else k) := by
          show _ = _
          rw [show n - k = (n - (k + 1)) + 1 from by omega]; rfl
        go_wp2_with fail
        refine (bolt_openlit _ _ _ _ _ _ _ _).mono ?_
        rintro e w1 ⟨rfl, hb1⟩
        have HB1 : Hid (Below w.heap.size w w1) := bthen HR.out hb1
        clear hb1
        by_cases hok : wOkf (f k) = true
        · have h1 : wOk (f k 0) (f k 1) (f k 2) (f k 3) (f k 4) (f k 5) (f k 6) = true := hok
          rw [h1]
          have HO := Lib.hid hok; clear hok h1 g0 g1 g2 g3 g4 g5 g6
          go_wp2_with fail
          go_roundw
          case rel => exact ⟨k + 1, by omega, by go_num, by show _ = _; rw [HI.out, HS.out, if_pos HO.out], HB1.out⟩
          case measure => simp [intOf]; omega
        · have h1 : wOk (f k 0) (f k 1) (f k 2) (f k 3) (f k 4) (f k 5) (f k 6) = false := notT hok
          rw [h1]
          have HO := Lib.hid hok; clear hok h1 g0 g1 g2 g3 g4 g5 g6
          go_wp2_with fail
          go_ret
          exact ⟨ret_int (by rw [HI.out, HS.out, if_neg HO.out]), HB1.out⟩
      · go_wp2_with fail
        go_ret
        exact ⟨ret_int (by rw [HI.out, show n - k = 0 from by omega]; rfl), HR.out⟩
end Go.Proofs.Ytbnbikkhnjcmdab
