/- The package bolt's 'within', over slices.ContainsFunc and slices.IndexFunc. -/
import Derived.Test.YtbnbikkhnjcmdabProg
import Derived.Test.YtbnbikkhnjcmdabW6
set_option linter.unusedVariables false
namespace Go.Proofs.Ytbnbikkhnjcmdab
open Go.RowKit Go.Proofs.YtbnbikkhnjcmdabW.PrintWords

set_option maxHeartbeats 800000 in
theorem bolt_within_lit (lo hi x : Int) (A B : Addr) (w : World) (h1 : w.cell? A = some (.int .i64 lo)) (h2 : w.cell? B = some (.int .i64 hi)) :
    Calls Try.prog 246 #[.int .i64 x, .pointer (some A), .pointer (some B)] w fun e w' => e = .returned (.bool (badB lo hi x)) ∧ w = w' := by
  by_cases h3 : x < lo <;> by_cases h4 : hi < x
  all_goals
    go_enter Try.func246, Try.ntmps246
    go_wp2
    go_ret
    exact ⟨by simp [badB, h3, h4], rfl⟩
set_option maxHeartbeats 800000 in
theorem bolt_index (lo hi : Int) (A B : Addr) (b off n c : Nat) (xs : List Int) (w : World) (h1 : w.cell? A = some (.int .i64 lo)) (h2 : w.cell? B = some (.int .i64 hi)) (hn : xs.length = n) (hm : n ≤ 9223372036854775807)
    (hc : ∀ j, j < n → w.cell? ⟨b, off + j, none⟩ = some (.int .i64 (gt xs j))) :
    Calls Try.prog 219 #[.slice (some ⟨b, off, none⟩) n c, .func (.func 246) #[] #[.pointer (some A), .pointer (some B)]] w fun e w' => e = .returned (.int .i64 (idxBad lo hi xs 0)) ∧ w = w' := by
  go_enter Try.func219, Try.ntmps219
  go_wp2
  go_loop [8] (fun i => ∃ k : Nat, k ≤ n ∧ i = .int .i64 k ∧ Hid (idxBad lo hi xs 0 = idxBad lo hi (xs.drop k) k)) (fun i => n - (intOf i).toNat)
  case atStart => exact ⟨0, Nat.zero_le _, rfl, by simp [Hid]⟩
  case round =>
    obtain ⟨k, hk, rfl, HR⟩ := hrel
    by_cases hlt : k < n
    · have hck := hc k hlt
      have hkl : k < xs.length := by omega
      have HD : Hid (xs.drop k = gt xs k :: xs.drop (k + 1)) := by
        show _ = _
        rw [List.drop_eq_getElem_cons hkl]; simp [gt, hkl]
      by_cases hb : badB lo hi (gt xs k) = true
      · have HB := Lib.hid hb; clear hb
        go_wp2_with (go_at_call 246; refine (bolt_within_lit lo hi _ A B _ h1 h2).mono ?_; rw [HB.out]; rintro e w' ⟨rfl, rfl⟩)
        go_ret
        refine ⟨?_, rfl⟩
        rw [HR.out, HD.out]; simp [idxBad, HB.out]
      · have HB := Lib.hid (Bool.eq_false_iff.2 hb); clear hb
        go_wp2_with (go_at_call 246; refine (bolt_within_lit lo hi _ A B _ h1 h2).mono ?_; rw [HB.out]; rintro e w' ⟨rfl, rfl⟩)
        go_round
        case rel => exact ⟨k + 1, by omega, by go_num, by show _ = _; rw [HR.out, HD.out]; simp [idxBad, HB.out]⟩
        case measure => simp [intOf]; omega
    · go_wp2
      go_ret
      exact ⟨by rw [HR.out, List.drop_eq_nil_of_le (by omega)]; rfl, rfl⟩
set_option maxHeartbeats 800000 in
theorem bolt_contains (lo hi : Int) (A B : Addr) (b off n c : Nat) (xs : List Int) (w : World) (h1 : w.cell? A = some (.int .i64 lo)) (h2 : w.cell? B = some (.int .i64 hi)) (hn : xs.length = n) (hm : n ≤ 9223372036854775807)
    (hc : ∀ j, j < n → w.cell? ⟨b, off + j, none⟩ = some (.int .i64 (gt xs j))) :
    Calls Try.prog 141 #[.slice (some ⟨b, off, none⟩) n c, .func (.func 246) #[] #[.pointer (some A), .pointer (some B)]] w fun e w' => e = .returned (.bool (anyBad lo hi xs)) ∧ w = w' := by
  have hcon := bolt_index lo hi A B b off n c xs w h1 h2 hn hm hc
  rcases idxBad_ge lo hi xs 0 (by omega) with ⟨e1, e2⟩ | ⟨e1, e2⟩
  · have E1 := Lib.hid e1; have E2 := Lib.hid e2; clear e1 e2 h1 h2 hc hn
    rw [E1.out] at hcon
    have HC := Lib.hid hcon; clear hcon
    go_enter Try.func141, Try.ntmps141
    go_wp2_with (go_at_call 219; refine HC.out.mono ?_; rintro e w' ⟨rfl, rfl⟩)
    go_ret
    exact ⟨by unfold anyBad; rw [E2.out]; rfl, rfl⟩
  · generalize idxBad lo hi xs 0 = k at *
    have E2 := Lib.hid e2; clear e2 h1 h2 hc hn
    have HC := Lib.hid hcon; clear hcon
    go_enter Try.func141, Try.ntmps141
    go_wp2_with (go_at_call 219; refine HC.out.mono ?_; rintro e w' ⟨rfl, rfl⟩)
    go_ret
    exact ⟨by unfold anyBad; rw [E2.out]; simp, rfl⟩
set_option maxHeartbeats 800000 in
theorem bolt_within (lo hi : Int) (b off n c : Nat) (xs : List Int) (w : World) (hn : xs.length = n) (hm : n ≤ 9223372036854775807)
    (hc : ∀ j, j < n → w.cell? ⟨b, off + j, none⟩ = some (.int .i64 (gt xs j))) :
    Calls Try.prog 183 #[.int .i64 lo, .int .i64 hi, .slice (some ⟨b, off, none⟩) n c] w fun e w' => e = .returned (.bool (!anyBad lo hi xs)) ∧ Below w.heap.size w w' := by
  have HC : Hid (∀ j, j < n → w.cell? ⟨b, off + j, none⟩ = some (.int .i64 (gt xs j))) := hc
  have HN := Lib.hid hn
  clear hc hn
  go_enter Try.func183, Try.ntmps183
  go_wp2_with fail
  refine (bolt_contains lo hi ⟨w.heap.size, 0, none⟩ ⟨w.heap.size + 1, 0, none⟩ b off n c xs _ (by simp) (by simp) HN.out hm ?_).mono ?_
  · intro j hj
    have := HC.out j hj
    exact cell_later (((Below.refl _ w).alloc (Nat.le_refl _) _).alloc (by simp) _) this
  rintro e w' ⟨rfl, rfl⟩
  go_wp2_with fail
  go_ret
  exact ⟨rfl, ((Below.refl _ w).alloc (Nat.le_refl _) _).alloc (by simp) _⟩
theorem bolt_within1 (lo hi x : Int) (B : Nat) (w : World) (hB : B = w.heap.size) : Calls Try.prog 183 #[.int .i64 lo, .int .i64 hi, .slice (some ⟨B, 0, none⟩) 1 1] (w.alloc (.cells #[.int .i64 x] 3)) fun e w' => e = .returned (.bool (ok1 lo hi x)) ∧ Below w.heap.size w w' := by
  subst hB
  exact (bolt_within lo hi w.heap.size 0 1 1 [x] _ rfl (by decide) (new1 w x 3)).mono fun e w' ⟨he, hb⟩ => ⟨by rw [he, any1], below_new hb⟩
theorem bolt_within2 (lo hi x y : Int) (B : Nat) (w : World) (hB : B = w.heap.size) : Calls Try.prog 183 #[.int .i64 lo, .int .i64 hi, .slice (some ⟨B, 0, none⟩) 2 2] (w.alloc (.cells #[.int .i64 x, .int .i64 y] 3)) fun e w' => e = .returned (.bool (ok2 lo hi x y)) ∧ Below w.heap.size w w' := by
  subst hB
  exact (bolt_within lo hi w.heap.size 0 2 2 [x, y] _ rfl (by decide) (new2 w x y 3)).mono fun e w' ⟨he, hb⟩ => ⟨by rw [he, any2], below_new hb⟩
theorem bolt_within3 (lo hi x y z : Int) (B : Nat) (w : World) (hB : B = w.heap.size) : Calls Try.prog 183 #[.int .i64 lo, .int .i64 hi, .slice (some ⟨B, 0, none⟩) 3 3] (w.alloc (.cells #[.int .i64 x, .int .i64 y, .int .i64 z] 3)) fun e w' => e = .returned (.bool (ok3 lo hi x y z)) ∧ Below w.heap.size w w' := by
  subst hB
  exact (bolt_within lo hi w.heap.size 0 3 3 [x, y, z] _ rfl (by decide) (new3 w x y z 3)).mono fun e w' ⟨he, hb⟩ => ⟨by rw [he, any3], below_new hb⟩

set_option maxHeartbeats 800000 in
theorem bolt_index_nil (A : Option Addr) (c : Nat) (P Q : Addr) (w : World) :
    Calls Try.prog 219 #[.slice A 0 c, .func (.func 246) #[] #[.pointer (some P), .pointer (some Q)]] w fun e w' => e = .returned (.int .i64 (-1)) ∧ w = w' := by
  go_enter Try.func219, Try.ntmps219
  go_wp2
  go_loop [8] (fun i => i = .int .i64 0) (fun i => 0)
  case atStart => rfl
  case round =>
    subst hrel
    go_wp2
    go_ret
    exact ⟨rfl, rfl⟩
theorem bolt_contains_nil (A : Option Addr) (c : Nat) (P Q : Addr) (w : World) :
    Calls Try.prog 141 #[.slice A 0 c, .func (.func 246) #[] #[.pointer (some P), .pointer (some Q)]] w fun e w' => e = .returned (.bool false) ∧ w = w' := by
  go_enter Try.func141, Try.ntmps141
  go_wp2_with (go_at_call 219; refine (bolt_index_nil A c P Q _).mono ?_; rintro e w' ⟨rfl, rfl⟩)
  go_ret
  exact ⟨rfl, rfl⟩
theorem bolt_within_nil (lo hi : Int) (A : Option Addr) (c : Nat) (w : World) :
    Calls Try.prog 183 #[.int .i64 lo, .int .i64 hi, .slice A 0 c] w fun e w' => e = .returned (.bool true) ∧ Below w.heap.size w w' := by
  go_enter Try.func183, Try.ntmps183
  go_wp2_with (go_at_call 141; refine (bolt_contains_nil A c _ _ _).mono ?_; rintro e w' ⟨rfl, rfl⟩)
  go_ret
  exact ⟨rfl, ((Below.refl _ w).alloc (Nat.le_refl _) _).alloc (by simp) _⟩
theorem bolt_within_C (lo hi : Int) (A : Option Addr) (c : Nat) (xs : List Int) (w : World) (hr : Kd.C (Kd.int .i64) w A xs.length xs) :
    Calls Try.prog 183 #[.int .i64 lo, .int .i64 hi, .slice A xs.length c] w fun e w' => e = .returned (.bool (!anyBad lo hi xs)) ∧ Below w.heap.size w w' := by
  by_cases hn : 0 < xs.length
  · obtain ⟨b, off, rfl, hc⟩ := intsAt hr hn
    exact bolt_within lo hi b off xs.length c xs w rfl (Kd.C_max hr) hc
  · obtain rfl : xs = [] := by cases xs with | nil => rfl | cons x l => simp at hn
    exact bolt_within_nil lo hi A c w
end Go.Proofs.Ytbnbikkhnjcmdab
