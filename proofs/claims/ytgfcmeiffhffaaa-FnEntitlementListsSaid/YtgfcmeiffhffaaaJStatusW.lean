/- Contracts of StatusAfter, of the program and of the reference. -/
import Derived.Test.YtgfcmeiffhffaaaJFind
namespace Go.Proofs.Ytgfcmeiffhffaaa
open Go.RowKit

def stB (s k : Int) : Bool := (k == 1 && (s == 0 || s == 2)) || (k == 2 && s == 1) || (k == 3 && (s == 1 || s == 2)) || (k == 4 && inB s 1 3)
def stI (s k : Int) : Int := if stB s k = true then k else s
theorem statusAfter_any (s k : Int) (w : World) : Calls Try.prog 61 #[.int .i64 s, .int .i64 k] w fun e w' => e = .returned (.tuple #[.int .i64 (stI s k), .bool (stB s k)]) ∧ w = w' := by
  by_cases k1 : k = 1
  · subst k1
    by_cases s0 : s = 0
    · subst s0
      go_enter Try.func61, Try.ntmps61
      go_wp2
      go_ret2
      exact ⟨by simp [stI, stB], rfl⟩
    · by_cases s2 : s = 2
      · subst s2
        go_enter Try.func61, Try.ntmps61
        go_wp2
        go_ret2
        exact ⟨by simp [stI, stB], rfl⟩
      · have t0 : (s == 0) = false := by simpa using s0
        have t2 : (s == 2) = false := by simpa using s2
        go_enter Try.func61, Try.ntmps61
        go_wp2
        go_ret2
        exact ⟨by simp [stI, stB, s0, s2], rfl⟩
  · by_cases k2 : k = 2
    · subst k2
      by_cases s1 : s = 1
      · subst s1
        go_enter Try.func61, Try.ntmps61
        go_wp2
        go_ret2
        exact ⟨by simp [stI, stB], rfl⟩
      · have t1 : (s == 1) = false := by simpa using s1
        go_enter Try.func61, Try.ntmps61
        go_wp2
        go_ret2
        exact ⟨by simp [stI, stB, s1], rfl⟩
    · by_cases k3 : k = 3
      · subst k3
        by_cases s1 : s = 1
        · subst s1
          go_enter Try.func61, Try.ntmps61
          go_wp2
          go_ret2
          exact ⟨by simp [stI, stB], rfl⟩
        · by_cases s2 : s = 2
          · subst s2
            go_enter Try.func61, Try.ntmps61
            go_wp2
            go_ret2
            exact ⟨by simp [stI, stB], rfl⟩
          · have t1 : (s == 1) = false := by simpa using s1
            have t2 : (s == 2) = false := by simpa using s2
            go_enter Try.func61, Try.ntmps61
            go_wp2
            go_ret2
            exact ⟨by simp [stI, stB, s1, s2], rfl⟩
      · by_cases k4 : k = 4
        · subst k4
          rcases Bool.eq_false_or_eq_true (inB s 1 3) with h | h
          all_goals
            go_enter Try.func61, Try.ntmps61
            go_wp2_with (first | (go_at_call 59; (with_reducible refine (within_any s 1 3 _).mono ?_); rintro e w' ⟨rfl, rfl⟩))
            go_ret2
            exact ⟨by simp [stI, stB, h], rfl⟩
        · have t1 : (k == 1) = false := by simpa using k1
          have t2 : (k == 2) = false := by simpa using k2
          have t3 : (k == 3) = false := by simpa using k3
          have t4 : (k == 4) = false := by simpa using k4
          go_enter Try.func61, Try.ntmps61
          go_wp2
          go_ret2
          exact ⟨by simp [stI, stB, k1, k2, k3, k4], rfl⟩
theorem sstatusAfter_any (s k : Int) (w : World) : Calls Try.prog 56 #[.int .i64 s, .int .i64 k] w fun e w' => e = .returned (.tuple #[.int .i64 (stI s k), .bool (stB s k)]) ∧ w = w' := by
  by_cases k1 : k = 1
  · subst k1
    by_cases s0 : s = 0
    · subst s0
      go_enter Try.func56, Try.ntmps56
      go_wp2
      go_ret2
      exact ⟨by simp [stI, stB], rfl⟩
    · by_cases s2 : s = 2
      · subst s2
        go_enter Try.func56, Try.ntmps56
        go_wp2
        go_ret2
        exact ⟨by simp [stI, stB], rfl⟩
      · have t0 : (s == 0) = false := by simpa using s0
        have t2 : (s == 2) = false := by simpa using s2
        go_enter Try.func56, Try.ntmps56
        go_wp2
        go_ret2
        exact ⟨by simp [stI, stB, s0, s2], rfl⟩
  · by_cases k2 : k = 2
    · subst k2
      by_cases s1 : s = 1
      · subst s1
        go_enter Try.func56, Try.ntmps56
        go_wp2
        go_ret2
        exact ⟨by simp [stI, stB], rfl⟩
      · have t1 : (s == 1) = false := by simpa using s1
        go_enter Try.func56, Try.ntmps56
        go_wp2
        go_ret2
        exact ⟨by simp [stI, stB, s1], rfl⟩
    · by_cases k3 : k = 3
      · subst k3
        by_cases s1 : s = 1
        · subst s1
          go_enter Try.func56, Try.ntmps56
          go_wp2
          go_ret2
          exact ⟨by simp [stI, stB], rfl⟩
        · by_cases s2 : s = 2
          · subst s2
            go_enter Try.func56, Try.ntmps56
            go_wp2
            go_ret2
            exact ⟨by simp [stI, stB], rfl⟩
          · have t1 : (s == 1) = false := by simpa using s1
            have t2 : (s == 2) = false := by simpa using s2
            go_enter Try.func56, Try.ntmps56
            go_wp2
            go_ret2
            exact ⟨by simp [stI, stB, s1, s2], rfl⟩
      · by_cases k4 : k = 4
        · subst k4
          rcases Bool.eq_false_or_eq_true (inB s 1 3) with h | h
          all_goals
            go_enter Try.func56, Try.ntmps56
            go_wp2_with (first | (go_at_call 55; (with_reducible refine (l01In_any s 1 3 _).mono ?_); rintro e w' ⟨rfl, rfl⟩))
            go_ret2
            exact ⟨by simp [stI, stB, h], rfl⟩
        · have t1 : (k == 1) = false := by simpa using k1
          have t2 : (k == 2) = false := by simpa using k2
          have t3 : (k == 3) = false := by simpa using k3
          have t4 : (k == 4) = false := by simpa using k4
          go_enter Try.func56, Try.ntmps56
          go_wp2
          go_ret2
          exact ⟨by simp [stI, stB, k1, k2, k3, k4], rfl⟩
end Go.Proofs.Ytgfcmeiffhffaaa
