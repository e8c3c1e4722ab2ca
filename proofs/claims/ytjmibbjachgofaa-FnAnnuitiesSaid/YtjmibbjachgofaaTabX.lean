/- Contracts of TableOk and DeathAt, of the program and of the reference. -/
import Derived.Test.YtjmibbjachgofaaTabW
namespace Go.Proofs.Ytjmibbjachgofaa
open Go.RowKit

/-- Is a table valid: its first age, its length, its numbers? -/
def tableB (f : Int) (n : Nat) (F : Nat → Int) : Bool := inB f 0 120 && inB n 1 121 && decide (f + n ≤ 121) && allB (fun i => inB (F i) 0 1000000) n && (F (n - 1) == 1000000)
theorem Row.at_ {w : World} {k : IntKind} {A : Option Addr} {n : Nat} {F : Nat → Int} (h : Row w k A n F) (h0 : 0 < n) : ∃ b off, A = some ⟨b, off, none⟩ ∧ b < w.heap.size ∧ ∀ i, i < n → w.cell? ⟨b, off + i, none⟩ = some (.int k (F i)) := by
  rcases h with h | h
  · omega
  · exact h
set_option maxHeartbeats 400000 in
theorem tableOk_any (f : Int) (A : Option Addr) (n cap : Nat) (F : Nat → Int) (w : World) (hn : n ≤ 1152921504606846975) (hr : Row w .i64 A n F) :
    Calls Try.prog 33 #[.agg #[.int .i64 f, .slice A n cap]] w fun e w' => e = .returned (.bool (tableB f n F)) ∧ Below w.heap.size w w' := by
  rcases Bool.eq_false_or_eq_true (inB f 0 120) with c1 | c1 <;> rcases Bool.eq_false_or_eq_true (inB n 1 121) with c2 | c2
  · obtain ⟨f0, f1⟩ := inB_true.1 c1
    obtain ⟨n0, n1⟩ := inB_true.1 c2
    by_cases c3 : f + n ≤ 121
    · obtain ⟨b, off, rfl, hb, hc⟩ := hr.at_ (by omega)
      have hl := hc (n - 1) (by omega)
      have hr' := Lib.hid (hr.alloc (.cells #[.int .i64 f, .slice (some ⟨b, off, none⟩) n cap] 39))
      clear hr hc
      rcases Bool.eq_false_or_eq_true (allB (fun i => inB (F i) 0 1000000) n) with c4 | c4
      · go_enter Try.func33, Try.ntmps33
        go_wp2_with (first | (go_at_call 55; (with_reducible refine (within_any f 0 120 _).mono ?_); rintro e w' ⟨rfl, rfl⟩) | (go_at_call 55; (with_reducible refine (within_any n 1 121 _).mono ?_); rintro e w' ⟨rfl, rfl⟩) | (go_at_call 61; (with_reducible refine (allWithin_any (some ⟨b, off, none⟩) n cap F 0 1000000 _ hn hr'.out).mono ?_); rintro e w1 ⟨rfl, hb1⟩; obtain ⟨hc1, hf1⟩ := bcell hb1; (try simp only [World.size_drew] at hc1 hf1); have hz1 := hb1.size; (try simp at hz1); (try have q1_0 : w.heap.size < w1.heap.size := by omega); (try have q1_1 : w.heap.size + 1 < w1.heap.size := by omega); (try have q1_2 : w.heap.size + 2 < w1.heap.size := by omega); (try have q1_3 : w.heap.size + 3 < w1.heap.size := by omega); (try have q1_4 : w.heap.size + 4 < w1.heap.size := by omega); (try have q1_0_0 : w0.heap.size < w1.heap.size := by omega); (try have q1_0_1 : w0.heap.size + 1 < w1.heap.size := by omega); (try have q1_2_0 : w2.heap.size < w1.heap.size := by omega); (try have q1_2_1 : w2.heap.size + 1 < w1.heap.size := by omega); (try have q1_3_0 : w3.heap.size < w1.heap.size := by omega); (try have q1_3_1 : w3.heap.size + 1 < w1.heap.size := by omega); (try have q1_4_0 : w4.heap.size < w1.heap.size := by omega); (try have q1_4_1 : w4.heap.size + 1 < w1.heap.size := by omega); (try have q1_5_0 : w5.heap.size < w1.heap.size := by omega); (try have q1_5_1 : w5.heap.size + 1 < w1.heap.size := by omega); (try have q1_6_0 : w6.heap.size < w1.heap.size := by omega); (try have q1_6_1 : w6.heap.size + 1 < w1.heap.size := by omega); (try have u1_b : b < w1.heap.size := by omega); (try have u1_q : q < w1.heap.size := by omega); (try have u1_g : g < w1.heap.size := by omega); (try have u1_g1 : g1 < w1.heap.size := by omega); (try have u1_g2 : g2 < w1.heap.size := by omega); (try have u1_g3 : g3 < w1.heap.size := by omega); (try have u1_g4 : g4 < w1.heap.size := by omega); (try have u1_g5 : g5 < w1.heap.size := by omega)))
        go_ret
        exact ⟨ret_bool (by simp [tableB, c1, c2, c3, c4]), by (repeat (first | with_reducible exact Below.refl _ _ | with_reducible refine Below.drew ?_ | (with_reducible refine Below.alloc ?_ ?hsz _; case hsz => ((try simp) <;> (try omega))) | (with_reducible refine Below.setCell ?_ ?hsz _; case hsz => ((try simp) <;> (try omega))) | (with_reducible refine below_step (by with_reducible assumption) ?hsz ?_; case hsz => ((try simp) <;> (try omega)))))⟩
      · go_enter Try.func33, Try.ntmps33
        go_wp2_with (first | (go_at_call 55; (with_reducible refine (within_any f 0 120 _).mono ?_); rintro e w' ⟨rfl, rfl⟩) | (go_at_call 55; (with_reducible refine (within_any n 1 121 _).mono ?_); rintro e w' ⟨rfl, rfl⟩) | (go_at_call 61; (with_reducible refine (allWithin_any (some ⟨b, off, none⟩) n cap F 0 1000000 _ hn hr'.out).mono ?_); rintro e w1 ⟨rfl, hb1⟩; obtain ⟨hc1, hf1⟩ := bcell hb1; (try simp only [World.size_drew] at hc1 hf1); have hz1 := hb1.size; (try simp at hz1); (try have q1_0 : w.heap.size < w1.heap.size := by omega); (try have q1_1 : w.heap.size + 1 < w1.heap.size := by omega); (try have q1_2 : w.heap.size + 2 < w1.heap.size := by omega); (try have q1_3 : w.heap.size + 3 < w1.heap.size := by omega); (try have q1_4 : w.heap.size + 4 < w1.heap.size := by omega); (try have q1_0_0 : w0.heap.size < w1.heap.size := by omega); (try have q1_0_1 : w0.heap.size + 1 < w1.heap.size := by omega); (try have q1_2_0 : w2.heap.size < w1.heap.size := by omega); (try have q1_2_1 : w2.heap.size + 1 < w1.heap.size := by omega); (try have q1_3_0 : w3.heap.size < w1.heap.size := by omega); (try have q1_3_1 : w3.heap.size + 1 < w1.heap.size := by omega); (try have q1_4_0 : w4.heap.size < w1.heap.size := by omega); (try have q1_4_1 : w4.heap.size + 1 < w1.heap.size := by omega); (try have q1_5_0 : w5.heap.size < w1.heap.size := by omega); (try have q1_5_1 : w5.heap.size + 1 < w1.heap.size := by omega); (try have q1_6_0 : w6.heap.size < w1.heap.size := by omega); (try have q1_6_1 : w6.heap.size + 1 < w1.heap.size := by omega); (try have u1_b : b < w1.heap.size := by omega); (try have u1_q : q < w1.heap.size := by omega); (try have u1_g : g < w1.heap.size := by omega); (try have u1_g1 : g1 < w1.heap.size := by omega); (try have u1_g2 : g2 < w1.heap.size := by omega); (try have u1_g3 : g3 < w1.heap.size := by omega); (try have u1_g4 : g4 < w1.heap.size := by omega); (try have u1_g5 : g5 < w1.heap.size := by omega)))
        go_ret
        exact ⟨ret_bool (by simp [tableB, c4]), by (repeat (first | with_reducible exact Below.refl _ _ | with_reducible refine Below.drew ?_ | (with_reducible refine Below.alloc ?_ ?hsz _; case hsz => ((try simp) <;> (try omega))) | (with_reducible refine Below.setCell ?_ ?hsz _; case hsz => ((try simp) <;> (try omega))) | (with_reducible refine below_step (by with_reducible assumption) ?hsz ?_; case hsz => ((try simp) <;> (try omega)))))⟩
    · clear hr
      go_enter Try.func33, Try.ntmps33
      go_wp2_with (first | (go_at_call 55; (with_reducible refine (within_any f 0 120 _).mono ?_); rintro e w' ⟨rfl, rfl⟩) | (go_at_call 55; (with_reducible refine (within_any n 1 121 _).mono ?_); rintro e w' ⟨rfl, rfl⟩))
      go_ret
      exact ⟨ret_bool (by have : decide (f + n ≤ 121) = false := by simp; omega
                          simp [tableB, this]), by (repeat (first | with_reducible exact Below.refl _ _ | with_reducible refine Below.drew ?_ | (with_reducible refine Below.alloc ?_ ?hsz _; case hsz => ((try simp) <;> (try omega))) | (with_reducible refine Below.setCell ?_ ?hsz _; case hsz => ((try simp) <;> (try omega))) | (with_reducible refine below_step (by with_reducible assumption) ?hsz ?_; case hsz => ((try simp) <;> (try omega)))))⟩
  all_goals
    clear hr
    go_enter Try.func33, Try.ntmps33
    go_wp2_with (first | (go_at_call 55; (with_reducible refine (within_any f 0 120 _).mono ?_); rintro e w' ⟨rfl, rfl⟩) | (go_at_call 55; (with_reducible refine (within_any n 1 121 _).mono ?_); rintro e w' ⟨rfl, rfl⟩))
    go_ret
    exact ⟨ret_bool (by simp [tableB, c1, c2]), by (repeat (first | with_reducible exact Below.refl _ _ | with_reducible refine Below.drew ?_ | (with_reducible refine Below.alloc ?_ ?hsz _; case hsz => ((try simp) <;> (try omega))) | (with_reducible refine Below.setCell ?_ ?hsz _; case hsz => ((try simp) <;> (try omega))) | (with_reducible refine below_step (by with_reducible assumption) ?hsz ?_; case hsz => ((try simp) <;> (try omega)))))⟩
set_option maxHeartbeats 400000 in
theorem stableOk_any (f : Int) (A : Option Addr) (n cap : Nat) (F : Nat → Int) (w : World) (hn : n ≤ 1152921504606846975) (hr : Row w .i64 A n F) :
    Calls Try.prog 64 #[.agg #[.int .i64 f, .slice A n cap]] w fun e w' => e = .returned (.bool (tableB f n F)) ∧ Below w.heap.size w w' := by
  rcases Bool.eq_false_or_eq_true (inB f 0 120) with c1 | c1
  · obtain ⟨f0, f1⟩ := inB_true.1 c1
    rcases Bool.eq_false_or_eq_true (inB n 1 (121 - f)) with c2 | c2
    · obtain ⟨n0, n1⟩ := inB_true.1 c2
      have c3 : inB n 1 121 = true := inB_true.2 ⟨by omega, by omega⟩
      obtain ⟨b, off, rfl, hb, hc⟩ := hr.at_ (by omega)
      have HC := Lib.hid hc
      clear hr hc
      go_enter Try.func64, Try.ntmps64
      go_wp2_with (first | (go_at_call 54; (with_reducible refine (l01In_any f 0 120 _).mono ?_); rintro e w' ⟨rfl, rfl⟩) | (go_at_call 54; (with_reducible refine (l01In_any n 1 (121 - f) _).mono ?_); rintro e w' ⟨rfl, rfl⟩))
      go_loop [4] (fun i => ∃ k : Nat, k ≤ n ∧ i = .int .i64 k ∧ Hid (∀ j, j < k → inB (F j) 0 1000000 = true)) (fun i => n - (intOf i).toNat)
      case atStart => exact ⟨0, Nat.zero_le _, rfl, fun j hj => by omega⟩
      case round =>
        obtain ⟨k, hk, rfl, hf⟩ := hrel
        by_cases hlt : k < n
        · have hck := HC.out k hlt
          rcases Bool.eq_false_or_eq_true (inB (F k) 0 1000000) with hp | hp
          · go_wp2_with (go_at_call 54; (with_reducible refine (l01In_any (F k) 0 1000000 _).mono ?_); rintro e w' ⟨rfl, rfl⟩)
            go_round
            case rel => exact ⟨k + 1, by omega, by go_num, fun j hj => by
              rcases Nat.lt_or_ge j k with h | h
              · exact hf.out j h
              · obtain rfl : j = k := by omega
                exact hp⟩
            case measure => simp [intOf]; omega
          · go_wp2_with (go_at_call 54; (with_reducible refine (l01In_any (F k) 0 1000000 _).mono ?_); rintro e w' ⟨rfl, rfl⟩)
            go_ret
            exact ⟨ret_bool (by simp [tableB, allB_false (p := fun i => inB (F i) 0 1000000) hlt hp]), by (repeat (first | with_reducible exact Below.refl _ _ | with_reducible refine Below.drew ?_ | (with_reducible refine Below.alloc ?_ ?hsz _; case hsz => ((try simp) <;> (try omega))) | (with_reducible refine Below.setCell ?_ ?hsz _; case hsz => ((try simp) <;> (try omega))) | (with_reducible refine below_step (by with_reducible assumption) ?hsz ?_; case hsz => ((try simp) <;> (try omega)))))⟩
        · obtain rfl : k = n := by omega
          have hl := HC.out (k - 1) (by omega)
          have c4 : allB (fun i => inB (F i) 0 1000000) k = true := allB_iff.2 hf.out
          clear hf
          have hd : decide (f + k ≤ 121) = true := by simp; omega
          go_wp2
          go_ret
          exact ⟨ret_bool (by simp [tableB, c1, c3, c4, hd]), by (repeat (first | with_reducible exact Below.refl _ _ | with_reducible refine Below.drew ?_ | (with_reducible refine Below.alloc ?_ ?hsz _; case hsz => ((try simp) <;> (try omega))) | (with_reducible refine Below.setCell ?_ ?hsz _; case hsz => ((try simp) <;> (try omega))) | (with_reducible refine below_step (by with_reducible assumption) ?hsz ?_; case hsz => ((try simp) <;> (try omega)))))⟩
    · have hz : tableB f n F = false := by
        rcases Bool.eq_false_or_eq_true (inB n 1 121) with c3 | c3
        · obtain ⟨n0, n1⟩ := inB_true.1 c3
          have : ¬ (f + n ≤ 121) := fun h => inB_false.1 c2 ⟨n0, by omega⟩
          simp [tableB, this]
        · simp [tableB, c3]
      clear hr
      go_enter Try.func64, Try.ntmps64
      go_wp2_with (first | (go_at_call 54; (with_reducible refine (l01In_any f 0 120 _).mono ?_); rintro e w' ⟨rfl, rfl⟩) | (go_at_call 54; (with_reducible refine (l01In_any n 1 (121 - f) _).mono ?_); rintro e w' ⟨rfl, rfl⟩))
      go_ret
      exact ⟨ret_bool hz.symm, by (repeat (first | with_reducible exact Below.refl _ _ | with_reducible refine Below.drew ?_ | (with_reducible refine Below.alloc ?_ ?hsz _; case hsz => ((try simp) <;> (try omega))) | (with_reducible refine Below.setCell ?_ ?hsz _; case hsz => ((try simp) <;> (try omega))) | (with_reducible refine below_step (by with_reducible assumption) ?hsz ?_; case hsz => ((try simp) <;> (try omega)))))⟩
  · clear hr
    go_enter Try.func64, Try.ntmps64
    go_wp2_with (first | (go_at_call 54; (with_reducible refine (l01In_any f 0 120 _).mono ?_); rintro e w' ⟨rfl, rfl⟩))
    go_ret
    exact ⟨ret_bool (by simp [tableB, c1]), by (repeat (first | with_reducible exact Below.refl _ _ | with_reducible refine Below.drew ?_ | (with_reducible refine Below.alloc ?_ ?hsz _; case hsz => ((try simp) <;> (try omega))) | (with_reducible refine Below.setCell ?_ ?hsz _; case hsz => ((try simp) <;> (try omega))) | (with_reducible refine below_step (by with_reducible assumption) ?hsz ?_; case hsz => ((try simp) <;> (try omega)))))⟩
end Go.Proofs.Ytjmibbjachgofaa
