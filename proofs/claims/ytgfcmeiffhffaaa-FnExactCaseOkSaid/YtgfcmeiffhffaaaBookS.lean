/- Contract of the reference's BookOk. -/
import Derived.Test.YtgfcmeiffhffaaaBook
namespace Go.Proofs.Ytgfcmeiffhffaaa
open Go.RowKit

theorem endOk_any (x : Int) (w : World) : Calls Try.prog 99 #[.int .i64 x] w fun e w' => e = .returned (.bool (inB x 0 3600)) ∧ w = w' := by
  go_enter Try.func99, Try.ntmps99
  go_wp2_with (go_at_call 55; (with_reducible refine (l01In_any x 0 3600 _).mono ?_); rintro e w' ⟨rfl, rfl⟩)
  go_ret
  exact ⟨rfl, rfl⟩
/-- The months that two spans share. -/
def bothI (a b c d : Int) : Int := if 0 < min b d - (if a < c then c else a) then min b d - (if a < c then c else a) else 0
theorem bothI_pos {a b c d : Int} (h1 : a < b) (h2 : c < d) : decide (0 < bothI a b c d) = (decide (a < d) && decide (c < b)) := by
  rw [Bool.eq_iff_iff]
  simp only [Bool.and_eq_true, decide_eq_true_eq]
  unfold bothI
  rcases Int.le_total b d with h3 | h3
  · rw [Int.min_eq_left h3]
    split <;> split <;> omega
  · rw [Int.min_eq_right h3]
    split <;> split <;> omega
theorem monthsIn_any (a b c d : Int) (h1 : spanB a b = true) (h2 : spanB c d = true) (w : World) : Calls Try.prog 68 #[.int .i64 a, .int .i64 b, .int .i64 c, .int .i64 d] w fun e w' => e = .returned (.int .i64 (bothI a b c d)) ∧ w = w' := by
  obtain ⟨a0, a1, a2⟩ := spanB_true.1 h1
  obtain ⟨c0, c1, c2⟩ := spanB_true.1 h2
  have q1 : inB a 0 3600 = true := inB_true.2 (by omega)
  have q2 : inB b 0 3600 = true := inB_true.2 (by omega)
  have q3 : inB c 0 3600 = true := inB_true.2 (by omega)
  have q4 : inB d 0 3600 = true := inB_true.2 (by omega)
  have HX := Lib.hid (show ∀ x y : Int, min x y = if x ≤ y then x else y from fun x y => rfl)
  go_enter Try.func68, Try.ntmps68
  go_wp2_with (first | (go_at_call 99; (with_reducible refine (endOk_any a _).mono ?_); rintro e w' ⟨rfl, rfl⟩) | (go_at_call 99; (with_reducible refine (endOk_any b _).mono ?_); rintro e w' ⟨rfl, rfl⟩) | (go_at_call 99; (with_reducible refine (endOk_any c _).mono ?_); rintro e w' ⟨rfl, rfl⟩) | (go_at_call 99; (with_reducible refine (endOk_any d _).mono ?_); rintro e w' ⟨rfl, rfl⟩))
  all_goals go_ret
  all_goals exact ⟨ret_int (by unfold bothI; repeat' split <;> omega), rfl⟩
set_option maxRecDepth 100000 in
set_option maxHeartbeats 8000000 in
theorem sbookOk_any (A : Option Addr) (n cap : Nat) (R : Nat → Nat → Int) (NA : Nat → Option Addr) (Nn Nc : Nat → Nat) (NF : Nat → Nat → Nat → Int) (w : World) (hn : n ≤ 1048576) (hr : Rules w A n R NA Nn Nc NF) :
    Calls Try.prog 36 #[.agg #[.slice A n cap]] w fun e w' => e = .returned (.bool (bookB R Nn NF n)) ∧ Below w.heap.size w w' := by
  have HR := Lib.hid hr
  clear hr
  go_enter Try.func36, Try.ntmps36
  go_wp2_with fail
  go_loopw [3] (fun i wr => ∃ m : Nat, m ≤ n ∧ i = .int .i64 m ∧ Below w.heap.size w wr ∧ Box wr w.heap.size 50 #[.slice A n cap] ∧ Hid (∀ i, i < m → bookAt R Nn NF i = true)) (fun i _ => n - (intOf i).toNat)
  case atStart => exact ⟨0, Nat.zero_le _, rfl, by (repeat (first | with_reducible exact Below.refl _ _ | with_reducible refine Below.drew ?_ | (with_reducible refine Below.alloc ?_ ?hsz _; case hsz => ((try simp) <;> (try omega))) | (with_reducible refine Below.setCell ?_ ?hsz _; case hsz => ((try simp) <;> (try omega))) | (with_reducible refine below_step (by with_reducible assumption) ?hsz ?_; case hsz => ((try simp) <;> (try omega))))), by (repeat (first | with_reducible assumption | with_reducible exact Box.made _ _ _ | (with_reducible refine Box.made_at ?hg; case hg => (simp; done)) | with_reducible refine Box.drew ?_ | with_reducible refine Box.alloc ?_ _ | (with_reducible refine Box.put2 (a := .int .i64 0) (b := .int .i64 0) ?_ _ _) | (with_reducible refine Box.far ?_ ?hg _; case hg => ((try simp) <;> (try omega))) | with_reducible refine Box.kept ?_ (by with_reducible assumption))), fun i hi => by omega⟩
  case round =>
    obtain ⟨m, hm, rfl, hbw, x1, hF⟩ := hrel
    have t1 := x1.cell 0
    have l1 := x1.lt
    have HB := Lib.hid hbw
    have X1 := Lib.hid x1
    have zb := hbw.size
    by_cases hlt : m < n
    · obtain ⟨b, off, e, hb, c0, c1, c2, c3, c4, c5, c6⟩ := HR.out.at7 hlt
      have d0 := (hbw.cell (p := ⟨b, off + m * 7, none⟩) hb).trans c0
      have d1 := (hbw.cell (p := ⟨b, off + m * 7 + 1, none⟩) hb).trans c1
      have d2 := (hbw.cell (p := ⟨b, off + m * 7 + 2, none⟩) hb).trans c2
      have d3 := (hbw.cell (p := ⟨b, off + m * 7 + 3, none⟩) hb).trans c3
      have d4 := (hbw.cell (p := ⟨b, off + m * 7 + 4, none⟩) hb).trans c4
      have d5 := (hbw.cell (p := ⟨b, off + m * 7 + 5, none⟩) hb).trans c5
      have d6 := (hbw.cell (p := ⟨b, off + m * 7 + 6, none⟩) hb).trans c6
      have RN := Lib.hid (((HR.out.nodes m hlt).kept hbw).alloc (.cells #[.int .i64 (R m 0), .int .i64 (R m 1), .int .i64 (R m 2), .int .i64 (R m 3), .int .i64 (R m 4), .int .i64 (R m 5), .slice (NA m) (Nn m) (Nc m)] 119))
      have HSm := Lib.hid (HR.out.small m hlt)
      have hmi : (m : Int) < (n : Int) := by omega
      have hm0 : (0 : Int) ≤ (m : Int) := by omega
      subst e
      clear c0 c1 c2 c3 c4 c5 c6 hb hbw x1
      rcases Bool.eq_false_or_eq_true (ruleAt R Nn NF m) with k1 | k1
      · have k2 : ruleB (R m 0) (R m 1) (R m 2) (R m 3) (R m 4) (R m 5) (NF m) (Nn m) = true := k1
        have K := Lib.hid k1
        have SP := Lib.hid (fun k (hk : k ≤ m) => (by
          rcases Nat.lt_or_ge k m with h | h
          · have h2 := hF.out k h
            simp only [bookAt, ruleAt, ruleB, Bool.and_eq_true] at h2
            exact h2.1.2.1
          · obtain rfl : k = m := by omega
            simp only [ruleAt, ruleB, Bool.and_eq_true] at k1
            exact k1.2.1 : spanB (R k 1) (R k 2) = true))
        clear k1
        go_wp2_with (go_at_call 67; (with_reducible refine (sruleOk_any (R m 0) (R m 1) (R m 2) (R m 3) (R m 4) (R m 5) (NA m) (Nn m) (Nc m) (NF m) _ HSm.out RN.out).mono ?_); rintro e w1 ⟨rfl, hb1⟩; obtain ⟨hc1, hf1⟩ := bcell hb1; (try simp only [World.size_drew] at hc1 hf1); have hz1 := hb1.size; (try simp at hz1); (try have q1_0 : w.heap.size < w1.heap.size := by omega); (try have q1_1 : w.heap.size + 1 < w1.heap.size := by omega); (try have q1_2 : w.heap.size + 2 < w1.heap.size := by omega); (try have q1_3 : w.heap.size + 3 < w1.heap.size := by omega); (try have q1_4 : w.heap.size + 4 < w1.heap.size := by omega); (try have q1_0_0 : w0.heap.size < w1.heap.size := by omega); (try have q1_0_1 : w0.heap.size + 1 < w1.heap.size := by omega); (try have q1_2_0 : w2.heap.size < w1.heap.size := by omega); (try have q1_2_1 : w2.heap.size + 1 < w1.heap.size := by omega); (try have q1_3_0 : w3.heap.size < w1.heap.size := by omega); (try have q1_3_1 : w3.heap.size + 1 < w1.heap.size := by omega); (try have q1_4_0 : w4.heap.size < w1.heap.size := by omega); (try have q1_4_1 : w4.heap.size + 1 < w1.heap.size := by omega); (try have q1_5_0 : w5.heap.size < w1.heap.size := by omega); (try have q1_5_1 : w5.heap.size + 1 < w1.heap.size := by omega); (try have q1_6_0 : w6.heap.size < w1.heap.size := by omega); (try have q1_6_1 : w6.heap.size + 1 < w1.heap.size := by omega); (try have u1_b : b < w1.heap.size := by omega); (try have u1_q : q < w1.heap.size := by omega); (try have u1_g : g < w1.heap.size := by omega); (try have u1_g1 : g1 < w1.heap.size := by omega); (try have u1_g2 : g2 < w1.heap.size := by omega); (try have u1_g3 : g3 < w1.heap.size := by omega); (try have u1_g4 : g4 < w1.heap.size := by omega); (try have u1_g5 : g5 < w1.heap.size := by omega))
        have B1 := Lib.hid (show Below w.heap.size w w1 by have hbw := HB.out; (repeat (first | with_reducible exact Below.refl _ _ | with_reducible refine Below.drew ?_ | (with_reducible refine Below.alloc ?_ ?hsz _; case hsz => ((try simp) <;> (try omega))) | (with_reducible refine Below.setCell ?_ ?hsz _; case hsz => ((try simp) <;> (try omega))) | (with_reducible refine below_step (by with_reducible assumption) ?hsz ?_; case hsz => ((try simp) <;> (try omega))))))
        have Y1 := Lib.hid ((X1.out.alloc (.cells #[.int .i64 (R m 0), .int .i64 (R m 1), .int .i64 (R m 2), .int .i64 (R m 3), .int .i64 (R m 4), .int .i64 (R m 5), .slice (NA m) (Nn m) (Nc m)] 119)).kept hb1)
        have Y4 := Lib.hid ((Box.made wr 119 #[.int .i64 (R m 0), .int .i64 (R m 1), .int .i64 (R m 2), .int .i64 (R m 3), .int .i64 (R m 4), .int .i64 (R m 5), .slice (NA m) (Nn m) (Nc m)]).kept hb1)
        clear hb1 hc1 hf1 X1 HB RN d0 d1 d2 d3 d4 d5 d6 t1 l1
        obtain ⟨wo, rfl⟩ : ∃ wo : World, wo = wr := ⟨_, rfl⟩
        have t1 := Y1.out.cell 0
        have l1 := Y1.out.lt
        go_wp2_with fail
        go_loopw [5] (fun i ws => ∃ j : Nat, j ≤ m ∧ i = .int .i64 j ∧ Below w.heap.size w ws ∧ Box ws w.heap.size 50 #[.slice (some ⟨b, off, none⟩) n cap] ∧ Box ws wo.heap.size 119 #[.int .i64 (R m 0), .int .i64 (R m 1), .int .i64 (R m 2), .int .i64 (R m 3), .int .i64 (R m 4), .int .i64 (R m 5), .slice (NA m) (Nn m) (Nc m)] ∧ Hid (∀ k, k < j → clash R m k = false)) (fun i _ => m - (intOf i).toNat)
        case atStart => exact ⟨0, Nat.zero_le _, rfl, B1.out, Y1.out, Y4.out, fun k hk => by omega⟩
        case round =>
          clear B1 Y1 Y4
          obtain ⟨j, hj, rfl, hbw, y1, y4, hC⟩ := hrel
          have zb2 := hbw.size
          by_cases hjl : j < m
          · obtain ⟨b', off', e, hb, c0, c1, c2, c3, c4, c5, c6⟩ := HR.out.at7 (show j < n by omega)
            cases e
            have d0 := (hbw.cell (p := ⟨b, off + j * 7, none⟩) hb).trans c0
            have d1 := (hbw.cell (p := ⟨b, off + j * 7 + 1, none⟩) hb).trans c1
            have d2 := (hbw.cell (p := ⟨b, off + j * 7 + 2, none⟩) hb).trans c2
            have d3 := (hbw.cell (p := ⟨b, off + j * 7 + 3, none⟩) hb).trans c3
            have d4 := (hbw.cell (p := ⟨b, off + j * 7 + 4, none⟩) hb).trans c4
            have d5 := (hbw.cell (p := ⟨b, off + j * 7 + 5, none⟩) hb).trans c5
            have d6 := (hbw.cell (p := ⟨b, off + j * 7 + 6, none⟩) hb).trans c6
            have g1 := y1.cell 0
            have lg1 := y1.lt
            have f0 := y4.cell 0
            have f1 := y4.cell 1
            have f2 := y4.cell 2
            have f4 := y4.cell 4
            have l4 := y4.lt
            have hji : (j : Int) < (m : Int) := by omega
            have hj0 : (0 : Int) ≤ (j : Int) := by omega
            have HB2 := Lib.hid hbw
            have Y1 := Lib.hid y1
            have Y4 := Lib.hid y4
            clear c0 c1 c2 c3 c4 c5 c6 hb hbw y1 y4
            have HMI := Lib.hid (monthsIn_any (R j 1) (R j 2) (R m 1) (R m 2) (SP.out j (by omega)) (SP.out m (Nat.le_refl _)))
            have HPOS := Lib.hid (bothI_pos (spanB_true.1 (SP.out j (by omega))).2.1 (spanB_true.1 (SP.out m (Nat.le_refl _))).2.1)
            rcases Bool.eq_false_or_eq_true (R j 0 == R m 0) with a1 | a1
            · rcases Bool.eq_false_or_eq_true (R j 4 == R m 4) with a2 | a2
              · rcases Bool.eq_false_or_eq_true (decide (0 < bothI (R j 1) (R j 2) (R m 1) (R m 2))) with a3 | a3
                · have KC := Lib.hid (show clash R m j = true by have h := HPOS.out; rw [a3] at h; simp only [clash, a1, a2, ← h, Bool.and_self])
                  clear HPOS
                  generalize bothI (R j 1) (R j 2) (R m 1) (R m 2) = mi at *
                  go_wp2_with (go_at_call 68; (with_reducible refine (HMI.out _).mono ?_); rintro e w' ⟨rfl, rfl⟩)
                  go_ret
                  exact ⟨ret_bool (bookB_bad hlt (bookAt_clash hjl KC.out)).symm, by have hbw := HB2.out; (repeat (first | with_reducible exact Below.refl _ _ | with_reducible refine Below.drew ?_ | (with_reducible refine Below.alloc ?_ ?hsz _; case hsz => ((try simp) <;> (try omega))) | (with_reducible refine Below.setCell ?_ ?hsz _; case hsz => ((try simp) <;> (try omega))) | (with_reducible refine below_step (by with_reducible assumption) ?hsz ?_; case hsz => ((try simp) <;> (try omega)))))⟩
                · have KC := Lib.hid (show clash R m j = false by have h := HPOS.out; rw [a3] at h; simp only [clash, ← h, Bool.and_false])
                  clear HPOS
                  generalize bothI (R j 1) (R j 2) (R m 1) (R m 2) = mi at *
                  go_wp2_with (go_at_call 68; (with_reducible refine (HMI.out _).mono ?_); rintro e w' ⟨rfl, rfl⟩); go_roundw; (case rel => exact ⟨j + 1, by omega, by go_num, (by have hbw := HB2.out; (repeat (first | with_reducible exact Below.refl _ _ | with_reducible refine Below.drew ?_ | (with_reducible refine Below.alloc ?_ ?hsz _; case hsz => ((try simp) <;> (try omega))) | (with_reducible refine Below.setCell ?_ ?hsz _; case hsz => ((try simp) <;> (try omega))) | (with_reducible refine below_step (by with_reducible assumption) ?hsz ?_; case hsz => ((try simp) <;> (try omega)))))), Y1.out.alloc _, Y4.out.alloc _, fun k hk => by rcases Nat.lt_or_ge k j with h | h; exact hC.out k h; obtain rfl : k = j := (by omega); exact KC.out⟩); (case measure => simp [intOf]; omega)
              · have KC := Lib.hid (show clash R m j = false by simp only [clash, a2, Bool.false_and, Bool.and_false])
                go_wp2_with (go_at_call 68; (with_reducible refine (HMI.out _).mono ?_); rintro e w' ⟨rfl, rfl⟩); go_roundw; (case rel => exact ⟨j + 1, by omega, by go_num, (by have hbw := HB2.out; (repeat (first | with_reducible exact Below.refl _ _ | with_reducible refine Below.drew ?_ | (with_reducible refine Below.alloc ?_ ?hsz _; case hsz => ((try simp) <;> (try omega))) | (with_reducible refine Below.setCell ?_ ?hsz _; case hsz => ((try simp) <;> (try omega))) | (with_reducible refine below_step (by with_reducible assumption) ?hsz ?_; case hsz => ((try simp) <;> (try omega)))))), Y1.out.alloc _, Y4.out.alloc _, fun k hk => by rcases Nat.lt_or_ge k j with h | h; exact hC.out k h; obtain rfl : k = j := (by omega); exact KC.out⟩); (case measure => simp [intOf]; omega)
            · have KC := Lib.hid (show clash R m j = false by simp only [clash, a1, Bool.false_and])
              go_wp2_with (go_at_call 68; (with_reducible refine (HMI.out _).mono ?_); rintro e w' ⟨rfl, rfl⟩); go_roundw; (case rel => exact ⟨j + 1, by omega, by go_num, (by have hbw := HB2.out; (repeat (first | with_reducible exact Below.refl _ _ | with_reducible refine Below.drew ?_ | (with_reducible refine Below.alloc ?_ ?hsz _; case hsz => ((try simp) <;> (try omega))) | (with_reducible refine Below.setCell ?_ ?hsz _; case hsz => ((try simp) <;> (try omega))) | (with_reducible refine below_step (by with_reducible assumption) ?hsz ?_; case hsz => ((try simp) <;> (try omega)))))), Y1.out.alloc _, Y4.out.alloc _, fun k hk => by rcases Nat.lt_or_ge k j with h | h; exact hC.out k h; obtain rfl : k = j := (by omega); exact KC.out⟩); (case measure => simp [intOf]; omega)
          · obtain rfl : m = j := by omega
            have HK := Lib.hid (bookAt_good K.out hC.out)
            go_wp2
            go_roundw
            case rel => exact ⟨m + 1, by omega, by go_num, hbw, y1, allT_snoc hF.out HK.out⟩
            case measure => simp [intOf]; omega
      · have k2 : ruleB (R m 0) (R m 1) (R m 2) (R m 3) (R m 4) (R m 5) (NF m) (Nn m) = false := k1
        have K := Lib.hid (show bookAt R Nn NF m = false by simp only [bookAt, k1, Bool.false_and])
        clear k1
        go_wp2_with (go_at_call 67; (with_reducible refine (sruleOk_any (R m 0) (R m 1) (R m 2) (R m 3) (R m 4) (R m 5) (NA m) (Nn m) (Nc m) (NF m) _ HSm.out RN.out).mono ?_); rintro e w1 ⟨rfl, hb1⟩; obtain ⟨hc1, hf1⟩ := bcell hb1; (try simp only [World.size_drew] at hc1 hf1); have hz1 := hb1.size; (try simp at hz1); (try have q1_0 : w.heap.size < w1.heap.size := by omega); (try have q1_1 : w.heap.size + 1 < w1.heap.size := by omega); (try have q1_2 : w.heap.size + 2 < w1.heap.size := by omega); (try have q1_3 : w.heap.size + 3 < w1.heap.size := by omega); (try have q1_4 : w.heap.size + 4 < w1.heap.size := by omega); (try have q1_0_0 : w0.heap.size < w1.heap.size := by omega); (try have q1_0_1 : w0.heap.size + 1 < w1.heap.size := by omega); (try have q1_2_0 : w2.heap.size < w1.heap.size := by omega); (try have q1_2_1 : w2.heap.size + 1 < w1.heap.size := by omega); (try have q1_3_0 : w3.heap.size < w1.heap.size := by omega); (try have q1_3_1 : w3.heap.size + 1 < w1.heap.size := by omega); (try have q1_4_0 : w4.heap.size < w1.heap.size := by omega); (try have q1_4_1 : w4.heap.size + 1 < w1.heap.size := by omega); (try have q1_5_0 : w5.heap.size < w1.heap.size := by omega); (try have q1_5_1 : w5.heap.size + 1 < w1.heap.size := by omega); (try have q1_6_0 : w6.heap.size < w1.heap.size := by omega); (try have q1_6_1 : w6.heap.size + 1 < w1.heap.size := by omega); (try have u1_b : b < w1.heap.size := by omega); (try have u1_q : q < w1.heap.size := by omega); (try have u1_g : g < w1.heap.size := by omega); (try have u1_g1 : g1 < w1.heap.size := by omega); (try have u1_g2 : g2 < w1.heap.size := by omega); (try have u1_g3 : g3 < w1.heap.size := by omega); (try have u1_g4 : g4 < w1.heap.size := by omega); (try have u1_g5 : g5 < w1.heap.size := by omega))
        go_ret
        exact ⟨ret_bool (bookB_bad hlt K.out).symm, (by have hbw := HB.out; (repeat (first | with_reducible exact Below.refl _ _ | with_reducible refine Below.drew ?_ | (with_reducible refine Below.alloc ?_ ?hsz _; case hsz => ((try simp) <;> (try omega))) | (with_reducible refine Below.setCell ?_ ?hsz _; case hsz => ((try simp) <;> (try omega))) | (with_reducible refine below_step (by with_reducible assumption) ?hsz ?_; case hsz => ((try simp) <;> (try omega))))))⟩
    · obtain rfl : n = m := by omega
      have HE := Lib.hid (show bookB R Nn NF n = decide (n ≤ 20) by simp only [bookB, allB_iff.2 hF.out, Bool.true_and])
      clear hbw x1
      go_wp2_with fail
      go_ret
      exact ⟨ret_bool (by rw [HE.out]; first | rfl | (simp; done) | (rw [Bool.eq_iff_iff]; simp; omega)), HB.out⟩
end Go.Proofs.Ytgfcmeiffhffaaa
