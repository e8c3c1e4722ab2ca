/- Contracts of SeriesOk, of the program and of the reference. -/
import Derived.BigQuiet
import Derived.Deep.QuietTactic
import Derived.Outline
import Derived.Test.YtgfcmeiffhffaaaJRow
import Derived.Test.YtgfcmeiffhffaaaJRec
import Derived.Test.YtgfcmeiffhffaaaJMonth
namespace Go.Proofs.Ytgfcmeiffhffaaa
open Go.RowKit

def pointAt (F : Nat → Nat → Int) (i : Nat) : Bool := inB (F i 0) 0 3599 && (inB (F i 1) 0 3599 && (!decide (F i 1 < F i 0) && inB (F i 2) 1 1000000))
/-- Point i is right, and known no earlier than the one ahead of it. -/
def seriesAt (F : Nat → Nat → Int) (i : Nat) : Bool := pointAt F i && (decide (i = 0) || !decide (F i 1 < F (i - 1) 1))
def seriesB (F : Nat → Nat → Int) (n : Nat) : Bool := allB (seriesAt F) n && decide (n ≤ 200)
theorem seriesB_bad {F : Nat → Nat → Int} {n m : Nat} (hm : m < n) (h : seriesAt F m = false) : seriesB F n = false := by simp [seriesB, allB_false hm h]
theorem seriesAll_snoc {p : Nat → Bool} {m : Nat} (h : ∀ i, i < m → p i = true) (hp : p m = true) : ∀ i, i < m + 1 → p i = true := fun i hi => by
  rcases Nat.lt_or_ge i m with h1 | h1
  · exact h i h1
  · obtain rfl : i = m := by omega
    exact hp

set_option maxRecDepth 100000 in
set_option maxHeartbeats 8000000 in
theorem seriesOk_any (A : Option Addr) (n cap : Nat) (F : Nat → Nat → Int) (w : World) (hn : n ≤ 1048576) (hr : Recs w 3 A n F) :
    Calls Try.prog 44 #[.agg #[.slice A n cap]] w fun e w' => e = .returned (.bool (seriesB F n)) ∧ Below w.heap.size w w' := by
  have HR := Lib.hid hr
  clear hr
  go_enter Try.func44, Try.ntmps44
  go_wp2_with fail
  go_loopw [8] (fun i wr => ∃ m : Nat, m ≤ n ∧ i = .int .i64 m ∧ Below w.heap.size w wr ∧ Box wr w.heap.size 56 #[.slice A n cap] ∧ Hid (∀ i, i < m → seriesAt F i = true)) (fun i _ => n - (intOf i).toNat)
  case atStart => exact ⟨0, Nat.zero_le _, rfl, by (repeat (first | with_reducible exact Below.refl _ _ | with_reducible refine Below.drew ?_ | (with_reducible refine Below.alloc ?_ ?hsz _; case hsz => ((try simp) <;> (try omega))) | (with_reducible refine Below.setCell ?_ ?hsz _; case hsz => ((try simp) <;> (try omega))) | (with_reducible refine below_step (by with_reducible assumption) ?hsz ?_; case hsz => ((try simp) <;> (try omega))))), by (repeat (first | with_reducible assumption | with_reducible exact Box.made _ _ _ | (with_reducible refine Box.made_at ?hg; case hg => (simp; done)) | with_reducible refine Box.drew ?_ | with_reducible refine Box.alloc ?_ _ | (with_reducible refine Box.put2 (a := .int .i64 0) (b := .int .i64 0) ?_ _ _) | (with_reducible refine Box.far ?_ ?hg _; case hg => ((try simp) <;> (try omega))) | with_reducible refine Box.kept ?_ (by with_reducible assumption))), fun i hi => by omega⟩
  case round =>
    obtain ⟨m, hm, rfl, hbw, x1, hF⟩ := hrel
    have t1 := x1.cell 0
    have l1 := x1.lt
    have HB := Lib.hid hbw
    have X1 := Lib.hid x1
    have zb := hbw.size
    by_cases hlt : m < n
    · obtain ⟨b, off, e, hb, c0, c1, c2⟩ := HR.out.at3 hlt
      have d0 := (hbw.cell (p := ⟨b, off + m * 3, none⟩) hb).trans c0
      have d1 := (hbw.cell (p := ⟨b, off + m * 3 + 1, none⟩) hb).trans c1
      have d2 := (hbw.cell (p := ⟨b, off + m * 3 + 2, none⟩) hb).trans c2
      have lb : b < wr.heap.size := Nat.lt_of_lt_of_le hb zb
      have hmi : (m : Int) < (n : Int) := by omega
      have hm0 : (0 : Int) ≤ (m : Int) := by omega
      have HP := Lib.hid (fun k (hk : m = k + 1) => (by
        obtain ⟨b', off', e', hb', _, h1, _⟩ := HR.out.at3 (show k < n by omega)
        rw [e] at e'
        cases e'
        exact (hbw.cell (p := ⟨b, off + k * 3 + 1, none⟩) hb').trans h1 : wr.cell? ⟨b, off + k * 3 + 1, none⟩ = some (.int .i64 (F k 1))))
      subst e
      have I1 := Lib.hid (monthOk_any (F m 0))
      have I2 := Lib.hid (monthOk_any (F m 1))
      have I3 := Lib.hid (within_any (F m 2) 1 1000000)
      clear c0 c1 c2 hb hbw x1
      rcases Bool.eq_false_or_eq_true (inB (F m 0) 0 3599) with a1 | a1
      · rw [a1] at I1
        rcases Bool.eq_false_or_eq_true (inB (F m 1) 0 3599) with a2 | a2
        · rw [a2] at I2
          rcases Bool.eq_false_or_eq_true (decide (F m 1 < F m 0)) with a3 | a3
          · have K := Lib.hid (show seriesAt F m = false by simp only [seriesAt, pointAt, a3, Bool.not_true, Bool.false_and, Bool.and_false])
            clear HP
            go_wp2_with fail; go_big_quiet (first | (go_at_call 28; with_reducible exact quiet_eq (I1.out _)) | (go_at_call 28; with_reducible exact quiet_eq (I2.out _)) | (go_at_call 59; with_reducible exact quiet_eq (I3.out _))); go_wp2_with fail; go_ret; exact ⟨ret_bool (seriesB_bad hlt K.out).symm, (below_drewN (HB.out.alloc zb (.cells #[.int .i64 (F m 0), .int .i64 (F m 1), .int .i64 (F m 2)] 126)) _)⟩
          · skip
            rcases Bool.eq_false_or_eq_true (inB (F m 2) 1 1000000) with a4 | a4
            · rw [a4] at I3
              have K0 : pointAt F m = true := by simp only [pointAt, a1, a2, a3, a4, Bool.not_false, Bool.and_self]
              by_cases hm1 : m = 0
              · subst hm1
                have K := Lib.hid (show seriesAt F 0 = true by simp only [seriesAt, K0]; rfl)
                simp only [Nat.zero_mul, Nat.add_zero] at d0 d1 d2
                clear HP K0
                go_wp2_with fail
                go_big_quiet (first | (go_at_call 28; with_reducible exact quiet_eq (I1.out _)) | (go_at_call 28; with_reducible exact quiet_eq (I2.out _)) | (go_at_call 59; with_reducible exact quiet_eq (I3.out _)))
                go_wp2_with fail
                go_roundw
                case rel => exact ⟨0 + 1, by omega, by go_num, (below_drewN (HB.out.alloc zb (.cells #[.int .i64 (F 0 0), .int .i64 (F 0 1), .int .i64 (F 0 2)] 126)) _), (X1.out.alloc _).drewN _, seriesAll_snoc hF.out K.out⟩
                case measure => simp [intOf]; omega
              · obtain ⟨k, hk⟩ : ∃ k, m = k + 1 := ⟨m - 1, by omega⟩
                have pk := HP.out k hk
                have hw : IntKind.i64.wrap ((m : Int) - 1) = (k : Int) := by rw [IntKind.wrap_i64]; omega
                have hz : decide (0 < m) = true := by simp; omega
                have hki : (k : Int) < (n : Int) := by omega
                have hk0 : (0 : Int) ≤ (k : Int) := by omega
                have KM := Lib.hid (show seriesAt F m = !decide (F m 1 < F k 1) by simp only [seriesAt, K0, decide_eq_false hm1, show m - 1 = k by omega, Bool.false_or, Bool.true_and])
                have HK := Lib.hid hk
                clear HP K0 hk hm1
                rcases Bool.eq_false_or_eq_true (decide (F m 1 < F k 1)) with a5 | a5
                · have K := Lib.hid (show seriesAt F m = false by rw [KM.out, a5]; rfl)
                  go_wp2_with fail; go_big_quiet (first | (go_at_call 28; with_reducible exact quiet_eq (I1.out _)) | (go_at_call 28; with_reducible exact quiet_eq (I2.out _)) | (go_at_call 59; with_reducible exact quiet_eq (I3.out _))); go_wp2_with fail; go_ret; exact ⟨ret_bool (seriesB_bad hlt K.out).symm, (below_drewN (HB.out.alloc zb (.cells #[.int .i64 (F m 0), .int .i64 (F m 1), .int .i64 (F m 2)] 126)) _)⟩
                · have K := Lib.hid (show seriesAt F m = true by rw [KM.out, a5]; rfl)
                  go_wp2_with fail; go_big_quiet (first | (go_at_call 28; with_reducible exact quiet_eq (I1.out _)) | (go_at_call 28; with_reducible exact quiet_eq (I2.out _)) | (go_at_call 59; with_reducible exact quiet_eq (I3.out _))); go_wp2_with fail; go_roundw; (case rel => exact ⟨m + 1, by omega, by go_num, (below_drewN (HB.out.alloc zb (.cells #[.int .i64 (F m 0), .int .i64 (F m 1), .int .i64 (F m 2)] 126)) _), (X1.out.alloc _).drewN _, seriesAll_snoc hF.out K.out⟩); (case measure => simp [intOf]; omega)
            · rw [a4] at I3
              have K := Lib.hid (show seriesAt F m = false by simp only [seriesAt, pointAt, a4, Bool.false_and, Bool.and_false])
              clear HP
              go_wp2_with fail; go_big_quiet (first | (go_at_call 28; with_reducible exact quiet_eq (I1.out _)) | (go_at_call 28; with_reducible exact quiet_eq (I2.out _)) | (go_at_call 59; with_reducible exact quiet_eq (I3.out _))); go_wp2_with fail; go_ret; exact ⟨ret_bool (seriesB_bad hlt K.out).symm, (below_drewN (HB.out.alloc zb (.cells #[.int .i64 (F m 0), .int .i64 (F m 1), .int .i64 (F m 2)] 126)) _)⟩
        · rw [a2] at I2
          have K := Lib.hid (show seriesAt F m = false by simp only [seriesAt, pointAt, a2, Bool.false_and, Bool.and_false])
          clear HP
          go_wp2_with fail; go_big_quiet (first | (go_at_call 28; with_reducible exact quiet_eq (I1.out _)) | (go_at_call 28; with_reducible exact quiet_eq (I2.out _)) | (go_at_call 59; with_reducible exact quiet_eq (I3.out _))); go_wp2_with fail; go_ret; exact ⟨ret_bool (seriesB_bad hlt K.out).symm, (below_drewN (HB.out.alloc zb (.cells #[.int .i64 (F m 0), .int .i64 (F m 1), .int .i64 (F m 2)] 126)) _)⟩
      · rw [a1] at I1
        have K := Lib.hid (show seriesAt F m = false by simp only [seriesAt, pointAt, a1, Bool.false_and])
        clear HP
        go_wp2_with fail; go_big_quiet (first | (go_at_call 28; with_reducible exact quiet_eq (I1.out _)) | (go_at_call 28; with_reducible exact quiet_eq (I2.out _)) | (go_at_call 59; with_reducible exact quiet_eq (I3.out _))); go_wp2_with fail; go_ret; exact ⟨ret_bool (seriesB_bad hlt K.out).symm, (below_drewN (HB.out.alloc zb (.cells #[.int .i64 (F m 0), .int .i64 (F m 1), .int .i64 (F m 2)] 126)) _)⟩
    · obtain rfl : n = m := by omega
      have HE := Lib.hid (show seriesB F n = decide (n ≤ 200) by simp only [seriesB, allB_iff.2 hF.out, Bool.true_and])
      clear hbw x1
      go_wp2_with fail
      go_ret
      exact ⟨ret_bool (by rw [HE.out]; first | rfl | (simp; done) | (rw [Bool.eq_iff_iff]; simp; omega)), HB.out⟩
set_option maxRecDepth 100000 in
set_option maxHeartbeats 8000000 in
theorem sseriesOk_any (A : Option Addr) (n cap : Nat) (F : Nat → Nat → Int) (w : World) (hn : n ≤ 1048576) (hr : Recs w 3 A n F) :
    Calls Try.prog 38 #[.agg #[.slice A n cap]] w fun e w' => e = .returned (.bool (seriesB F n)) ∧ Below w.heap.size w w' := by
  have HR := Lib.hid hr
  clear hr
  go_enter Try.func38, Try.ntmps38
  go_wp2_with fail
  go_loopw [3] (fun i wr => ∃ m : Nat, m ≤ n ∧ i = .int .i64 m ∧ Below w.heap.size w wr ∧ Box wr w.heap.size 56 #[.slice A n cap] ∧ Hid (∀ i, i < m → seriesAt F i = true)) (fun i _ => n - (intOf i).toNat)
  case atStart => exact ⟨0, Nat.zero_le _, rfl, by (repeat (first | with_reducible exact Below.refl _ _ | with_reducible refine Below.drew ?_ | (with_reducible refine Below.alloc ?_ ?hsz _; case hsz => ((try simp) <;> (try omega))) | (with_reducible refine Below.setCell ?_ ?hsz _; case hsz => ((try simp) <;> (try omega))) | (with_reducible refine below_step (by with_reducible assumption) ?hsz ?_; case hsz => ((try simp) <;> (try omega))))), by (repeat (first | with_reducible assumption | with_reducible exact Box.made _ _ _ | (with_reducible refine Box.made_at ?hg; case hg => (simp; done)) | with_reducible refine Box.drew ?_ | with_reducible refine Box.alloc ?_ _ | (with_reducible refine Box.put2 (a := .int .i64 0) (b := .int .i64 0) ?_ _ _) | (with_reducible refine Box.far ?_ ?hg _; case hg => ((try simp) <;> (try omega))) | with_reducible refine Box.kept ?_ (by with_reducible assumption))), fun i hi => by omega⟩
  case round =>
    obtain ⟨m, hm, rfl, hbw, x1, hF⟩ := hrel
    have t1 := x1.cell 0
    have l1 := x1.lt
    have HB := Lib.hid hbw
    have X1 := Lib.hid x1
    have zb := hbw.size
    by_cases hlt : m < n
    · obtain ⟨b, off, e, hb, c0, c1, c2⟩ := HR.out.at3 hlt
      have d0 := (hbw.cell (p := ⟨b, off + m * 3, none⟩) hb).trans c0
      have d1 := (hbw.cell (p := ⟨b, off + m * 3 + 1, none⟩) hb).trans c1
      have d2 := (hbw.cell (p := ⟨b, off + m * 3 + 2, none⟩) hb).trans c2
      have lb : b < wr.heap.size := Nat.lt_of_lt_of_le hb zb
      have hmi : (m : Int) < (n : Int) := by omega
      have hm0 : (0 : Int) ≤ (m : Int) := by omega
      have HP := Lib.hid (fun k (hk : m = k + 1) => (by
        obtain ⟨b', off', e', hb', _, h1, _⟩ := HR.out.at3 (show k < n by omega)
        rw [e] at e'
        cases e'
        exact (hbw.cell (p := ⟨b, off + k * 3 + 1, none⟩) hb').trans h1 : wr.cell? ⟨b, off + k * 3 + 1, none⟩ = some (.int .i64 (F k 1))))
      subst e
      have I1 := Lib.hid (smonthOk_any (F m 0))
      have I2 := Lib.hid (smonthOk_any (F m 1))
      have I3 := Lib.hid (l01In_any (F m 2) 1 1000000)
      clear c0 c1 c2 hb hbw x1
      rcases Bool.eq_false_or_eq_true (inB (F m 0) 0 3599) with a1 | a1
      · rw [a1] at I1
        rcases Bool.eq_false_or_eq_true (inB (F m 1) 0 3599) with a2 | a2
        · rw [a2] at I2
          rcases Bool.eq_false_or_eq_true (decide (F m 1 < F m 0)) with a3 | a3
          · have K := Lib.hid (show seriesAt F m = false by simp only [seriesAt, pointAt, a3, Bool.not_true, Bool.false_and, Bool.and_false])
            clear HP
            go_wp2_with fail; go_big_quiet (first | (go_at_call 23; with_reducible exact quiet_eq (I1.out _)) | (go_at_call 23; with_reducible exact quiet_eq (I2.out _)) | (go_at_call 55; with_reducible exact quiet_eq (I3.out _))); go_wp2_with fail; go_ret; exact ⟨ret_bool (seriesB_bad hlt K.out).symm, (below_drewN (HB.out.alloc zb (.cells #[.int .i64 (F m 0), .int .i64 (F m 1), .int .i64 (F m 2)] 126)) _)⟩
          · skip
            rcases Bool.eq_false_or_eq_true (inB (F m 2) 1 1000000) with a4 | a4
            · rw [a4] at I3
              have K0 : pointAt F m = true := by simp only [pointAt, a1, a2, a3, a4, Bool.not_false, Bool.and_self]
              by_cases hm1 : m = 0
              · subst hm1
                have K := Lib.hid (show seriesAt F 0 = true by simp only [seriesAt, K0]; rfl)
                simp only [Nat.zero_mul, Nat.add_zero] at d0 d1 d2
                clear HP K0
                go_wp2_with fail
                go_big_quiet (first | (go_at_call 23; with_reducible exact quiet_eq (I1.out _)) | (go_at_call 23; with_reducible exact quiet_eq (I2.out _)) | (go_at_call 55; with_reducible exact quiet_eq (I3.out _)))
                go_wp2_with fail
                go_roundw
                case rel => exact ⟨0 + 1, by omega, by go_num, (below_drewN (HB.out.alloc zb (.cells #[.int .i64 (F 0 0), .int .i64 (F 0 1), .int .i64 (F 0 2)] 126)) _), (X1.out.alloc _).drewN _, seriesAll_snoc hF.out K.out⟩
                case measure => simp [intOf]; omega
              · obtain ⟨k, hk⟩ : ∃ k, m = k + 1 := ⟨m - 1, by omega⟩
                have pk := HP.out k hk
                have hw : IntKind.i64.wrap ((m : Int) - 1) = (k : Int) := by rw [IntKind.wrap_i64]; omega
                have hz : decide (0 < m) = true := by simp; omega
                have hki : (k : Int) < (n : Int) := by omega
                have hk0 : (0 : Int) ≤ (k : Int) := by omega
                have KM := Lib.hid (show seriesAt F m = !decide (F m 1 < F k 1) by simp only [seriesAt, K0, decide_eq_false hm1, show m - 1 = k by omega, Bool.false_or, Bool.true_and])
                have HK := Lib.hid hk
                clear HP K0 hk hm1
                rcases Bool.eq_false_or_eq_true (decide (F m 1 < F k 1)) with a5 | a5
                · have K := Lib.hid (show seriesAt F m = false by rw [KM.out, a5]; rfl)
                  go_wp2_with fail; go_big_quiet (first | (go_at_call 23; with_reducible exact quiet_eq (I1.out _)) | (go_at_call 23; with_reducible exact quiet_eq (I2.out _)) | (go_at_call 55; with_reducible exact quiet_eq (I3.out _))); go_wp2_with fail; go_ret; exact ⟨ret_bool (seriesB_bad hlt K.out).symm, (below_drewN (HB.out.alloc zb (.cells #[.int .i64 (F m 0), .int .i64 (F m 1), .int .i64 (F m 2)] 126)) _)⟩
                · have K := Lib.hid (show seriesAt F m = true by rw [KM.out, a5]; rfl)
                  go_wp2_with fail; go_big_quiet (first | (go_at_call 23; with_reducible exact quiet_eq (I1.out _)) | (go_at_call 23; with_reducible exact quiet_eq (I2.out _)) | (go_at_call 55; with_reducible exact quiet_eq (I3.out _))); go_wp2_with fail; go_roundw; (case rel => exact ⟨m + 1, by omega, by go_num, (below_drewN (HB.out.alloc zb (.cells #[.int .i64 (F m 0), .int .i64 (F m 1), .int .i64 (F m 2)] 126)) _), (X1.out.alloc _).drewN _, seriesAll_snoc hF.out K.out⟩); (case measure => simp [intOf]; omega)
            · rw [a4] at I3
              have K := Lib.hid (show seriesAt F m = false by simp only [seriesAt, pointAt, a4, Bool.false_and, Bool.and_false])
              clear HP
              go_wp2_with fail; go_big_quiet (first | (go_at_call 23; with_reducible exact quiet_eq (I1.out _)) | (go_at_call 23; with_reducible exact quiet_eq (I2.out _)) | (go_at_call 55; with_reducible exact quiet_eq (I3.out _))); go_wp2_with fail; go_ret; exact ⟨ret_bool (seriesB_bad hlt K.out).symm, (below_drewN (HB.out.alloc zb (.cells #[.int .i64 (F m 0), .int .i64 (F m 1), .int .i64 (F m 2)] 126)) _)⟩
        · rw [a2] at I2
          have K := Lib.hid (show seriesAt F m = false by simp only [seriesAt, pointAt, a2, Bool.false_and, Bool.and_false])
          clear HP
          go_wp2_with fail; go_big_quiet (first | (go_at_call 23; with_reducible exact quiet_eq (I1.out _)) | (go_at_call 23; with_reducible exact quiet_eq (I2.out _)) | (go_at_call 55; with_reducible exact quiet_eq (I3.out _))); go_wp2_with fail; go_ret; exact ⟨ret_bool (seriesB_bad hlt K.out).symm, (below_drewN (HB.out.alloc zb (.cells #[.int .i64 (F m 0), .int .i64 (F m 1), .int .i64 (F m 2)] 126)) _)⟩
      · rw [a1] at I1
        have K := Lib.hid (show seriesAt F m = false by simp only [seriesAt, pointAt, a1, Bool.false_and])
        clear HP
        go_wp2_with fail; go_big_quiet (first | (go_at_call 23; with_reducible exact quiet_eq (I1.out _)) | (go_at_call 23; with_reducible exact quiet_eq (I2.out _)) | (go_at_call 55; with_reducible exact quiet_eq (I3.out _))); go_wp2_with fail; go_ret; exact ⟨ret_bool (seriesB_bad hlt K.out).symm, (below_drewN (HB.out.alloc zb (.cells #[.int .i64 (F m 0), .int .i64 (F m 1), .int .i64 (F m 2)] 126)) _)⟩
    · obtain rfl : n = m := by omega
      have HE := Lib.hid (show seriesB F n = decide (n ≤ 200) by simp only [seriesB, allB_iff.2 hF.out, Bool.true_and])
      clear hbw x1
      go_wp2_with fail
      go_ret
      exact ⟨ret_bool (by rw [HE.out]; first | rfl | (simp; done) | (rw [Bool.eq_iff_iff]; simp; omega)), HB.out⟩
end Go.Proofs.Ytgfcmeiffhffaaa
