/- Contracts of the reference's BandMul, of BandTimes, BandHas, ReserveFor, TransferValue and DiscountBand. -/
import Derived.Test.YtnfnphhimbmghaaBandY
namespace Go.Proofs.Ytnfnphhimbmghaa
open Go.RowKit

theorem ceilI_up (x : Int) (_h : 0 ≤ x) (hr : x % 1000000000 ≠ 0) : ceilI x 1000000000 = x / 1000000000 + 1 := by unfold ceilI; omega
theorem ceilI_eq (x : Int) (_h : 0 ≤ x) (hr : x % 1000000000 = 0) : ceilI x 1000000000 = x / 1000000000 := by unfold ceilI; omega

set_option maxHeartbeats 1000000 in
theorem sbandMul_any (al ah bl bh : Int) (w : World) : Calls Try.prog 31 #[.agg #[.int .i64 al, .int .i64 ah], .agg #[.int .i64 bl, .int .i64 bh]] w fun e w' =>
    e = .returned (.tuple #[.agg #[.int .i64 (bandMulL al ah bl bh), .int .i64 (bandMulH al ah bl bh)], .bool (bandMulB al ah bl bh)]) ∧ Below w.heap.size w w' := by
  rcases Bool.eq_false_or_eq_true (bandOkB al ah) with h1 | h1 <;> rcases Bool.eq_false_or_eq_true (bandOkB bl bh) with h2 | h2
  · obtain ⟨a1, a2, a3⟩ := bandOkB_true.1 h1
    obtain ⟨b1, b2, b3⟩ := bandOkB_true.1 h2
    by_cases h3 : ah ≤ 3000000000 <;> by_cases h4 : bh ≤ 3000000000
    · obtain ⟨c1, c2⟩ := mul_bd (a := al) (b := bl) (A := 3000000000) (B := 3000000000) a1 (by omega) b1 (by omega)
      obtain ⟨c3, c4⟩ := mul_bd (a := ah) (b := bh) (A := 3000000000) (B := 3000000000) (by omega) h3 (by omega) h4
      have e1 : bandMulL al ah bl bh = al * bl / 1000000000 := by simp [bandMulL, bandMulB, h1, h2, h3, h4]
      have e2 : bandMulH al ah bl bh = ceilI (ah * bh) 1000000000 := by simp [bandMulH, bandMulB, h1, h2, h3, h4]
      have e3 : bandMulB al ah bl bh = true := by simp [bandMulB, h1, h2, h3, h4]
      rw [e1, e2, e3]
      clear e1 e2 e3
      by_cases h5 : ah * bh % 1000000000 = 0
      · rw [ceilI_eq _ c3 h5]
        go_enter Try.func31, Try.ntmps31
        go_wp2_with (first | ((go_at_call 15; (with_reducible refine (sbandOk_any al ah _).mono ?_); rintro e w1 ⟨rfl, hb1⟩; obtain ⟨hc1, hf1⟩ := bcell hb1; have hz1 := hb1.size; (try simp at hz1); (try have q1_0 : w.heap.size < w1.heap.size := by omega); (try have q1_1 : w.heap.size + 1 < w1.heap.size := by omega); (try have q1_2 : w.heap.size + 2 < w1.heap.size := by omega); (try have q1_3 : w.heap.size + 3 < w1.heap.size := by omega); (try have q1_4 : w.heap.size + 4 < w1.heap.size := by omega))) | ((go_at_call 15; (with_reducible refine (sbandOk_any bl bh _).mono ?_); rintro e w2 ⟨rfl, hb2⟩; obtain ⟨hc2, hf2⟩ := bcell hb2; have hz2 := hb2.size; (try simp at hz2); (try have q2_0 : w.heap.size < w2.heap.size := by omega); (try have q2_1 : w.heap.size + 1 < w2.heap.size := by omega); (try have q2_2 : w.heap.size + 2 < w2.heap.size := by omega); (try have q2_3 : w.heap.size + 3 < w2.heap.size := by omega); (try have q2_4 : w.heap.size + 4 < w2.heap.size := by omega)); have r2_0 : w2.cell? ⟨w.heap.size + 2, 0, none⟩ = some (.int .i64 0) := (by simp [go_sem, *]); have r2_1 : w2.cell? ⟨w.heap.size + 2, 1, none⟩ = some (.int .i64 0) := (by simp [go_sem, *])))
        exact bodyPost_ret (v := .tuple #[.agg #[.int .i64 (al * bl / 1000000000), .int .i64 (ah * bh / 1000000000)], .bool true]) (by simp [results, Try.results31, go_sem, r2_0, r2_1]) rfl ⟨rfl, by (repeat (first | exact Below.refl _ _ | refine Below.drew ?_ | (refine Below.alloc ?_ ?hsz _; case hsz => ((try simp) <;> (try omega))) | (refine Below.setCell ?_ ?hsz _; case hsz => ((try simp) <;> (try omega))) | (refine below_step (by assumption) ?hsz ?_; case hsz => ((try simp) <;> (try omega)))))⟩
      · rw [ceilI_up _ c3 h5]
        have h6 : (ah * bh % 1000000000 == 0) = false := by simpa using h5
        go_enter Try.func31, Try.ntmps31
        go_wp2_with (first | ((go_at_call 15; (with_reducible refine (sbandOk_any al ah _).mono ?_); rintro e w1 ⟨rfl, hb1⟩; obtain ⟨hc1, hf1⟩ := bcell hb1; have hz1 := hb1.size; (try simp at hz1); (try have q1_0 : w.heap.size < w1.heap.size := by omega); (try have q1_1 : w.heap.size + 1 < w1.heap.size := by omega); (try have q1_2 : w.heap.size + 2 < w1.heap.size := by omega); (try have q1_3 : w.heap.size + 3 < w1.heap.size := by omega); (try have q1_4 : w.heap.size + 4 < w1.heap.size := by omega))) | ((go_at_call 15; (with_reducible refine (sbandOk_any bl bh _).mono ?_); rintro e w2 ⟨rfl, hb2⟩; obtain ⟨hc2, hf2⟩ := bcell hb2; have hz2 := hb2.size; (try simp at hz2); (try have q2_0 : w.heap.size < w2.heap.size := by omega); (try have q2_1 : w.heap.size + 1 < w2.heap.size := by omega); (try have q2_2 : w.heap.size + 2 < w2.heap.size := by omega); (try have q2_3 : w.heap.size + 3 < w2.heap.size := by omega); (try have q2_4 : w.heap.size + 4 < w2.heap.size := by omega)); have r2_0 : w2.cell? ⟨w.heap.size + 2, 0, none⟩ = some (.int .i64 0) := (by simp [go_sem, *]); have r2_1 : w2.cell? ⟨w.heap.size + 2, 1, none⟩ = some (.int .i64 0) := (by simp [go_sem, *])))
        exact bodyPost_ret (v := .tuple #[.agg #[.int .i64 (al * bl / 1000000000), .int .i64 (ah * bh / 1000000000 + 1)], .bool true]) (by simp [results, Try.results31, go_sem, r2_0, r2_1]) rfl ⟨rfl, by (repeat (first | exact Below.refl _ _ | refine Below.drew ?_ | (refine Below.alloc ?_ ?hsz _; case hsz => ((try simp) <;> (try omega))) | (refine Below.setCell ?_ ?hsz _; case hsz => ((try simp) <;> (try omega))) | (refine below_step (by assumption) ?hsz ?_; case hsz => ((try simp) <;> (try omega)))))⟩
    all_goals
      have e1 : bandMulL al ah bl bh = 0 := by simp [bandMulL, bandMulB, h3, h4]
      have e2 : bandMulH al ah bl bh = 0 := by simp [bandMulH, bandMulB, h3, h4]
      have e3 : bandMulB al ah bl bh = false := by simp [bandMulB, h3, h4]
      rw [e1, e2, e3]
      clear e1 e2 e3
      go_enter Try.func31, Try.ntmps31
      go_wp2_with (first | ((go_at_call 15; (with_reducible refine (sbandOk_any al ah _).mono ?_); rintro e w1 ⟨rfl, hb1⟩; obtain ⟨hc1, hf1⟩ := bcell hb1; have hz1 := hb1.size; (try simp at hz1); (try have q1_0 : w.heap.size < w1.heap.size := by omega); (try have q1_1 : w.heap.size + 1 < w1.heap.size := by omega); (try have q1_2 : w.heap.size + 2 < w1.heap.size := by omega); (try have q1_3 : w.heap.size + 3 < w1.heap.size := by omega); (try have q1_4 : w.heap.size + 4 < w1.heap.size := by omega))) | ((go_at_call 15; (with_reducible refine (sbandOk_any bl bh _).mono ?_); rintro e w2 ⟨rfl, hb2⟩; obtain ⟨hc2, hf2⟩ := bcell hb2; have hz2 := hb2.size; (try simp at hz2); (try have q2_0 : w.heap.size < w2.heap.size := by omega); (try have q2_1 : w.heap.size + 1 < w2.heap.size := by omega); (try have q2_2 : w.heap.size + 2 < w2.heap.size := by omega); (try have q2_3 : w.heap.size + 3 < w2.heap.size := by omega); (try have q2_4 : w.heap.size + 4 < w2.heap.size := by omega)); have r2_0 : w2.cell? ⟨w.heap.size + 2, 0, none⟩ = some (.int .i64 0) := (by simp [go_sem, *]); have r2_1 : w2.cell? ⟨w.heap.size + 2, 1, none⟩ = some (.int .i64 0) := (by simp [go_sem, *])))
      exact bodyPost_ret (v := .tuple #[.agg #[.int .i64 0, .int .i64 0], .bool false]) (by simp [results, Try.results31, go_sem, r2_0, r2_1]) rfl ⟨rfl, by (repeat (first | exact Below.refl _ _ | refine Below.drew ?_ | (refine Below.alloc ?_ ?hsz _; case hsz => ((try simp) <;> (try omega))) | (refine Below.setCell ?_ ?hsz _; case hsz => ((try simp) <;> (try omega))) | (refine below_step (by assumption) ?hsz ?_; case hsz => ((try simp) <;> (try omega)))))⟩
  all_goals
    go_enter Try.func31, Try.ntmps31
    go_wp2_with (first | ((go_at_call 15; (with_reducible refine (sbandOk_any al ah _).mono ?_); rintro e w1 ⟨rfl, hb1⟩; obtain ⟨hc1, hf1⟩ := bcell hb1; have hz1 := hb1.size; (try simp at hz1); (try have q1_0 : w.heap.size < w1.heap.size := by omega); (try have q1_1 : w.heap.size + 1 < w1.heap.size := by omega); (try have q1_2 : w.heap.size + 2 < w1.heap.size := by omega); (try have q1_3 : w.heap.size + 3 < w1.heap.size := by omega); (try have q1_4 : w.heap.size + 4 < w1.heap.size := by omega)); have r1_0 : w1.cell? ⟨w.heap.size + 2, 0, none⟩ = some (.int .i64 0) := (by simp [go_sem, *]); have r1_1 : w1.cell? ⟨w.heap.size + 2, 1, none⟩ = some (.int .i64 0) := (by simp [go_sem, *])) | ((go_at_call 15; (with_reducible refine (sbandOk_any bl bh _).mono ?_); rintro e w2 ⟨rfl, hb2⟩; obtain ⟨hc2, hf2⟩ := bcell hb2; have hz2 := hb2.size; (try simp at hz2); (try have q2_0 : w.heap.size < w2.heap.size := by omega); (try have q2_1 : w.heap.size + 1 < w2.heap.size := by omega); (try have q2_2 : w.heap.size + 2 < w2.heap.size := by omega); (try have q2_3 : w.heap.size + 3 < w2.heap.size := by omega); (try have q2_4 : w.heap.size + 4 < w2.heap.size := by omega)); have r2_0 : w2.cell? ⟨w.heap.size + 2, 0, none⟩ = some (.int .i64 0) := (by simp [go_sem, *]); have r2_1 : w2.cell? ⟨w.heap.size + 2, 1, none⟩ = some (.int .i64 0) := (by simp [go_sem, *])))
    exact bodyPost_ret (v := .tuple #[.agg #[.int .i64 0, .int .i64 0], .bool false]) (by simp [results, Try.results31, go_sem, *]) rfl ⟨by simp [bandMulL, bandMulH, bandMulB, h1, h2], by (repeat (first | exact Below.refl _ _ | refine Below.drew ?_ | (refine Below.alloc ?_ ?hsz _; case hsz => ((try simp) <;> (try omega))) | (refine Below.setCell ?_ ?hsz _; case hsz => ((try simp) <;> (try omega))) | (refine below_step (by assumption) ?hsz ?_; case hsz => ((try simp) <;> (try omega)))))⟩

def bandTimesB (l h k : Int) : Bool := bandOkB l h && inB k 0 1000 && bandOkB (l * k) (h * k)
def bandTimesL (l h k : Int) : Int := if bandTimesB l h k = true then l * k else 0
def bandTimesH (l h k : Int) : Int := if bandTimesB l h k = true then h * k else 0
theorem bandTimes_any (l h k : Int) (w : World) : Calls Try.prog 38 #[.agg #[.int .i64 l, .int .i64 h], .int .i64 k] w fun e w' =>
    e = .returned (.tuple #[.agg #[.int .i64 (bandTimesL l h k), .int .i64 (bandTimesH l h k)], .bool (bandTimesB l h k)]) ∧ Below w.heap.size w w' := by
  rcases Bool.eq_false_or_eq_true (bandOkB l h) with h1 | h1 <;> rcases Bool.eq_false_or_eq_true (inB k 0 1000) with h2 | h2
  · obtain ⟨a1, a2, a3⟩ := bandOkB_true.1 h1
    obtain ⟨b1, b2⟩ := inB_true.1 h2
    obtain ⟨c1, c2⟩ := mul_bd (a := l) (b := k) (A := 1000000000000000) (B := 1000) a1 (by omega) b1 b2
    obtain ⟨c3, c4⟩ := mul_bd (a := h) (b := k) (A := 1000000000000000) (B := 1000) (by omega) a3 b1 b2
    have e1 : bandTimesL l h k = checkedL (l * k) (h * k) := by simp [bandTimesL, bandTimesB, checkedL, h1, h2]
    have e2 : bandTimesH l h k = checkedH (l * k) (h * k) := by simp [bandTimesH, bandTimesB, checkedH, h1, h2]
    have e3 : bandTimesB l h k = bandOkB (l * k) (h * k) := by simp [bandTimesB, h1, h2]
    rw [e1, e2, e3]
    clear e1 e2 e3
    go_enter Try.func38, Try.ntmps38
    go_wp2_with (first | ((go_at_call 17; (with_reducible refine (bandOk_any l h _).mono ?_); rintro e w1 ⟨rfl, hb1⟩; obtain ⟨hc1, hf1⟩ := bcell hb1; have hz1 := hb1.size; (try simp at hz1); (try have q1_0 : w.heap.size < w1.heap.size := by omega); (try have q1_1 : w.heap.size + 1 < w1.heap.size := by omega); (try have q1_2 : w.heap.size + 2 < w1.heap.size := by omega); (try have q1_3 : w.heap.size + 3 < w1.heap.size := by omega); (try have q1_4 : w.heap.size + 4 < w1.heap.size := by omega))) | (go_at_call 42; (with_reducible refine (within_any k 0 1000 _).mono ?_); rintro e w' ⟨rfl, rfl⟩) | ((go_at_call 44; (with_reducible refine (checkedBand_any (l * k) (h * k) _).mono ?_); rintro e w3 ⟨rfl, hb3⟩; obtain ⟨hc3, hf3⟩ := bcell hb3; have hz3 := hb3.size; (try simp at hz3); (try have q3_0 : w.heap.size < w3.heap.size := by omega); (try have q3_1 : w.heap.size + 1 < w3.heap.size := by omega); (try have q3_2 : w.heap.size + 2 < w3.heap.size := by omega); (try have q3_3 : w.heap.size + 3 < w3.heap.size := by omega); (try have q3_4 : w.heap.size + 4 < w3.heap.size := by omega)); have r3_0 : w3.cell? ⟨w.heap.size + 1, 0, none⟩ = some (.int .i64 0) := (by simp [go_sem, *]); have r3_1 : w3.cell? ⟨w.heap.size + 1, 1, none⟩ = some (.int .i64 0) := (by simp [go_sem, *])))
    exact bodyPost_ret (v := .tuple #[.agg #[.int .i64 (checkedL (l * k) (h * k)), .int .i64 (checkedH (l * k) (h * k))], .bool (bandOkB (l * k) (h * k))]) (by simp [results, Try.results38, go_sem, r3_0, r3_1]) rfl ⟨rfl, by (repeat (first | exact Below.refl _ _ | refine Below.drew ?_ | (refine Below.alloc ?_ ?hsz _; case hsz => ((try simp) <;> (try omega))) | (refine Below.setCell ?_ ?hsz _; case hsz => ((try simp) <;> (try omega))) | (refine below_step (by assumption) ?hsz ?_; case hsz => ((try simp) <;> (try omega)))))⟩
  all_goals
    go_enter Try.func38, Try.ntmps38
    go_wp2_with (first | ((go_at_call 17; (with_reducible refine (bandOk_any l h _).mono ?_); rintro e w1 ⟨rfl, hb1⟩; obtain ⟨hc1, hf1⟩ := bcell hb1; have hz1 := hb1.size; (try simp at hz1); (try have q1_0 : w.heap.size < w1.heap.size := by omega); (try have q1_1 : w.heap.size + 1 < w1.heap.size := by omega); (try have q1_2 : w.heap.size + 2 < w1.heap.size := by omega); (try have q1_3 : w.heap.size + 3 < w1.heap.size := by omega); (try have q1_4 : w.heap.size + 4 < w1.heap.size := by omega)); have r1_0 : w1.cell? ⟨w.heap.size + 1, 0, none⟩ = some (.int .i64 0) := (by simp [go_sem, *]); have r1_1 : w1.cell? ⟨w.heap.size + 1, 1, none⟩ = some (.int .i64 0) := (by simp [go_sem, *])) | (go_at_call 42; (with_reducible refine (within_any k 0 1000 _).mono ?_); rintro e w' ⟨rfl, rfl⟩))
    exact bodyPost_ret (v := .tuple #[.agg #[.int .i64 0, .int .i64 0], .bool false]) (by simp [results, Try.results38, go_sem, *]) rfl ⟨by simp [bandTimesL, bandTimesH, bandTimesB, h1, h2], by (repeat (first | exact Below.refl _ _ | refine Below.drew ?_ | (refine Below.alloc ?_ ?hsz _; case hsz => ((try simp) <;> (try omega))) | (refine Below.setCell ?_ ?hsz _; case hsz => ((try simp) <;> (try omega))) | (refine below_step (by assumption) ?hsz ?_; case hsz => ((try simp) <;> (try omega)))))⟩
theorem sbandTimes_any (l h k : Int) (w : World) : Calls Try.prog 37 #[.agg #[.int .i64 l, .int .i64 h], .int .i64 k] w fun e w' =>
    e = .returned (.tuple #[.agg #[.int .i64 (bandTimesL l h k), .int .i64 (bandTimesH l h k)], .bool (bandTimesB l h k)]) ∧ Below w.heap.size w w' := by
  rcases Bool.eq_false_or_eq_true (bandOkB l h) with h1 | h1 <;> rcases Bool.eq_false_or_eq_true (inB k 0 1000) with h2 | h2
  · obtain ⟨a1, a2, a3⟩ := bandOkB_true.1 h1
    obtain ⟨b1, b2⟩ := inB_true.1 h2
    obtain ⟨c1, c2⟩ := mul_bd (a := l) (b := k) (A := 1000000000000000) (B := 1000) a1 (by omega) b1 b2
    obtain ⟨c3, c4⟩ := mul_bd (a := h) (b := k) (A := 1000000000000000) (B := 1000) (by omega) a3 b1 b2
    have c5 : l * k ≤ h * k := Int.mul_le_mul_of_nonneg_right a2 b1
    by_cases h3 : h * k ≤ 1000000000000000
    · have h4 : bandOkB (l * k) (h * k) = true := bandOkB_true.2 ⟨c1, c5, h3⟩
      have e1 : bandTimesL l h k = l * k := by simp [bandTimesL, bandTimesB, h1, h2, h4]
      have e2 : bandTimesH l h k = h * k := by simp [bandTimesH, bandTimesB, h1, h2, h4]
      have e3 : bandTimesB l h k = true := by simp [bandTimesB, h1, h2, h4]
      rw [e1, e2, e3]
      clear e1 e2 e3 h4
      go_enter Try.func37, Try.ntmps37
      go_wp2_with (first | ((go_at_call 15; (with_reducible refine (sbandOk_any l h _).mono ?_); rintro e w1 ⟨rfl, hb1⟩; obtain ⟨hc1, hf1⟩ := bcell hb1; have hz1 := hb1.size; (try simp at hz1); (try have q1_0 : w.heap.size < w1.heap.size := by omega); (try have q1_1 : w.heap.size + 1 < w1.heap.size := by omega); (try have q1_2 : w.heap.size + 2 < w1.heap.size := by omega); (try have q1_3 : w.heap.size + 3 < w1.heap.size := by omega); (try have q1_4 : w.heap.size + 4 < w1.heap.size := by omega)); have r1_0 : w1.cell? ⟨w.heap.size + 1, 0, none⟩ = some (.int .i64 0) := (by simp [go_sem, *]); have r1_1 : w1.cell? ⟨w.heap.size + 1, 1, none⟩ = some (.int .i64 0) := (by simp [go_sem, *])) | (go_at_call 41; (with_reducible refine (l01In_any k 0 1000 _).mono ?_); rintro e w' ⟨rfl, rfl⟩))
      exact bodyPost_ret (v := .tuple #[.agg #[.int .i64 (l * k), .int .i64 (h * k)], .bool true]) (by simp [results, Try.results37, go_sem, r1_0, r1_1]) rfl ⟨rfl, by (repeat (first | exact Below.refl _ _ | refine Below.drew ?_ | (refine Below.alloc ?_ ?hsz _; case hsz => ((try simp) <;> (try omega))) | (refine Below.setCell ?_ ?hsz _; case hsz => ((try simp) <;> (try omega))) | (refine below_step (by assumption) ?hsz ?_; case hsz => ((try simp) <;> (try omega)))))⟩
    · have h4 : bandOkB (l * k) (h * k) = false := by
        rw [Bool.eq_false_iff]; intro h; exact h3 (bandOkB_true.1 h).2.2
      have e1 : bandTimesL l h k = 0 := by simp [bandTimesL, bandTimesB, h1, h2, h4]
      have e2 : bandTimesH l h k = 0 := by simp [bandTimesH, bandTimesB, h1, h2, h4]
      have e3 : bandTimesB l h k = false := by simp [bandTimesB, h1, h2, h4]
      rw [e1, e2, e3]
      clear e1 e2 e3 h4
      go_enter Try.func37, Try.ntmps37
      go_wp2_with (first | ((go_at_call 15; (with_reducible refine (sbandOk_any l h _).mono ?_); rintro e w1 ⟨rfl, hb1⟩; obtain ⟨hc1, hf1⟩ := bcell hb1; have hz1 := hb1.size; (try simp at hz1); (try have q1_0 : w.heap.size < w1.heap.size := by omega); (try have q1_1 : w.heap.size + 1 < w1.heap.size := by omega); (try have q1_2 : w.heap.size + 2 < w1.heap.size := by omega); (try have q1_3 : w.heap.size + 3 < w1.heap.size := by omega); (try have q1_4 : w.heap.size + 4 < w1.heap.size := by omega)); have r1_0 : w1.cell? ⟨w.heap.size + 1, 0, none⟩ = some (.int .i64 0) := (by simp [go_sem, *]); have r1_1 : w1.cell? ⟨w.heap.size + 1, 1, none⟩ = some (.int .i64 0) := (by simp [go_sem, *])) | (go_at_call 41; (with_reducible refine (l01In_any k 0 1000 _).mono ?_); rintro e w' ⟨rfl, rfl⟩))
      exact bodyPost_ret (v := .tuple #[.agg #[.int .i64 0, .int .i64 0], .bool false]) (by simp [results, Try.results37, go_sem, r1_0, r1_1]) rfl ⟨rfl, by (repeat (first | exact Below.refl _ _ | refine Below.drew ?_ | (refine Below.alloc ?_ ?hsz _; case hsz => ((try simp) <;> (try omega))) | (refine Below.setCell ?_ ?hsz _; case hsz => ((try simp) <;> (try omega))) | (refine below_step (by assumption) ?hsz ?_; case hsz => ((try simp) <;> (try omega)))))⟩
  all_goals
    go_enter Try.func37, Try.ntmps37
    go_wp2_with (first | ((go_at_call 15; (with_reducible refine (sbandOk_any l h _).mono ?_); rintro e w1 ⟨rfl, hb1⟩; obtain ⟨hc1, hf1⟩ := bcell hb1; have hz1 := hb1.size; (try simp at hz1); (try have q1_0 : w.heap.size < w1.heap.size := by omega); (try have q1_1 : w.heap.size + 1 < w1.heap.size := by omega); (try have q1_2 : w.heap.size + 2 < w1.heap.size := by omega); (try have q1_3 : w.heap.size + 3 < w1.heap.size := by omega); (try have q1_4 : w.heap.size + 4 < w1.heap.size := by omega)); have r1_0 : w1.cell? ⟨w.heap.size + 1, 0, none⟩ = some (.int .i64 0) := (by simp [go_sem, *]); have r1_1 : w1.cell? ⟨w.heap.size + 1, 1, none⟩ = some (.int .i64 0) := (by simp [go_sem, *])) | (go_at_call 41; (with_reducible refine (l01In_any k 0 1000 _).mono ?_); rintro e w' ⟨rfl, rfl⟩))
    exact bodyPost_ret (v := .tuple #[.agg #[.int .i64 0, .int .i64 0], .bool false]) (by simp [results, Try.results37, go_sem, *]) rfl ⟨by simp [bandTimesL, bandTimesH, bandTimesB, h1, h2], by (repeat (first | exact Below.refl _ _ | refine Below.drew ?_ | (refine Below.alloc ?_ ?hsz _; case hsz => ((try simp) <;> (try omega))) | (refine Below.setCell ?_ ?hsz _; case hsz => ((try simp) <;> (try omega))) | (refine below_step (by assumption) ?hsz ?_; case hsz => ((try simp) <;> (try omega)))))⟩

def bandHasB (l h n d : Int) : Bool := bandOkB l h && inB n 0 1000000 && inB d 1 1000 && decide (l * d ≤ n * 1000000000) && decide (n * 1000000000 ≤ h * d)
theorem bandHas_any (l h n d : Int) (w : World) : Calls Try.prog 26 #[.agg #[.int .i64 l, .int .i64 h], .int .i64 n, .int .i64 d] w fun e w' => e = .returned (.bool (bandHasB l h n d)) ∧ Below w.heap.size w w' := by
  rcases Bool.eq_false_or_eq_true (bandOkB l h) with h1 | h1 <;> rcases Bool.eq_false_or_eq_true (inB n 0 1000000) with h2 | h2 <;> rcases Bool.eq_false_or_eq_true (inB d 1 1000) with h3 | h3
  · obtain ⟨a1, a2, a3⟩ := bandOkB_true.1 h1
    obtain ⟨b1, b2⟩ := inB_true.1 h2
    obtain ⟨b3, b4⟩ := inB_true.1 h3
    obtain ⟨c1, c2⟩ := mul_bd (a := l) (b := d) (A := 1000000000000000) (B := 1000) a1 (by omega) (by omega) b4
    obtain ⟨c3, c4⟩ := mul_bd (a := h) (b := d) (A := 1000000000000000) (B := 1000) (by omega) a3 (by omega) b4
    by_cases h4 : l * d ≤ n * 1000000000
    all_goals
      go_enter Try.func26, Try.ntmps26
      go_wp2_with (first | ((go_at_call 17; (with_reducible refine (bandOk_any l h _).mono ?_); rintro e w1 ⟨rfl, hb1⟩; obtain ⟨hc1, hf1⟩ := bcell hb1; have hz1 := hb1.size; (try simp at hz1); (try have q1_0 : w.heap.size < w1.heap.size := by omega); (try have q1_1 : w.heap.size + 1 < w1.heap.size := by omega); (try have q1_2 : w.heap.size + 2 < w1.heap.size := by omega); (try have q1_3 : w.heap.size + 3 < w1.heap.size := by omega); (try have q1_4 : w.heap.size + 4 < w1.heap.size := by omega))) | (go_at_call 42; (with_reducible refine (within_any n 0 1000000 _).mono ?_); rintro e w' ⟨rfl, rfl⟩) | (go_at_call 42; (with_reducible refine (within_any d 1 1000 _).mono ?_); rintro e w' ⟨rfl, rfl⟩))
      go_ret
      exact ⟨ret_bool (by rw [Bool.eq_iff_iff]; simp [bandHasB, h1, h2, h3]; try omega), by (repeat (first | exact Below.refl _ _ | refine Below.drew ?_ | (refine Below.alloc ?_ ?hsz _; case hsz => ((try simp) <;> (try omega))) | (refine Below.setCell ?_ ?hsz _; case hsz => ((try simp) <;> (try omega))) | (refine below_step (by assumption) ?hsz ?_; case hsz => ((try simp) <;> (try omega)))))⟩
  all_goals
    go_enter Try.func26, Try.ntmps26
    go_wp2_with (first | ((go_at_call 17; (with_reducible refine (bandOk_any l h _).mono ?_); rintro e w1 ⟨rfl, hb1⟩; obtain ⟨hc1, hf1⟩ := bcell hb1; have hz1 := hb1.size; (try simp at hz1); (try have q1_0 : w.heap.size < w1.heap.size := by omega); (try have q1_1 : w.heap.size + 1 < w1.heap.size := by omega); (try have q1_2 : w.heap.size + 2 < w1.heap.size := by omega); (try have q1_3 : w.heap.size + 3 < w1.heap.size := by omega); (try have q1_4 : w.heap.size + 4 < w1.heap.size := by omega))) | (go_at_call 42; (with_reducible refine (within_any n 0 1000000 _).mono ?_); rintro e w' ⟨rfl, rfl⟩) | (go_at_call 42; (with_reducible refine (within_any d 1 1000 _).mono ?_); rintro e w' ⟨rfl, rfl⟩))
    go_ret
    exact ⟨ret_bool (by simp [bandHasB, h1, h2, h3]), by (repeat (first | exact Below.refl _ _ | refine Below.drew ?_ | (refine Below.alloc ?_ ?hsz _; case hsz => ((try simp) <;> (try omega))) | (refine Below.setCell ?_ ?hsz _; case hsz => ((try simp) <;> (try omega))) | (refine below_step (by assumption) ?hsz ?_; case hsz => ((try simp) <;> (try omega)))))⟩
theorem sbandHas_any (l h n d : Int) (w : World) : Calls Try.prog 25 #[.agg #[.int .i64 l, .int .i64 h], .int .i64 n, .int .i64 d] w fun e w' => e = .returned (.bool (bandHasB l h n d)) ∧ Below w.heap.size w w' := by
  rcases Bool.eq_false_or_eq_true (bandOkB l h) with h1 | h1 <;> rcases Bool.eq_false_or_eq_true (inB n 0 1000000) with h2 | h2 <;> rcases Bool.eq_false_or_eq_true (inB d 1 1000) with h3 | h3
  · obtain ⟨a1, a2, a3⟩ := bandOkB_true.1 h1
    obtain ⟨b1, b2⟩ := inB_true.1 h2
    obtain ⟨b3, b4⟩ := inB_true.1 h3
    obtain ⟨c1, c2⟩ := mul_bd (a := l) (b := d) (A := 1000000000000000) (B := 1000) a1 (by omega) (by omega) b4
    obtain ⟨c3, c4⟩ := mul_bd (a := h) (b := d) (A := 1000000000000000) (B := 1000) (by omega) a3 (by omega) b4
    by_cases h4 : l * d ≤ n * 1000000000
    all_goals
      go_enter Try.func25, Try.ntmps25
      go_wp2_with (first | ((go_at_call 15; (with_reducible refine (sbandOk_any l h _).mono ?_); rintro e w1 ⟨rfl, hb1⟩; obtain ⟨hc1, hf1⟩ := bcell hb1; have hz1 := hb1.size; (try simp at hz1); (try have q1_0 : w.heap.size < w1.heap.size := by omega); (try have q1_1 : w.heap.size + 1 < w1.heap.size := by omega); (try have q1_2 : w.heap.size + 2 < w1.heap.size := by omega); (try have q1_3 : w.heap.size + 3 < w1.heap.size := by omega); (try have q1_4 : w.heap.size + 4 < w1.heap.size := by omega))) | (go_at_call 41; (with_reducible refine (l01In_any n 0 1000000 _).mono ?_); rintro e w' ⟨rfl, rfl⟩) | (go_at_call 41; (with_reducible refine (l01In_any d 1 1000 _).mono ?_); rintro e w' ⟨rfl, rfl⟩))
      go_ret
      exact ⟨ret_bool (by rw [Bool.eq_iff_iff]; simp [bandHasB, h1, h2, h3]; try omega), by (repeat (first | exact Below.refl _ _ | refine Below.drew ?_ | (refine Below.alloc ?_ ?hsz _; case hsz => ((try simp) <;> (try omega))) | (refine Below.setCell ?_ ?hsz _; case hsz => ((try simp) <;> (try omega))) | (refine below_step (by assumption) ?hsz ?_; case hsz => ((try simp) <;> (try omega)))))⟩
  all_goals
    go_enter Try.func25, Try.ntmps25
    go_wp2_with (first | ((go_at_call 15; (with_reducible refine (sbandOk_any l h _).mono ?_); rintro e w1 ⟨rfl, hb1⟩; obtain ⟨hc1, hf1⟩ := bcell hb1; have hz1 := hb1.size; (try simp at hz1); (try have q1_0 : w.heap.size < w1.heap.size := by omega); (try have q1_1 : w.heap.size + 1 < w1.heap.size := by omega); (try have q1_2 : w.heap.size + 2 < w1.heap.size := by omega); (try have q1_3 : w.heap.size + 3 < w1.heap.size := by omega); (try have q1_4 : w.heap.size + 4 < w1.heap.size := by omega))) | (go_at_call 41; (with_reducible refine (l01In_any n 0 1000000 _).mono ?_); rintro e w' ⟨rfl, rfl⟩) | (go_at_call 41; (with_reducible refine (l01In_any d 1 1000 _).mono ?_); rintro e w' ⟨rfl, rfl⟩))
    go_ret
    exact ⟨ret_bool (by simp [bandHasB, h1, h2, h3]), by (repeat (first | exact Below.refl _ _ | refine Below.drew ?_ | (refine Below.alloc ?_ ?hsz _; case hsz => ((try simp) <;> (try omega))) | (refine Below.setCell ?_ ?hsz _; case hsz => ((try simp) <;> (try omega))) | (refine below_step (by assumption) ?hsz ?_; case hsz => ((try simp) <;> (try omega)))))⟩

theorem stransfer_any (p l h : Int) (w : World) : Calls Try.prog 20 #[.int .i64 p, .agg #[.int .i64 l, .int .i64 h]] w fun e w' => e = .returned (.tuple #[.int .i64 (transferI p l h), .bool (transferB p l h)]) ∧ Below w.heap.size w w' := by
  rcases Bool.eq_false_or_eq_true (bandOkB l h) with h1 | h1 <;> by_cases h2 : h ≤ 1000000000000 <;> rcases Bool.eq_false_or_eq_true (inB p 0 1000000) with h3 | h3
  · obtain ⟨b3, b4, b5⟩ := bandOkB_true.1 h1
    obtain ⟨b6, b7⟩ := inB_true.1 h3
    have b8 : 0 ≤ p * (l + h) := Int.mul_nonneg b6 (by omega)
    have b9 : p * (l + h) ≤ 1000000 * (l + h) := Int.mul_le_mul_of_nonneg_right b7 (by omega)
    go_enter Try.func20, Try.ntmps20
    go_wp2_with (first | (go_at_call 15; (with_reducible refine (sbandOk_any l h _).mono ?_); rintro e w1 ⟨rfl, hb1⟩; obtain ⟨hc1, hf1⟩ := bcell hb1; have hz1 := hb1.size; (try simp at hz1); (try have q1_0 : w.heap.size < w1.heap.size := by omega); (try have q1_1 : w.heap.size + 1 < w1.heap.size := by omega); (try have q1_2 : w.heap.size + 2 < w1.heap.size := by omega); (try have q1_3 : w.heap.size + 3 < w1.heap.size := by omega); (try have q1_4 : w.heap.size + 4 < w1.heap.size := by omega)) | (go_at_call 41; (with_reducible refine (l01In_any p 0 1000000 _).mono ?_); rintro e w' ⟨rfl, rfl⟩))
    go_ret2
    exact ⟨by simp [transferI, transferB, h1, h2, h3], by (repeat (first | exact Below.refl _ _ | refine Below.drew ?_ | (refine Below.alloc ?_ ?hsz _; case hsz => ((try simp) <;> (try omega))) | (refine Below.setCell ?_ ?hsz _; case hsz => ((try simp) <;> (try omega))) | (refine below_step (by assumption) ?hsz ?_; case hsz => ((try simp) <;> (try omega)))))⟩
  all_goals
    go_enter Try.func20, Try.ntmps20
    go_wp2_with (first | (go_at_call 15; (with_reducible refine (sbandOk_any l h _).mono ?_); rintro e w1 ⟨rfl, hb1⟩; obtain ⟨hc1, hf1⟩ := bcell hb1; have hz1 := hb1.size; (try simp at hz1); (try have q1_0 : w.heap.size < w1.heap.size := by omega); (try have q1_1 : w.heap.size + 1 < w1.heap.size := by omega); (try have q1_2 : w.heap.size + 2 < w1.heap.size := by omega); (try have q1_3 : w.heap.size + 3 < w1.heap.size := by omega); (try have q1_4 : w.heap.size + 4 < w1.heap.size := by omega)) | (go_at_call 41; (with_reducible refine (l01In_any p 0 1000000 _).mono ?_); rintro e w' ⟨rfl, rfl⟩))
    go_ret2
    exact ⟨by simp [transferI, transferB, h1, h2, h3] <;> omega, by (repeat (first | exact Below.refl _ _ | refine Below.drew ?_ | (refine Below.alloc ?_ ?hsz _; case hsz => ((try simp) <;> (try omega))) | (refine Below.setCell ?_ ?hsz _; case hsz => ((try simp) <;> (try omega))) | (refine below_step (by assumption) ?hsz ?_; case hsz => ((try simp) <;> (try omega)))))⟩

def reserveB (p l h : Int) : Bool := bandOkB l h && decide (h ≤ 1000000000000) && inB p 0 1000000
def reserveI (p l h : Int) : Int := if reserveB p l h = true then ceilI (p * h) 1000000000 else 0
theorem reserve_any (p l h : Int) (w : World) : Calls Try.prog 30 #[.int .i64 p, .agg #[.int .i64 l, .int .i64 h]] w fun e w' => e = .returned (.tuple #[.int .i64 (reserveI p l h), .bool (reserveB p l h)]) ∧ Below w.heap.size w w' := by
  rcases Bool.eq_false_or_eq_true (bandOkB l h) with h1 | h1 <;> by_cases h2 : h ≤ 1000000000000 <;> rcases Bool.eq_false_or_eq_true (inB p 0 1000000) with h3 | h3
  · obtain ⟨b3, b4, b5⟩ := bandOkB_true.1 h1
    obtain ⟨b6, b7⟩ := inB_true.1 h3
    obtain ⟨b8, b9⟩ := mul_bd (a := p) (b := h) (A := 1000000) (B := 1000000000000) b6 b7 (by omega) h2
    go_enter Try.func30, Try.ntmps30
    go_wp2_with (first | (go_at_call 17; (with_reducible refine (bandOk_any l h _).mono ?_); rintro e w1 ⟨rfl, hb1⟩; obtain ⟨hc1, hf1⟩ := bcell hb1; have hz1 := hb1.size; (try simp at hz1); (try have q1_0 : w.heap.size < w1.heap.size := by omega); (try have q1_1 : w.heap.size + 1 < w1.heap.size := by omega); (try have q1_2 : w.heap.size + 2 < w1.heap.size := by omega); (try have q1_3 : w.heap.size + 3 < w1.heap.size := by omega); (try have q1_4 : w.heap.size + 4 < w1.heap.size := by omega)) | (go_at_call 42; (with_reducible refine (within_any p 0 1000000 _).mono ?_); rintro e w' ⟨rfl, rfl⟩) | (go_at_call 43; (with_reducible refine (ceilDiv_any (p * h) 1000000000 (by omega) (by omega) (by omega) _).mono ?_); rintro e w' ⟨rfl, rfl⟩))
    go_ret2
    exact ⟨by simp [reserveI, reserveB, h1, h2, h3], by (repeat (first | exact Below.refl _ _ | refine Below.drew ?_ | (refine Below.alloc ?_ ?hsz _; case hsz => ((try simp) <;> (try omega))) | (refine Below.setCell ?_ ?hsz _; case hsz => ((try simp) <;> (try omega))) | (refine below_step (by assumption) ?hsz ?_; case hsz => ((try simp) <;> (try omega)))))⟩
  all_goals
    go_enter Try.func30, Try.ntmps30
    go_wp2_with (first | (go_at_call 17; (with_reducible refine (bandOk_any l h _).mono ?_); rintro e w1 ⟨rfl, hb1⟩; obtain ⟨hc1, hf1⟩ := bcell hb1; have hz1 := hb1.size; (try simp at hz1); (try have q1_0 : w.heap.size < w1.heap.size := by omega); (try have q1_1 : w.heap.size + 1 < w1.heap.size := by omega); (try have q1_2 : w.heap.size + 2 < w1.heap.size := by omega); (try have q1_3 : w.heap.size + 3 < w1.heap.size := by omega); (try have q1_4 : w.heap.size + 4 < w1.heap.size := by omega)) | (go_at_call 42; (with_reducible refine (within_any p 0 1000000 _).mono ?_); rintro e w' ⟨rfl, rfl⟩))
    go_ret2
    exact ⟨by simp [reserveI, reserveB, h1, h3] <;> omega, by (repeat (first | exact Below.refl _ _ | refine Below.drew ?_ | (refine Below.alloc ?_ ?hsz _; case hsz => ((try simp) <;> (try omega))) | (refine Below.setCell ?_ ?hsz _; case hsz => ((try simp) <;> (try omega))) | (refine below_step (by assumption) ?hsz ?_; case hsz => ((try simp) <;> (try omega)))))⟩
theorem sreserve_any (p l h : Int) (w : World) : Calls Try.prog 29 #[.int .i64 p, .agg #[.int .i64 l, .int .i64 h]] w fun e w' => e = .returned (.tuple #[.int .i64 (reserveI p l h), .bool (reserveB p l h)]) ∧ Below w.heap.size w w' := by
  rcases Bool.eq_false_or_eq_true (bandOkB l h) with h1 | h1 <;> by_cases h2 : h ≤ 1000000000000 <;> rcases Bool.eq_false_or_eq_true (inB p 0 1000000) with h3 | h3
  · obtain ⟨b3, b4, b5⟩ := bandOkB_true.1 h1
    obtain ⟨b6, b7⟩ := inB_true.1 h3
    obtain ⟨b8, b9⟩ := mul_bd (a := p) (b := h) (A := 1000000) (B := 1000000000000) b6 b7 (by omega) h2
    have e1 : reserveI p l h = ceilI (p * h) 1000000000 := by simp [reserveI, reserveB, h1, h2, h3]
    have e3 : reserveB p l h = true := by simp [reserveB, h1, h2, h3]
    rw [e1, e3]
    clear e1 e3
    by_cases h5 : p * h % 1000000000 = 0
    · rw [ceilI_eq _ b8 h5]
      go_enter Try.func29, Try.ntmps29
      go_wp2_with (first | (go_at_call 15; (with_reducible refine (sbandOk_any l h _).mono ?_); rintro e w1 ⟨rfl, hb1⟩; obtain ⟨hc1, hf1⟩ := bcell hb1; have hz1 := hb1.size; (try simp at hz1); (try have q1_0 : w.heap.size < w1.heap.size := by omega); (try have q1_1 : w.heap.size + 1 < w1.heap.size := by omega); (try have q1_2 : w.heap.size + 2 < w1.heap.size := by omega); (try have q1_3 : w.heap.size + 3 < w1.heap.size := by omega); (try have q1_4 : w.heap.size + 4 < w1.heap.size := by omega)) | (go_at_call 41; (with_reducible refine (l01In_any p 0 1000000 _).mono ?_); rintro e w' ⟨rfl, rfl⟩))
      go_ret2
      exact ⟨rfl, by (repeat (first | exact Below.refl _ _ | refine Below.drew ?_ | (refine Below.alloc ?_ ?hsz _; case hsz => ((try simp) <;> (try omega))) | (refine Below.setCell ?_ ?hsz _; case hsz => ((try simp) <;> (try omega))) | (refine below_step (by assumption) ?hsz ?_; case hsz => ((try simp) <;> (try omega)))))⟩
    · rw [ceilI_up _ b8 h5]
      have h6 : (p * h % 1000000000 == 0) = false := by simpa using h5
      go_enter Try.func29, Try.ntmps29
      go_wp2_with (first | (go_at_call 15; (with_reducible refine (sbandOk_any l h _).mono ?_); rintro e w1 ⟨rfl, hb1⟩; obtain ⟨hc1, hf1⟩ := bcell hb1; have hz1 := hb1.size; (try simp at hz1); (try have q1_0 : w.heap.size < w1.heap.size := by omega); (try have q1_1 : w.heap.size + 1 < w1.heap.size := by omega); (try have q1_2 : w.heap.size + 2 < w1.heap.size := by omega); (try have q1_3 : w.heap.size + 3 < w1.heap.size := by omega); (try have q1_4 : w.heap.size + 4 < w1.heap.size := by omega)) | (go_at_call 41; (with_reducible refine (l01In_any p 0 1000000 _).mono ?_); rintro e w' ⟨rfl, rfl⟩))
      go_ret2
      exact ⟨rfl, by (repeat (first | exact Below.refl _ _ | refine Below.drew ?_ | (refine Below.alloc ?_ ?hsz _; case hsz => ((try simp) <;> (try omega))) | (refine Below.setCell ?_ ?hsz _; case hsz => ((try simp) <;> (try omega))) | (refine below_step (by assumption) ?hsz ?_; case hsz => ((try simp) <;> (try omega)))))⟩
  all_goals
    go_enter Try.func29, Try.ntmps29
    go_wp2_with (first | (go_at_call 15; (with_reducible refine (sbandOk_any l h _).mono ?_); rintro e w1 ⟨rfl, hb1⟩; obtain ⟨hc1, hf1⟩ := bcell hb1; have hz1 := hb1.size; (try simp at hz1); (try have q1_0 : w.heap.size < w1.heap.size := by omega); (try have q1_1 : w.heap.size + 1 < w1.heap.size := by omega); (try have q1_2 : w.heap.size + 2 < w1.heap.size := by omega); (try have q1_3 : w.heap.size + 3 < w1.heap.size := by omega); (try have q1_4 : w.heap.size + 4 < w1.heap.size := by omega)) | (go_at_call 41; (with_reducible refine (l01In_any p 0 1000000 _).mono ?_); rintro e w' ⟨rfl, rfl⟩))
    go_ret2
    exact ⟨by simp [reserveI, reserveB, h1, h3] <;> omega, by (repeat (first | exact Below.refl _ _ | refine Below.drew ?_ | (refine Below.alloc ?_ ?hsz _; case hsz => ((try simp) <;> (try omega))) | (refine Below.setCell ?_ ?hsz _; case hsz => ((try simp) <;> (try omega))) | (refine below_step (by assumption) ?hsz ?_; case hsz => ((try simp) <;> (try omega)))))⟩

def discountL (r : Int) : Int := if inB r 0 1000 = true then bandOfL 1000 (1000 + r) else 0
def discountH (r : Int) : Int := if inB r 0 1000 = true then bandOfH 1000 (1000 + r) else 0
theorem discount_any (r : Int) (w : World) : Calls Try.prog 34 #[.int .i64 r] w fun e w' => e = .returned (.tuple #[.agg #[.int .i64 (discountL r), .int .i64 (discountH r)], .bool (inB r 0 1000)]) ∧ Below w.heap.size w w' := by
  rcases Bool.eq_false_or_eq_true (inB r 0 1000) with h1 | h1
  · obtain ⟨b1, b2⟩ := inB_true.1 h1
    have e1 : discountL r = bandOfL 1000 (1000 + r) := by simp [discountL, h1]
    have e2 : discountH r = bandOfH 1000 (1000 + r) := by simp [discountH, h1]
    have e3 : bandOfB 1000 (1000 + r) = true := by
      have c1 : inB 1000 0 1000000 = true := by simp [inB]
      have c2 : inB (1000 + r) 1 1000000 = true := inB_true.2 ⟨by omega, by omega⟩
      simp [bandOfB, c1, c2]
    rw [e1, e2]
    clear e1 e2
    go_enter Try.func34, Try.ntmps34
    go_wp2_with (first | (go_at_call 42; (with_reducible refine (within_any r 0 1000 _).mono ?_); rintro e w' ⟨rfl, rfl⟩) | ((go_at_call 23; (with_reducible refine (bandOf_any 1000 (1000 + r) _).mono ?_); rintro e w1 ⟨rfl, hb1⟩; obtain ⟨hc1, hf1⟩ := bcell hb1; have hz1 := hb1.size; (try simp at hz1); (try have q1_0 : w.heap.size < w1.heap.size := by omega); (try have q1_1 : w.heap.size + 1 < w1.heap.size := by omega); (try have q1_2 : w.heap.size + 2 < w1.heap.size := by omega); (try have q1_3 : w.heap.size + 3 < w1.heap.size := by omega); (try have q1_4 : w.heap.size + 4 < w1.heap.size := by omega)); have r1_0 : w1.cell? ⟨w.heap.size, 0, none⟩ = some (.int .i64 0) := (by simp [go_sem, *]); have r1_1 : w1.cell? ⟨w.heap.size, 1, none⟩ = some (.int .i64 0) := (by simp [go_sem, *])))
    exact bodyPost_ret (v := .tuple #[.agg #[.int .i64 (bandOfL 1000 (1000 + r)), .int .i64 (bandOfH 1000 (1000 + r))], .bool true]) (by simp [results, Try.results34, go_sem, r1_0, r1_1]) rfl ⟨by rw [h1], by (repeat (first | exact Below.refl _ _ | refine Below.drew ?_ | (refine Below.alloc ?_ ?hsz _; case hsz => ((try simp) <;> (try omega))) | (refine Below.setCell ?_ ?hsz _; case hsz => ((try simp) <;> (try omega))) | (refine below_step (by assumption) ?hsz ?_; case hsz => ((try simp) <;> (try omega)))))⟩
  · go_enter Try.func34, Try.ntmps34
    go_wp2_with (first | (go_at_call 42; (with_reducible refine (within_any r 0 1000 _).mono ?_); rintro e w' ⟨rfl, rfl⟩))
    exact bodyPost_ret (v := .tuple #[.agg #[.int .i64 0, .int .i64 0], .bool false]) (by simp [results, Try.results34, go_sem]) rfl ⟨by simp [discountL, discountH, h1], by (repeat (first | exact Below.refl _ _ | refine Below.drew ?_ | (refine Below.alloc ?_ ?hsz _; case hsz => ((try simp) <;> (try omega))) | (refine Below.setCell ?_ ?hsz _; case hsz => ((try simp) <;> (try omega))) | (refine below_step (by assumption) ?hsz ?_; case hsz => ((try simp) <;> (try omega)))))⟩
theorem sdiscount_any (r : Int) (w : World) : Calls Try.prog 33 #[.int .i64 r] w fun e w' => e = .returned (.tuple #[.agg #[.int .i64 (discountL r), .int .i64 (discountH r)], .bool (inB r 0 1000)]) ∧ Below w.heap.size w w' := by
  rcases Bool.eq_false_or_eq_true (inB r 0 1000) with h1 | h1
  · obtain ⟨b1, b2⟩ := inB_true.1 h1
    have e1 : discountL r = bandOfL 1000 (1000 + r) := by simp [discountL, h1]
    have e2 : discountH r = bandOfH 1000 (1000 + r) := by simp [discountH, h1]
    have e3 : bandOfB 1000 (1000 + r) = true := by
      have c1 : inB 1000 0 1000000 = true := by simp [inB]
      have c2 : inB (1000 + r) 1 1000000 = true := inB_true.2 ⟨by omega, by omega⟩
      simp [bandOfB, c1, c2]
    rw [e1, e2]
    clear e1 e2
    go_enter Try.func33, Try.ntmps33
    go_wp2_with (first | (go_at_call 41; (with_reducible refine (l01In_any r 0 1000 _).mono ?_); rintro e w' ⟨rfl, rfl⟩) | ((go_at_call 22; (with_reducible refine (sbandOf_any 1000 (1000 + r) _).mono ?_); rintro e w1 ⟨rfl, hb1⟩; obtain ⟨hc1, hf1⟩ := bcell hb1; have hz1 := hb1.size; (try simp at hz1); (try have q1_0 : w.heap.size < w1.heap.size := by omega); (try have q1_1 : w.heap.size + 1 < w1.heap.size := by omega); (try have q1_2 : w.heap.size + 2 < w1.heap.size := by omega); (try have q1_3 : w.heap.size + 3 < w1.heap.size := by omega); (try have q1_4 : w.heap.size + 4 < w1.heap.size := by omega)); have r1_0 : w1.cell? ⟨w.heap.size, 0, none⟩ = some (.int .i64 0) := (by simp [go_sem, *]); have r1_1 : w1.cell? ⟨w.heap.size, 1, none⟩ = some (.int .i64 0) := (by simp [go_sem, *])))
    exact bodyPost_ret (v := .tuple #[.agg #[.int .i64 (bandOfL 1000 (1000 + r)), .int .i64 (bandOfH 1000 (1000 + r))], .bool true]) (by simp [results, Try.results33, go_sem, r1_0, r1_1]) rfl ⟨by rw [h1], by (repeat (first | exact Below.refl _ _ | refine Below.drew ?_ | (refine Below.alloc ?_ ?hsz _; case hsz => ((try simp) <;> (try omega))) | (refine Below.setCell ?_ ?hsz _; case hsz => ((try simp) <;> (try omega))) | (refine below_step (by assumption) ?hsz ?_; case hsz => ((try simp) <;> (try omega)))))⟩
  · go_enter Try.func33, Try.ntmps33
    go_wp2_with (first | (go_at_call 41; (with_reducible refine (l01In_any r 0 1000 _).mono ?_); rintro e w' ⟨rfl, rfl⟩))
    exact bodyPost_ret (v := .tuple #[.agg #[.int .i64 0, .int .i64 0], .bool false]) (by simp [results, Try.results33, go_sem]) rfl ⟨by simp [discountL, discountH, h1], by (repeat (first | exact Below.refl _ _ | refine Below.drew ?_ | (refine Below.alloc ?_ ?hsz _; case hsz => ((try simp) <;> (try omega))) | (refine Below.setCell ?_ ?hsz _; case hsz => ((try simp) <;> (try omega))) | (refine below_step (by assumption) ?hsz ?_; case hsz => ((try simp) <;> (try omega)))))⟩
end Go.Proofs.Ytnfnphhimbmghaa
