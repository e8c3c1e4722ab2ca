/- Contracts of PowBand, of the program and of the reference. -/
import Derived.Test.YtjmibbjachgofaaBandZ
import Derived.Test.YtjmibbjachgofaaBox
import Derived.Outline
namespace Go.Proofs.Ytjmibbjachgofaa
open Go.RowKit

def powP (l h : Int) : Nat → Int × Int
  | 0 => (1000000000, 1000000000)
  | k + 1 => (bandMulL (powP l h k).1 (powP l h k).2 l h, bandMulH (powP l h k).1 (powP l h k).2 l h)
def powB (l h n : Int) : Bool := bandOkB l h && decide (h ≤ 1000000000) && inB n 0 120
def powL (l h n : Int) : Int := if powB l h n = true then (powP l h n.toNat).1 else 0
def powH (l h n : Int) : Int := if powB l h n = true then (powP l h n.toNat).2 else 0

set_option maxHeartbeats 400000 in
theorem pow_any (l h n : Int) (w : World) : Calls Try.prog 22 #[.agg #[.int .i64 l, .int .i64 h], .int .i64 n] w fun e w' =>
    e = .returned (.tuple #[.agg #[.int .i64 (powL l h n), .int .i64 (powH l h n)], .bool (powB l h n)]) ∧ Below w.heap.size w w' := by
  rcases Bool.eq_false_or_eq_true (bandOkB l h) with h1 | h1 <;> by_cases h2 : h ≤ 1000000000 <;> rcases Bool.eq_false_or_eq_true (inB n 0 120) with h3 | h3
  · obtain ⟨b1, b2⟩ := inB_true.1 h3
    obtain ⟨m, rfl⟩ := Int.eq_ofNat_of_zero_le b1
    have e1 : powL l h m = (powP l h m).1 := by simp [powL, powB, h1, h2, h3]
    have e2 : powH l h m = (powP l h m).2 := by simp [powH, powB, h1, h2, h3]
    have e3 : powB l h m = true := by simp [powB, h1, h2, h3]
    rw [e1, e2, e3]
    clear e1 e2 e3
    have hd : decide (1000000000 < h) = false := by simp; omega
    go_enter Try.func22, Try.ntmps22
    go_wp2_with (first | ((go_at_call 23; (with_reducible refine (bandOk_any l h _).mono ?_); rintro e w1 ⟨rfl, hb1⟩; obtain ⟨hc1, hf1⟩ := bcell hb1; (try simp only [World.size_drew] at hc1 hf1); have hz1 := hb1.size; (try simp at hz1); (try have q1_0 : w.heap.size < w1.heap.size := by omega); (try have q1_1 : w.heap.size + 1 < w1.heap.size := by omega); (try have q1_2 : w.heap.size + 2 < w1.heap.size := by omega); (try have q1_3 : w.heap.size + 3 < w1.heap.size := by omega); (try have q1_4 : w.heap.size + 4 < w1.heap.size := by omega); (try have q1_0_0 : w0.heap.size < w1.heap.size := by omega); (try have q1_0_1 : w0.heap.size + 1 < w1.heap.size := by omega); (try have q1_2_0 : w2.heap.size < w1.heap.size := by omega); (try have q1_2_1 : w2.heap.size + 1 < w1.heap.size := by omega); (try have q1_3_0 : w3.heap.size < w1.heap.size := by omega); (try have q1_3_1 : w3.heap.size + 1 < w1.heap.size := by omega); (try have q1_4_0 : w4.heap.size < w1.heap.size := by omega); (try have q1_4_1 : w4.heap.size + 1 < w1.heap.size := by omega); (try have q1_5_0 : w5.heap.size < w1.heap.size := by omega); (try have q1_5_1 : w5.heap.size + 1 < w1.heap.size := by omega); (try have q1_6_0 : w6.heap.size < w1.heap.size := by omega); (try have q1_6_1 : w6.heap.size + 1 < w1.heap.size := by omega)); have r1_0 : w1.cell? ⟨w.heap.size + 1, 0, none⟩ = some (.int .i64 0) := (by simp [go_sem, *]); have r1_1 : w1.cell? ⟨w.heap.size + 1, 1, none⟩ = some (.int .i64 0) := (by simp [go_sem, *]); have x1 := ((Box.made w 27 #[.int .i64 l, .int .i64 h]).alloc (.cells #[.int .i64 0, .int .i64 0] 27)).kept hb1; have x2 := (Box.made (w.alloc (.cells #[.int .i64 l, .int .i64 h] 27)) 27 #[.int .i64 0, .int .i64 0]).kept hb1) | (go_at_call 55; (with_reducible refine (within_any m 0 120 _).mono ?_); rintro e w' ⟨rfl, rfl⟩))
    simp only [World.size_alloc] at x2
    clear hc1 hf1 r1_0 r1_1
    go_loopw [23] (fun i wr => ∃ k : Nat, k ≤ m ∧ i = .int .i64 k ∧ Below w.heap.size w wr ∧ w1.heap.size < wr.heap.size ∧ Box wr w.heap.size 27 #[.int .i64 l, .int .i64 h] ∧ Box wr (w.heap.size + 1) 27 #[.int .i64 0, .int .i64 0] ∧ Box wr w1.heap.size 27 #[.int .i64 (powP l h k).1, .int .i64 (powP l h k).2])
      (fun i _ => m - (intOf i).toNat)
    case atStart => exact ⟨0, Nat.zero_le _, rfl, by (repeat (first | with_reducible exact Below.refl _ _ | with_reducible refine Below.drew ?_ | (with_reducible refine Below.alloc ?_ ?hsz _; case hsz => ((try simp) <;> (try omega))) | (with_reducible refine Below.setCell ?_ ?hsz _; case hsz => ((try simp) <;> (try omega))) | (with_reducible refine below_step (by with_reducible assumption) ?hsz ?_; case hsz => ((try simp) <;> (try omega))))), by simp, x1.alloc _, x2.alloc _, Box.made _ _ _⟩
    case round =>
      obtain ⟨k, hk, rfl, hbw, hzw, y1, y2, y3⟩ := hrel
      obtain ⟨g1, g2, g3, g4⟩ := y1.two
      obtain ⟨g5, g6, g7, g8⟩ := y2.two
      obtain ⟨g9, g10, g11, g12⟩ := y3.two
      by_cases hlt : k < m
      · go_wp2_with (first | (go_at_call 28; (with_reducible refine (bandMul_any (powP l h k).1 (powP l h k).2 l h _).mono ?_); rintro e w2 ⟨rfl, hb2⟩; have z1 := y1.kept hb2; have z2 := y2.kept hb2; have z3 := y3.kept hb2; obtain ⟨j9, j10, j11, j12⟩ := z3.two; have hz2 := hb2.size))
        go_roundw
        case rel => exact ⟨k + 1, by omega, by go_num, by (repeat (first | with_reducible exact Below.refl _ _ | with_reducible refine Below.drew ?_ | (with_reducible refine Below.alloc ?_ ?hsz _; case hsz => ((try simp) <;> (try omega))) | (with_reducible refine Below.setCell ?_ ?hsz _; case hsz => ((try simp) <;> (try omega))) | (with_reducible refine below_step (by with_reducible assumption) ?hsz ?_; case hsz => ((try simp) <;> (try omega))))), by simp [World.setCell]; omega, (z1.far (by simp; omega) _).far (by simp; omega) _, (z2.far (by simp; omega) _).far (by simp; omega) _, z3.put2 _ _⟩
        case measure => simp [intOf]; omega
      · obtain rfl : k = m := by omega
        go_wp2
        exact bodyPost_ret (v := .tuple #[.agg #[.int .i64 (powP l h k).1, .int .i64 (powP l h k).2], .bool true]) (by simp [results, Try.results22, go_sem, *]) rfl ⟨rfl, by (repeat (first | with_reducible exact Below.refl _ _ | with_reducible refine Below.drew ?_ | (with_reducible refine Below.alloc ?_ ?hsz _; case hsz => ((try simp) <;> (try omega))) | (with_reducible refine Below.setCell ?_ ?hsz _; case hsz => ((try simp) <;> (try omega))) | (with_reducible refine below_step (by with_reducible assumption) ?hsz ?_; case hsz => ((try simp) <;> (try omega)))))⟩
  all_goals
    go_enter Try.func22, Try.ntmps22
    go_wp2_with (first | ((go_at_call 23; (with_reducible refine (bandOk_any l h _).mono ?_); rintro e w1 ⟨rfl, hb1⟩; obtain ⟨hc1, hf1⟩ := bcell hb1; (try simp only [World.size_drew] at hc1 hf1); have hz1 := hb1.size; (try simp at hz1); (try have q1_0 : w.heap.size < w1.heap.size := by omega); (try have q1_1 : w.heap.size + 1 < w1.heap.size := by omega); (try have q1_2 : w.heap.size + 2 < w1.heap.size := by omega); (try have q1_3 : w.heap.size + 3 < w1.heap.size := by omega); (try have q1_4 : w.heap.size + 4 < w1.heap.size := by omega); (try have q1_0_0 : w0.heap.size < w1.heap.size := by omega); (try have q1_0_1 : w0.heap.size + 1 < w1.heap.size := by omega); (try have q1_2_0 : w2.heap.size < w1.heap.size := by omega); (try have q1_2_1 : w2.heap.size + 1 < w1.heap.size := by omega); (try have q1_3_0 : w3.heap.size < w1.heap.size := by omega); (try have q1_3_1 : w3.heap.size + 1 < w1.heap.size := by omega); (try have q1_4_0 : w4.heap.size < w1.heap.size := by omega); (try have q1_4_1 : w4.heap.size + 1 < w1.heap.size := by omega); (try have q1_5_0 : w5.heap.size < w1.heap.size := by omega); (try have q1_5_1 : w5.heap.size + 1 < w1.heap.size := by omega); (try have q1_6_0 : w6.heap.size < w1.heap.size := by omega); (try have q1_6_1 : w6.heap.size + 1 < w1.heap.size := by omega)); have r1_0 : w1.cell? ⟨w.heap.size + 1, 0, none⟩ = some (.int .i64 0) := (by simp [go_sem, *]); have r1_1 : w1.cell? ⟨w.heap.size + 1, 1, none⟩ = some (.int .i64 0) := (by simp [go_sem, *])) | (go_at_call 55; (with_reducible refine (within_any n 0 120 _).mono ?_); rintro e w' ⟨rfl, rfl⟩))
    exact bodyPost_ret (v := .tuple #[.agg #[.int .i64 0, .int .i64 0], .bool false]) (by simp [results, Try.results22, go_sem, *]) rfl ⟨by simp [powL, powH, powB, h1, h3] <;> omega, by (repeat (first | with_reducible exact Below.refl _ _ | with_reducible refine Below.drew ?_ | (with_reducible refine Below.alloc ?_ ?hsz _; case hsz => ((try simp) <;> (try omega))) | (with_reducible refine Below.setCell ?_ ?hsz _; case hsz => ((try simp) <;> (try omega))) | (with_reducible refine below_step (by with_reducible assumption) ?hsz ?_; case hsz => ((try simp) <;> (try omega)))))⟩
set_option maxHeartbeats 400000 in
theorem spow_any (l h n : Int) (w : World) : Calls Try.prog 70 #[.agg #[.int .i64 l, .int .i64 h], .int .i64 n] w fun e w' =>
    e = .returned (.tuple #[.agg #[.int .i64 (powL l h n), .int .i64 (powH l h n)], .bool (powB l h n)]) ∧ Below w.heap.size w w' := by
  rcases Bool.eq_false_or_eq_true (bandOkB l h) with h1 | h1 <;> by_cases h2 : h ≤ 1000000000 <;> rcases Bool.eq_false_or_eq_true (inB n 0 120) with h3 | h3
  · obtain ⟨b1, b2⟩ := inB_true.1 h3
    obtain ⟨m, rfl⟩ := Int.eq_ofNat_of_zero_le b1
    have e1 : powL l h m = (powP l h m).1 := by simp [powL, powB, h1, h2, h3]
    have e2 : powH l h m = (powP l h m).2 := by simp [powH, powB, h1, h2, h3]
    have e3 : powB l h m = true := by simp [powB, h1, h2, h3]
    rw [e1, e2, e3]
    clear e1 e2 e3
    have hd : decide (1000000000 < h) = false := by simp; omega
    go_enter Try.func70, Try.ntmps70
    go_wp2_with (first | ((go_at_call 57; (with_reducible refine (sbandOk_any l h _).mono ?_); rintro e w1 ⟨rfl, hb1⟩; obtain ⟨hc1, hf1⟩ := bcell hb1; (try simp only [World.size_drew] at hc1 hf1); have hz1 := hb1.size; (try simp at hz1); (try have q1_0 : w.heap.size < w1.heap.size := by omega); (try have q1_1 : w.heap.size + 1 < w1.heap.size := by omega); (try have q1_2 : w.heap.size + 2 < w1.heap.size := by omega); (try have q1_3 : w.heap.size + 3 < w1.heap.size := by omega); (try have q1_4 : w.heap.size + 4 < w1.heap.size := by omega); (try have q1_0_0 : w0.heap.size < w1.heap.size := by omega); (try have q1_0_1 : w0.heap.size + 1 < w1.heap.size := by omega); (try have q1_2_0 : w2.heap.size < w1.heap.size := by omega); (try have q1_2_1 : w2.heap.size + 1 < w1.heap.size := by omega); (try have q1_3_0 : w3.heap.size < w1.heap.size := by omega); (try have q1_3_1 : w3.heap.size + 1 < w1.heap.size := by omega); (try have q1_4_0 : w4.heap.size < w1.heap.size := by omega); (try have q1_4_1 : w4.heap.size + 1 < w1.heap.size := by omega); (try have q1_5_0 : w5.heap.size < w1.heap.size := by omega); (try have q1_5_1 : w5.heap.size + 1 < w1.heap.size := by omega); (try have q1_6_0 : w6.heap.size < w1.heap.size := by omega); (try have q1_6_1 : w6.heap.size + 1 < w1.heap.size := by omega)); have r1_0 : w1.cell? ⟨w.heap.size + 1, 0, none⟩ = some (.int .i64 0) := (by simp [go_sem, *]); have r1_1 : w1.cell? ⟨w.heap.size + 1, 1, none⟩ = some (.int .i64 0) := (by simp [go_sem, *]); have x1 := ((Box.made w 27 #[.int .i64 l, .int .i64 h]).alloc (.cells #[.int .i64 0, .int .i64 0] 27)).kept hb1; have x2 := (Box.made (w.alloc (.cells #[.int .i64 l, .int .i64 h] 27)) 27 #[.int .i64 0, .int .i64 0]).kept hb1) | (go_at_call 54; (with_reducible refine (l01In_any m 0 120 _).mono ?_); rintro e w' ⟨rfl, rfl⟩))
    simp only [World.size_alloc] at x2
    clear hc1 hf1 r1_0 r1_1
    go_loopw [7] (fun i wr => ∃ k : Nat, k ≤ m ∧ i = .int .i64 k ∧ Below w.heap.size w wr ∧ w1.heap.size < wr.heap.size ∧ Box wr w.heap.size 27 #[.int .i64 l, .int .i64 h] ∧ Box wr (w.heap.size + 1) 27 #[.int .i64 0, .int .i64 0] ∧ Box wr w1.heap.size 27 #[.int .i64 (powP l h k).1, .int .i64 (powP l h k).2])
      (fun i _ => m - (intOf i).toNat)
    case atStart => exact ⟨0, Nat.zero_le _, rfl, by (repeat (first | with_reducible exact Below.refl _ _ | with_reducible refine Below.drew ?_ | (with_reducible refine Below.alloc ?_ ?hsz _; case hsz => ((try simp) <;> (try omega))) | (with_reducible refine Below.setCell ?_ ?hsz _; case hsz => ((try simp) <;> (try omega))) | (with_reducible refine below_step (by with_reducible assumption) ?hsz ?_; case hsz => ((try simp) <;> (try omega))))), by simp, x1.alloc _, x2.alloc _, Box.made _ _ _⟩
    case round =>
      obtain ⟨k, hk, rfl, hbw, hzw, y1, y2, y3⟩ := hrel
      obtain ⟨g1, g2, g3, g4⟩ := y1.two
      obtain ⟨g5, g6, g7, g8⟩ := y2.two
      obtain ⟨g9, g10, g11, g12⟩ := y3.two
      by_cases hlt : k < m
      · go_wp2_with (first | (go_at_call 68; (with_reducible refine (sbandMul_any (powP l h k).1 (powP l h k).2 l h _).mono ?_); rintro e w2 ⟨rfl, hb2⟩; have z1 := y1.kept hb2; have z2 := y2.kept hb2; have z3 := y3.kept hb2; obtain ⟨j9, j10, j11, j12⟩ := z3.two; have hz2 := hb2.size))
        go_roundw
        case rel => exact ⟨k + 1, by omega, by go_num, by (repeat (first | with_reducible exact Below.refl _ _ | with_reducible refine Below.drew ?_ | (with_reducible refine Below.alloc ?_ ?hsz _; case hsz => ((try simp) <;> (try omega))) | (with_reducible refine Below.setCell ?_ ?hsz _; case hsz => ((try simp) <;> (try omega))) | (with_reducible refine below_step (by with_reducible assumption) ?hsz ?_; case hsz => ((try simp) <;> (try omega))))), by simp [World.setCell]; omega, (z1.far (by simp; omega) _).far (by simp; omega) _, (z2.far (by simp; omega) _).far (by simp; omega) _, z3.put2 _ _⟩
        case measure => simp [intOf]; omega
      · obtain rfl : k = m := by omega
        go_wp2
        exact bodyPost_ret (v := .tuple #[.agg #[.int .i64 (powP l h k).1, .int .i64 (powP l h k).2], .bool true]) (by simp [results, Try.results70, go_sem, *]) rfl ⟨rfl, by (repeat (first | with_reducible exact Below.refl _ _ | with_reducible refine Below.drew ?_ | (with_reducible refine Below.alloc ?_ ?hsz _; case hsz => ((try simp) <;> (try omega))) | (with_reducible refine Below.setCell ?_ ?hsz _; case hsz => ((try simp) <;> (try omega))) | (with_reducible refine below_step (by with_reducible assumption) ?hsz ?_; case hsz => ((try simp) <;> (try omega)))))⟩
  all_goals
    go_enter Try.func70, Try.ntmps70
    go_wp2_with (first | ((go_at_call 57; (with_reducible refine (sbandOk_any l h _).mono ?_); rintro e w1 ⟨rfl, hb1⟩; obtain ⟨hc1, hf1⟩ := bcell hb1; (try simp only [World.size_drew] at hc1 hf1); have hz1 := hb1.size; (try simp at hz1); (try have q1_0 : w.heap.size < w1.heap.size := by omega); (try have q1_1 : w.heap.size + 1 < w1.heap.size := by omega); (try have q1_2 : w.heap.size + 2 < w1.heap.size := by omega); (try have q1_3 : w.heap.size + 3 < w1.heap.size := by omega); (try have q1_4 : w.heap.size + 4 < w1.heap.size := by omega); (try have q1_0_0 : w0.heap.size < w1.heap.size := by omega); (try have q1_0_1 : w0.heap.size + 1 < w1.heap.size := by omega); (try have q1_2_0 : w2.heap.size < w1.heap.size := by omega); (try have q1_2_1 : w2.heap.size + 1 < w1.heap.size := by omega); (try have q1_3_0 : w3.heap.size < w1.heap.size := by omega); (try have q1_3_1 : w3.heap.size + 1 < w1.heap.size := by omega); (try have q1_4_0 : w4.heap.size < w1.heap.size := by omega); (try have q1_4_1 : w4.heap.size + 1 < w1.heap.size := by omega); (try have q1_5_0 : w5.heap.size < w1.heap.size := by omega); (try have q1_5_1 : w5.heap.size + 1 < w1.heap.size := by omega); (try have q1_6_0 : w6.heap.size < w1.heap.size := by omega); (try have q1_6_1 : w6.heap.size + 1 < w1.heap.size := by omega)); have r1_0 : w1.cell? ⟨w.heap.size + 1, 0, none⟩ = some (.int .i64 0) := (by simp [go_sem, *]); have r1_1 : w1.cell? ⟨w.heap.size + 1, 1, none⟩ = some (.int .i64 0) := (by simp [go_sem, *])) | (go_at_call 54; (with_reducible refine (l01In_any n 0 120 _).mono ?_); rintro e w' ⟨rfl, rfl⟩))
    exact bodyPost_ret (v := .tuple #[.agg #[.int .i64 0, .int .i64 0], .bool false]) (by simp [results, Try.results70, go_sem, *]) rfl ⟨by simp [powL, powH, powB, h1, h3] <;> omega, by (repeat (first | with_reducible exact Below.refl _ _ | with_reducible refine Below.drew ?_ | (with_reducible refine Below.alloc ?_ ?hsz _; case hsz => ((try simp) <;> (try omega))) | (with_reducible refine Below.setCell ?_ ?hsz _; case hsz => ((try simp) <;> (try omega))) | (with_reducible refine below_step (by with_reducible assumption) ?hsz ?_; case hsz => ((try simp) <;> (try omega)))))⟩
end Go.Proofs.Ytjmibbjachgofaa
