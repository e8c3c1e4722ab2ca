/- Contracts of BandOf and the functions above it. -/
import Derived.Test.YtjmibbjachgofaaBandW
import Derived.IntWalk
import Derived.StillTailTactics
namespace Go.Proofs.Ytjmibbjachgofaa
open Go.RowKit

def ceilI (n d : Int) : Int := (n + d - 1) / d
theorem ceilDiv_any (n d : Int) (hn : 0 ≤ n) (hd : 1 ≤ d) (hb : n + d ≤ 9200000000000000000) (w : World) : Calls Try.prog 56 #[.int .i64 n, .int .i64 d] w fun e w' => e = .returned (.int .i64 (ceilI n d)) ∧ w = w' := by
  go_enter Try.func56, Try.ntmps56
  go_wp2
  go_ret
  exact ⟨rfl, rfl⟩
def bandOfB (n d : Int) : Bool := inB n 0 1000000 && inB d 1 1000000
def bandOfL (n d : Int) : Int := if bandOfB n d = true then n * 1000000000 / d else 0
def bandOfH (n d : Int) : Int := if bandOfB n d = true then ceilI (n * 1000000000) d else 0
theorem bandOf_any (n d : Int) (w : World) : Calls Try.prog 25 #[.int .i64 n, .int .i64 d] w fun e w' => e = .returned (.tuple #[.agg #[.int .i64 (bandOfL n d), .int .i64 (bandOfH n d)], .bool (bandOfB n d)]) ∧ Below w.heap.size w w' := by
  rcases Bool.eq_false_or_eq_true (inB n 0 1000000) with h1 | h1 <;> rcases Bool.eq_false_or_eq_true (inB d 1 1000000) with h2 | h2
  · obtain ⟨b1, b2⟩ := inB_true.1 h1
    obtain ⟨b3, b4⟩ := inB_true.1 h2
    have e1 : bandOfL n d = n * 1000000000 / d := by simp [bandOfL, bandOfB, h1, h2]
    have e2 : bandOfH n d = ceilI (n * 1000000000) d := by simp [bandOfH, bandOfB, h1, h2]
    have e3 : bandOfB n d = true := by simp [bandOfB, h1, h2]
    rw [e1, e2, e3]
    clear e1 e2 e3
    go_enter Try.func25, Try.ntmps25
    go_wp2_with (first | (go_at_call 55; (with_reducible refine (within_any n 0 1000000 _).mono ?_); rintro e w' ⟨rfl, rfl⟩) | (go_at_call 55; (with_reducible refine (within_any d 1 1000000 _).mono ?_); rintro e w' ⟨rfl, rfl⟩))
    have k1 : IntKind.i64.wrap (n * 1000000000) = n * 1000000000 := IntWalk.i64_in _ (by omega)
    go_region_with (first | (go_at_call 56; (with_reducible refine (ceilDiv_any (n * 1000000000) d (by omega) (by omega) (by omega) _).mono ?_); rintro e w' ⟨rfl, rfl⟩))
    all_goals clear k1
    all_goals go_wp2
    all_goals exact bodyPost_ret (v := .tuple #[.agg #[.int .i64 (n * 1000000000 / d), .int .i64 (ceilI (n * 1000000000) d)], .bool true]) (by simp [results, Try.results25, go_sem]) rfl ⟨rfl, by (repeat (first | with_reducible exact Below.refl _ _ | with_reducible refine Below.drew ?_ | (with_reducible refine Below.alloc ?_ ?hsz _; case hsz => ((try simp) <;> (try omega))) | (with_reducible refine Below.setCell ?_ ?hsz _; case hsz => ((try simp) <;> (try omega))) | (with_reducible refine below_step (by with_reducible assumption) ?hsz ?_; case hsz => ((try simp) <;> (try omega)))))⟩
  all_goals
    go_enter Try.func25, Try.ntmps25
    go_wp2_with (first | (go_at_call 55; (with_reducible refine (within_any n 0 1000000 _).mono ?_); rintro e w' ⟨rfl, rfl⟩) | (go_at_call 55; (with_reducible refine (within_any d 1 1000000 _).mono ?_); rintro e w' ⟨rfl, rfl⟩))
    exact bodyPost_ret (v := .tuple #[.agg #[.int .i64 0, .int .i64 0], .bool false]) (by simp [results, Try.results25, go_sem]) rfl ⟨by simp [bandOfL, bandOfH, bandOfB, h1, h2], by (repeat (first | with_reducible exact Below.refl _ _ | with_reducible refine Below.drew ?_ | (with_reducible refine Below.alloc ?_ ?hsz _; case hsz => ((try simp) <;> (try omega))) | (with_reducible refine Below.setCell ?_ ?hsz _; case hsz => ((try simp) <;> (try omega))) | (with_reducible refine below_step (by with_reducible assumption) ?hsz ?_; case hsz => ((try simp) <;> (try omega)))))⟩

theorem sbandOf_any (n d : Int) (w : World) : Calls Try.prog 17 #[.int .i64 n, .int .i64 d] w fun e w' => e = .returned (.tuple #[.agg #[.int .i64 (bandOfL n d), .int .i64 (bandOfH n d)], .bool (bandOfB n d)]) ∧ Below w.heap.size w w' := by
  rcases Bool.eq_false_or_eq_true (inB n 0 1000000) with h1 | h1 <;> rcases Bool.eq_false_or_eq_true (inB d 1 1000000) with h2 | h2
  · obtain ⟨b1, b2⟩ := inB_true.1 h1
    obtain ⟨b3, b4⟩ := inB_true.1 h2
    have e1 : bandOfL n d = n * 1000000000 / d := by simp [bandOfL, bandOfB, h1, h2]
    have e2 : bandOfH n d = (n * 1000000000 + d - 1) / d := by simp [bandOfH, bandOfB, h1, h2, ceilI]
    have e3 : bandOfB n d = true := by simp [bandOfB, h1, h2]
    rw [e1, e2, e3]
    clear e1 e2 e3
    go_enter Try.func17, Try.ntmps17
    go_wp2_with (first | (go_at_call 54; (with_reducible refine (l01In_any n 0 1000000 _).mono ?_); rintro e w' ⟨rfl, rfl⟩) | (go_at_call 54; (with_reducible refine (l01In_any d 1 1000000 _).mono ?_); rintro e w' ⟨rfl, rfl⟩))
    have k1 : IntKind.i64.wrap (n * 1000000000 + d) = n * 1000000000 + d := IntWalk.i64_in _ (by omega)
    have k2 : IntKind.i64.wrap (n * 1000000000 + d - 1) = n * 1000000000 + d - 1 := IntWalk.i64_in _ (by omega)
    go_region
    all_goals clear k1 k2
    all_goals go_wp2
    all_goals exact bodyPost_ret (v := .tuple #[.agg #[.int .i64 (n * 1000000000 / d), .int .i64 ((n * 1000000000 + d - 1) / d)], .bool true]) (by simp [results, Try.results17, go_sem]) rfl ⟨rfl, by (repeat (first | with_reducible exact Below.refl _ _ | with_reducible refine Below.drew ?_ | (with_reducible refine Below.alloc ?_ ?hsz _; case hsz => ((try simp) <;> (try omega))) | (with_reducible refine Below.setCell ?_ ?hsz _; case hsz => ((try simp) <;> (try omega))) | (with_reducible refine below_step (by with_reducible assumption) ?hsz ?_; case hsz => ((try simp) <;> (try omega)))))⟩
  all_goals
    go_enter Try.func17, Try.ntmps17
    go_wp2_with (first | (go_at_call 54; (with_reducible refine (l01In_any n 0 1000000 _).mono ?_); rintro e w' ⟨rfl, rfl⟩) | (go_at_call 54; (with_reducible refine (l01In_any d 1 1000000 _).mono ?_); rintro e w' ⟨rfl, rfl⟩))
    exact bodyPost_ret (v := .tuple #[.agg #[.int .i64 0, .int .i64 0], .bool false]) (by simp [results, Try.results17, go_sem]) rfl ⟨by simp [bandOfL, bandOfH, bandOfB, h1, h2], by (repeat (first | with_reducible exact Below.refl _ _ | with_reducible refine Below.drew ?_ | (with_reducible refine Below.alloc ?_ ?hsz _; case hsz => ((try simp) <;> (try omega))) | (with_reducible refine Below.setCell ?_ ?hsz _; case hsz => ((try simp) <;> (try omega))) | (with_reducible refine below_step (by with_reducible assumption) ?hsz ?_; case hsz => ((try simp) <;> (try omega)))))⟩
def checkedL (l h : Int) : Int := if bandOkB l h = true then l else 0
def checkedH (l h : Int) : Int := if bandOkB l h = true then h else 0
theorem checkedBand_any (l h : Int) (w : World) : Calls Try.prog 58 #[.int .i64 l, .int .i64 h] w fun e w' => e = .returned (.tuple #[.agg #[.int .i64 (checkedL l h), .int .i64 (checkedH l h)], .bool (bandOkB l h)]) ∧ Below w.heap.size w w' := by
  rcases Bool.eq_false_or_eq_true (bandOkB l h) with h1 | h1
  · have e1 : checkedL l h = l := by simp [checkedL, h1]
    have e2 : checkedH l h = h := by simp [checkedH, h1]
    rw [e1, e2]
    clear e1 e2
    go_enter Try.func58, Try.ntmps58
    go_wp2_with ((go_at_call 23; (with_reducible refine (bandOk_any l h _).mono ?_); rintro e w1 ⟨rfl, hb1⟩; obtain ⟨hc1, hf1⟩ := bcell hb1; (try simp only [World.size_drew] at hc1 hf1); have hz1 := hb1.size; (try simp at hz1); (try have q1_0 : w.heap.size < w1.heap.size := by omega); (try have q1_1 : w.heap.size + 1 < w1.heap.size := by omega); (try have q1_2 : w.heap.size + 2 < w1.heap.size := by omega); (try have q1_3 : w.heap.size + 3 < w1.heap.size := by omega); (try have q1_4 : w.heap.size + 4 < w1.heap.size := by omega); (try have q1_0_0 : w0.heap.size < w1.heap.size := by omega); (try have q1_0_1 : w0.heap.size + 1 < w1.heap.size := by omega); (try have q1_2_0 : w2.heap.size < w1.heap.size := by omega); (try have q1_2_1 : w2.heap.size + 1 < w1.heap.size := by omega); (try have q1_3_0 : w3.heap.size < w1.heap.size := by omega); (try have q1_3_1 : w3.heap.size + 1 < w1.heap.size := by omega); (try have q1_4_0 : w4.heap.size < w1.heap.size := by omega); (try have q1_4_1 : w4.heap.size + 1 < w1.heap.size := by omega); (try have q1_5_0 : w5.heap.size < w1.heap.size := by omega); (try have q1_5_1 : w5.heap.size + 1 < w1.heap.size := by omega); (try have q1_6_0 : w6.heap.size < w1.heap.size := by omega); (try have q1_6_1 : w6.heap.size + 1 < w1.heap.size := by omega); (try have u1_b : b < w1.heap.size := by omega); (try have u1_q : q < w1.heap.size := by omega); (try have u1_g : g < w1.heap.size := by omega); (try have u1_g1 : g1 < w1.heap.size := by omega); (try have u1_g2 : g2 < w1.heap.size := by omega); (try have u1_g3 : g3 < w1.heap.size := by omega); (try have u1_g4 : g4 < w1.heap.size := by omega); (try have u1_g5 : g5 < w1.heap.size := by omega)); have r1_0 : w1.cell? ⟨w.heap.size, 0, none⟩ = some (.int .i64 0) := (by simp [go_sem, *]); have r1_1 : w1.cell? ⟨w.heap.size, 1, none⟩ = some (.int .i64 0) := (by simp [go_sem, *]))
    exact bodyPost_ret (v := .tuple #[.agg #[.int .i64 l, .int .i64 h], .bool true]) (by simp [results, Try.results58, go_sem, r1_0, r1_1]) rfl ⟨by rw [h1], by (repeat (first | with_reducible exact Below.refl _ _ | with_reducible refine Below.drew ?_ | (with_reducible refine Below.alloc ?_ ?hsz _; case hsz => ((try simp) <;> (try omega))) | (with_reducible refine Below.setCell ?_ ?hsz _; case hsz => ((try simp) <;> (try omega))) | (with_reducible refine below_step (by with_reducible assumption) ?hsz ?_; case hsz => ((try simp) <;> (try omega)))))⟩
  · have e1 : checkedL l h = 0 := by simp [checkedL, h1]
    have e2 : checkedH l h = 0 := by simp [checkedH, h1]
    rw [e1, e2]
    clear e1 e2
    go_enter Try.func58, Try.ntmps58
    go_wp2_with ((go_at_call 23; (with_reducible refine (bandOk_any l h _).mono ?_); rintro e w1 ⟨rfl, hb1⟩; obtain ⟨hc1, hf1⟩ := bcell hb1; (try simp only [World.size_drew] at hc1 hf1); have hz1 := hb1.size; (try simp at hz1); (try have q1_0 : w.heap.size < w1.heap.size := by omega); (try have q1_1 : w.heap.size + 1 < w1.heap.size := by omega); (try have q1_2 : w.heap.size + 2 < w1.heap.size := by omega); (try have q1_3 : w.heap.size + 3 < w1.heap.size := by omega); (try have q1_4 : w.heap.size + 4 < w1.heap.size := by omega); (try have q1_0_0 : w0.heap.size < w1.heap.size := by omega); (try have q1_0_1 : w0.heap.size + 1 < w1.heap.size := by omega); (try have q1_2_0 : w2.heap.size < w1.heap.size := by omega); (try have q1_2_1 : w2.heap.size + 1 < w1.heap.size := by omega); (try have q1_3_0 : w3.heap.size < w1.heap.size := by omega); (try have q1_3_1 : w3.heap.size + 1 < w1.heap.size := by omega); (try have q1_4_0 : w4.heap.size < w1.heap.size := by omega); (try have q1_4_1 : w4.heap.size + 1 < w1.heap.size := by omega); (try have q1_5_0 : w5.heap.size < w1.heap.size := by omega); (try have q1_5_1 : w5.heap.size + 1 < w1.heap.size := by omega); (try have q1_6_0 : w6.heap.size < w1.heap.size := by omega); (try have q1_6_1 : w6.heap.size + 1 < w1.heap.size := by omega); (try have u1_b : b < w1.heap.size := by omega); (try have u1_q : q < w1.heap.size := by omega); (try have u1_g : g < w1.heap.size := by omega); (try have u1_g1 : g1 < w1.heap.size := by omega); (try have u1_g2 : g2 < w1.heap.size := by omega); (try have u1_g3 : g3 < w1.heap.size := by omega); (try have u1_g4 : g4 < w1.heap.size := by omega); (try have u1_g5 : g5 < w1.heap.size := by omega)); have r1_0 : w1.cell? ⟨w.heap.size, 0, none⟩ = some (.int .i64 0) := (by simp [go_sem, *]); have r1_1 : w1.cell? ⟨w.heap.size, 1, none⟩ = some (.int .i64 0) := (by simp [go_sem, *]))
    exact bodyPost_ret (v := .tuple #[.agg #[.int .i64 0, .int .i64 0], .bool false]) (by simp [results, Try.results58, go_sem, r1_0, r1_1]) rfl ⟨by rw [h1], by (repeat (first | with_reducible exact Below.refl _ _ | with_reducible refine Below.drew ?_ | (with_reducible refine Below.alloc ?_ ?hsz _; case hsz => ((try simp) <;> (try omega))) | (with_reducible refine Below.setCell ?_ ?hsz _; case hsz => ((try simp) <;> (try omega))) | (with_reducible refine below_step (by with_reducible assumption) ?hsz ?_; case hsz => ((try simp) <;> (try omega)))))⟩
end Go.Proofs.Ytjmibbjachgofaa
