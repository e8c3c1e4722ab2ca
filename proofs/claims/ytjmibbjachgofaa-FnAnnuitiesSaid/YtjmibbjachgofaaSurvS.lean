/- Contracts of the reference's Survivors and of LifeExpectancy. -/
import Derived.Test.YtjmibbjachgofaaSurv
namespace Go.Proofs.Ytjmibbjachgofaa
open Go.RowKit

set_option maxHeartbeats 1000000 in
theorem ssurv_any (f : Int) (A : Option Addr) (n cap : Nat) (F : Nat → Int) (age years start : Int) (w : World) (hn : n ≤ 1152921504606846975) (hr : Row w .i64 A n F) :
    Calls Try.prog 39 #[.agg #[.int .i64 f, .slice A n cap], .int .i64 age, .int .i64 years, .int .i64 start] w (IntsQ (survN f n F age years start) (survP f n F age start) w) := by
  have hr' := Lib.hid ((hr.alloc (.cells #[.int .i64 f, .slice A n cap] 39)).alloc (.cells #[] 3))
  have HR := Lib.hid hr
  clear hr
  obtain ⟨i0, hi0, iz0, iz1, iz2⟩ := info_parts int_inf
  have hown0 := own_empty (w.alloc (.cells #[.int .i64 f, .slice A n cap] 39)) w.heap.size 3 (by simp)
  simp only [World.size_alloc] at hown0
  rcases Bool.eq_false_or_eq_true (tableB f n F) with c1 | c1 <;> rcases Bool.eq_false_or_eq_true (inB age 0 120) with c2 | c2 <;> rcases Bool.eq_false_or_eq_true (inB years 0 120) with c3 | c3 <;> rcases Bool.eq_false_or_eq_true (inB start 0 1000000000) with c4 | c4
  · obtain ⟨a0, a1⟩ := inB_true.1 c2
    obtain ⟨y0, y1⟩ := inB_true.1 c3
    obtain ⟨s0, s1⟩ := inB_true.1 c4
    obtain ⟨m, rfl⟩ := Int.eq_ofNat_of_zero_le y0
    have e : survN f n F age m start = m + 1 := by simp [survN, survB, c1, c2, c3, c4]
    rw [e]
    clear e
    go_enter Try.func39, Try.ntmps39
    go_wp2_with (first | ((go_at_call 64; (with_reducible refine (stableOk_any f A n cap F _ hn hr'.out).mono ?_); rintro e w1 ⟨rfl, hb1⟩; obtain ⟨hc1, hf1⟩ := bcell hb1; (try simp only [World.size_drew] at hc1 hf1); have hz1 := hb1.size; (try simp at hz1); (try have q1_0 : w.heap.size < w1.heap.size := by omega); (try have q1_1 : w.heap.size + 1 < w1.heap.size := by omega); (try have q1_2 : w.heap.size + 2 < w1.heap.size := by omega); (try have q1_3 : w.heap.size + 3 < w1.heap.size := by omega); (try have q1_4 : w.heap.size + 4 < w1.heap.size := by omega); (try have q1_0_0 : w0.heap.size < w1.heap.size := by omega); (try have q1_0_1 : w0.heap.size + 1 < w1.heap.size := by omega); (try have q1_2_0 : w2.heap.size < w1.heap.size := by omega); (try have q1_2_1 : w2.heap.size + 1 < w1.heap.size := by omega); (try have q1_3_0 : w3.heap.size < w1.heap.size := by omega); (try have q1_3_1 : w3.heap.size + 1 < w1.heap.size := by omega); (try have q1_4_0 : w4.heap.size < w1.heap.size := by omega); (try have q1_4_1 : w4.heap.size + 1 < w1.heap.size := by omega); (try have q1_5_0 : w5.heap.size < w1.heap.size := by omega); (try have q1_5_1 : w5.heap.size + 1 < w1.heap.size := by omega); (try have q1_6_0 : w6.heap.size < w1.heap.size := by omega); (try have q1_6_1 : w6.heap.size + 1 < w1.heap.size := by omega); (try have u1_b : b < w1.heap.size := by omega); (try have u1_q : q < w1.heap.size := by omega); (try have u1_g : g < w1.heap.size := by omega); (try have u1_g1 : g1 < w1.heap.size := by omega); (try have u1_g2 : g2 < w1.heap.size := by omega); (try have u1_g3 : g3 < w1.heap.size := by omega); (try have u1_g4 : g4 < w1.heap.size := by omega); (try have u1_g5 : g5 < w1.heap.size := by omega)); have hown1 := own_below hown0 hb1) | (go_at_call 54; (with_reducible refine (l01In_any age 0 120 _).mono ?_); rintro e w' ⟨rfl, rfl⟩) | (go_at_call 54; (with_reducible refine (l01In_any m 0 120 _).mono ?_); rintro e w' ⟨rfl, rfl⟩) | (go_at_call 54; (with_reducible refine (l01In_any start 0 1000000000 _).mono ?_); rintro e w' ⟨rfl, rfl⟩) | (at_builtin; refine wpList_append_own _ rfl _ _ 24 rfl w.heap.size 3 i0 (.int .i64 0) 1 8 Try.underlying24 hi0 iz0 iz1 iz2 rfl (by decide) _ _ _ rfl (hown1.alloc _) ⟨w1.heap.size, 0, none⟩ 1 1 [.int .i64 (start)] rfl rfl ?c1 ?c2 ?c3 ?c4 ?c5 ?_))
    case c1 => exact cell_one_new _ _ _
    case c2 => intro u hu; simp at hu; subst hu; rfl
    case c3 => unfold maxLen; omega
    case c4 => omega
    case c5 => simp; omega
    intro v1 w2 hown2 hgr1 _
    have x1 := ((Box.made w 39 #[.int .i64 f, .slice A n cap]).alloc (.cells #[] 3)).kept hb1
    have hw1 : Below w.heap.size w w1 := by (repeat (first | with_reducible exact Below.refl _ _ | with_reducible refine Below.drew ?_ | (with_reducible refine Below.alloc ?_ ?hsz _; case hsz => ((try simp) <;> (try omega))) | (with_reducible refine Below.setCell ?_ ?hsz _; case hsz => ((try simp) <;> (try omega))) | (with_reducible refine below_step (by with_reducible assumption) ?hsz ?_; case hsz => ((try simp) <;> (try omega)))))
    have hw2 : Below w.heap.size w w2 := (hw1.alloc hw1.size _).grown hgr1 (by simp; omega) (fun k e => (hown1.lt k e).1)
    have x2 : Box w2 w.heap.size 39 #[.int .i64 f, .slice A n cap] := (x1.alloc _).grown hgr1 (fun e => own_box_ne hown1 x1 (by decide) e.symm)
    have hown3 : w2.ownsRow w.heap.size 3 1 v1 (0 + 1) (ints (survP f n F age start) (0 + 1)) := by simpa [ints, survP] using hown2
    clear hb1 hc1 hf1 hown2 hgr1 hown0 hown1 x1 hw1
    go_wp2_with fail
    go_loopw [9, 10, 11] (fun v s i wr => ∃ k : Nat, k ≤ m ∧ i = .int .i64 k ∧ s = .int .i64 (survP f n F age start k) ∧ wr.ownsRow w.heap.size 3 1 v (k + 1) (ints (survP f n F age start) (k + 1)) ∧ Below w.heap.size w wr ∧ Box wr w.heap.size 39 #[.int .i64 f, .slice A n cap]) (fun _ _ i _ => m - (intOf i).toNat)
    case atStart => exact ⟨0, Nat.zero_le _, rfl, rfl, hown3, hw2, x2⟩
    case round =>
      obtain ⟨k, hk, rfl, rfl, hown, hbw, y1⟩ := hrel
      by_cases hlt : k < m
      · obtain ⟨e1, e2, e3, e4⟩ := y1.two
        obtain ⟨p0, p1⟩ := survP_bd (f := f) (n := n) (F := F) (age := age) s0 s1 k
        obtain ⟨d0, d1⟩ := deathI_bd f n F (age + k)
        obtain ⟨q0, q1, q2, q3⟩ := step_bd p0 p1 d0 d1
        have eq1 : (survP f n F age start k * deathI f n F (age + k) * 2 + 1000000) / 2000000 = (survP f n F age start k * deathI f n F (age + k) + 500000) / 1000000 := by omega
        have HE := Lib.hid eq1
        clear eq1
        have q4 : 0 ≤ survP f n F age start k - (survP f n F age start k * deathI f n F (age + k) * 2 + 1000000) / 2000000 := by rw [HE.out]; exact q2
        have hne := own_box_ne hown y1 (by decide)
        have hl := hown.lt
        have HW := Lib.hid (HR.out.kept hbw)
        go_wp2_with (first | (go_at_call 65; (with_reducible refine (sdeath_any f A n cap F (age + k) _ hn HW.out).mono ?_); rintro e w2 ⟨rfl, hb2⟩; have hown2 := own_below hown hb2; have hs2 := hb2.size; have z1 := y1.kept hb2) | (at_builtin; refine wpList_append_own _ rfl _ _ 24 rfl w.heap.size 3 i0 (.int .i64 0) 1 8 Try.underlying24 hi0 iz0 iz1 iz2 rfl (by decide) _ _ _ rfl (hown2.alloc _) ⟨w2.heap.size, 0, none⟩ 1 1 [.int .i64 (survP f n F age start k - (survP f n F age start k * deathI f n F (age + k) * 2 + 1000000) / 2000000)] rfl rfl ?c1 ?c2 ?c3 ?c4 ?c5 ?_))
        case c1 => exact cell_one_new _ _ _
        case c2 => intro u hu; simp at hu; subst hu; rfl
        case c3 => unfold maxLen; omega
        case c4 => omega
        case c5 => have := hbw.size; simp; omega
        intro v' w' hown' hgr _
        have hsz := hbw.size
        have hbw' : Below w.heap.size w w' := ((hbw.trans (hb2.mono (by omega))).alloc (by omega) _).grown hgr (by simp; omega) (fun k e => (hl k e).1)
        have z2 : Box w' w.heap.size 39 #[.int .i64 f, .slice A n cap] := (z1.alloc _).grown hgr (fun e => hne e.symm)
        have HO := Lib.hid (show w'.ownsRow w.heap.size 3 1 v' (k + 1 + 1) (ints (survP f n F age start) (k + 1 + 1)) from by rw [ints_succ, survP, ← HE.out]; exact hown')
        clear hown' hgr hne hl hown2 hown hb2 z1 y1 hbw e1 e2 e3 e4
        go_wp2
        go_roundw
        case rel => exact ⟨k + 1, by omega, by go_num, by rw [survP, ← HE.out], HO, hbw', z2⟩
        case measure => simp [intOf]; omega
      · obtain rfl : k = m := by omega
        go_wp2
        go_ret
        exact ⟨_, rfl, hown, hbw⟩
  all_goals
    have e : survN f n F age years start = 0 := by simp [survN, survB, c1, c2, c3, c4]
    rw [e]
    clear e HR
    go_enter Try.func39, Try.ntmps39
    go_wp2_with (first | ((go_at_call 64; (with_reducible refine (stableOk_any f A n cap F _ hn hr'.out).mono ?_); rintro e w1 ⟨rfl, hb1⟩; obtain ⟨hc1, hf1⟩ := bcell hb1; (try simp only [World.size_drew] at hc1 hf1); have hz1 := hb1.size; (try simp at hz1); (try have q1_0 : w.heap.size < w1.heap.size := by omega); (try have q1_1 : w.heap.size + 1 < w1.heap.size := by omega); (try have q1_2 : w.heap.size + 2 < w1.heap.size := by omega); (try have q1_3 : w.heap.size + 3 < w1.heap.size := by omega); (try have q1_4 : w.heap.size + 4 < w1.heap.size := by omega); (try have q1_0_0 : w0.heap.size < w1.heap.size := by omega); (try have q1_0_1 : w0.heap.size + 1 < w1.heap.size := by omega); (try have q1_2_0 : w2.heap.size < w1.heap.size := by omega); (try have q1_2_1 : w2.heap.size + 1 < w1.heap.size := by omega); (try have q1_3_0 : w3.heap.size < w1.heap.size := by omega); (try have q1_3_1 : w3.heap.size + 1 < w1.heap.size := by omega); (try have q1_4_0 : w4.heap.size < w1.heap.size := by omega); (try have q1_4_1 : w4.heap.size + 1 < w1.heap.size := by omega); (try have q1_5_0 : w5.heap.size < w1.heap.size := by omega); (try have q1_5_1 : w5.heap.size + 1 < w1.heap.size := by omega); (try have q1_6_0 : w6.heap.size < w1.heap.size := by omega); (try have q1_6_1 : w6.heap.size + 1 < w1.heap.size := by omega); (try have u1_b : b < w1.heap.size := by omega); (try have u1_q : q < w1.heap.size := by omega); (try have u1_g : g < w1.heap.size := by omega); (try have u1_g1 : g1 < w1.heap.size := by omega); (try have u1_g2 : g2 < w1.heap.size := by omega); (try have u1_g3 : g3 < w1.heap.size := by omega); (try have u1_g4 : g4 < w1.heap.size := by omega); (try have u1_g5 : g5 < w1.heap.size := by omega)); have hown1 := own_below hown0 hb1) | (go_at_call 54; (with_reducible refine (l01In_any age 0 120 _).mono ?_); rintro e w' ⟨rfl, rfl⟩) | (go_at_call 54; (with_reducible refine (l01In_any years 0 120 _).mono ?_); rintro e w' ⟨rfl, rfl⟩) | (go_at_call 54; (with_reducible refine (l01In_any start 0 1000000000 _).mono ?_); rintro e w' ⟨rfl, rfl⟩))
    go_ret
    exact ⟨_, rfl, hown1, by (repeat (first | with_reducible exact Below.refl _ _ | with_reducible refine Below.drew ?_ | (with_reducible refine Below.alloc ?_ ?hsz _; case hsz => ((try simp) <;> (try omega))) | (with_reducible refine Below.setCell ?_ ?hsz _; case hsz => ((try simp) <;> (try omega))) | (with_reducible refine below_step (by with_reducible assumption) ?hsz ?_; case hsz => ((try simp) <;> (try omega)))))⟩
end Go.Proofs.Ytjmibbjachgofaa
