/- Contracts of Survivors, of the program and of the reference. -/
import Derived.Test.YtjmibbjachgofaaTabY
import Derived.Test.YtjmibbjachgofaaOwn
namespace Go.Proofs.Ytjmibbjachgofaa
open Go.RowKit

/-- The survivors after i years. -/
def survP (f : Int) (n : Nat) (F : Nat → Int) (age start : Int) : Nat → Int
  | 0 => start
  | i + 1 => survP f n F age start i - (survP f n F age start i * deathI f n F (age + i) + 500000) / 1000000
def survB (f : Int) (n : Nat) (F : Nat → Int) (age years start : Int) : Bool := tableB f n F && inB age 0 120 && inB years 0 120 && inB start 0 1000000000
def survN (f : Int) (n : Nat) (F : Nat → Int) (age years start : Int) : Nat := if survB f n F age years start = true then years.toNat + 1 else 0
theorem mul_bd2 {a b A B : Int} (h0 : 0 ≤ a) (h1 : a ≤ A) (h2 : 0 ≤ b) (h3 : b ≤ B) : 0 ≤ a * b ∧ a * b ≤ A * B :=
  ⟨Int.mul_nonneg h0 h2, Int.mul_le_mul h1 h3 h2 (by omega)⟩
theorem step_bd {s d : Int} (s0 : 0 ≤ s) (s1 : s ≤ 1000000000) (d0 : 0 ≤ d) (d1 : d ≤ 1000000) : 0 ≤ s * d ∧ s * d ≤ 1000000000000000 ∧ 0 ≤ s - (s * d + 500000) / 1000000 ∧ s - (s * d + 500000) / 1000000 ≤ s := by
  obtain ⟨a, b⟩ := mul_bd2 s0 s1 d0 d1
  have c : s * d ≤ s * 1000000 := Int.mul_le_mul_of_nonneg_left d1 s0
  omega
theorem survP_bd {f : Int} {n : Nat} {F : Nat → Int} {age start : Int} (s0 : 0 ≤ start) (s1 : start ≤ 1000000000) : ∀ i, 0 ≤ survP f n F age start i ∧ survP f n F age start i ≤ 1000000000
  | 0 => ⟨s0, s1⟩
  | i + 1 => by
    obtain ⟨a, b⟩ := survP_bd (f := f) (n := n) (F := F) (age := age) s0 s1 i
    obtain ⟨c, d⟩ := deathI_bd f n F (age + i)
    obtain ⟨_, _, e, g⟩ := step_bd a b c d
    simp only [survP]
    omega
set_option maxHeartbeats 1000000 in
theorem surv_any (f : Int) (A : Option Addr) (n cap : Nat) (F : Nat → Int) (age years start : Int) (w : World) (hn : n ≤ 1152921504606846975) (hr : Row w .i64 A n F) :
    Calls Try.prog 34 #[.agg #[.int .i64 f, .slice A n cap], .int .i64 age, .int .i64 years, .int .i64 start] w (IntsQ (survN f n F age years start) (survP f n F age start) w) := by
  have hr' := Lib.hid (hr.alloc (.cells #[.int .i64 f, .slice A n cap] 39))
  have HR := Lib.hid hr
  clear hr
  obtain ⟨i0, hi0, iz0, iz1, iz2⟩ := info_parts int_inf
  rcases Bool.eq_false_or_eq_true (tableB f n F) with c1 | c1 <;> rcases Bool.eq_false_or_eq_true (inB age 0 120) with c2 | c2 <;> rcases Bool.eq_false_or_eq_true (inB years 0 120) with c3 | c3 <;> rcases Bool.eq_false_or_eq_true (inB start 0 1000000000) with c4 | c4
  · obtain ⟨a0, a1⟩ := inB_true.1 c2
    obtain ⟨y0, y1⟩ := inB_true.1 c3
    obtain ⟨s0, s1⟩ := inB_true.1 c4
    obtain ⟨m, rfl⟩ := Int.eq_ofNat_of_zero_le y0
    have e : survN f n F age m start = m + 1 := by simp [survN, survB, c1, c2, c3, c4]
    rw [e]
    clear e
    go_enter Try.func34, Try.ntmps34
    go_wp2_with (first | (go_at_call 33; (with_reducible refine (tableOk_any f A n cap F _ hn hr'.out).mono ?_); rintro e w1 ⟨rfl, hb1⟩; obtain ⟨hc1, hf1⟩ := bcell hb1; (try simp only [World.size_drew] at hc1 hf1); have hz1 := hb1.size; (try simp at hz1); (try have q1_0 : w.heap.size < w1.heap.size := by omega); (try have q1_1 : w.heap.size + 1 < w1.heap.size := by omega); (try have q1_2 : w.heap.size + 2 < w1.heap.size := by omega); (try have q1_3 : w.heap.size + 3 < w1.heap.size := by omega); (try have q1_4 : w.heap.size + 4 < w1.heap.size := by omega); (try have q1_0_0 : w0.heap.size < w1.heap.size := by omega); (try have q1_0_1 : w0.heap.size + 1 < w1.heap.size := by omega); (try have q1_2_0 : w2.heap.size < w1.heap.size := by omega); (try have q1_2_1 : w2.heap.size + 1 < w1.heap.size := by omega); (try have q1_3_0 : w3.heap.size < w1.heap.size := by omega); (try have q1_3_1 : w3.heap.size + 1 < w1.heap.size := by omega); (try have q1_4_0 : w4.heap.size < w1.heap.size := by omega); (try have q1_4_1 : w4.heap.size + 1 < w1.heap.size := by omega); (try have q1_5_0 : w5.heap.size < w1.heap.size := by omega); (try have q1_5_1 : w5.heap.size + 1 < w1.heap.size := by omega); (try have q1_6_0 : w6.heap.size < w1.heap.size := by omega); (try have q1_6_1 : w6.heap.size + 1 < w1.heap.size := by omega); (try have u1_b : b < w1.heap.size := by omega); (try have u1_q : q < w1.heap.size := by omega); (try have u1_g : g < w1.heap.size := by omega); (try have u1_g1 : g1 < w1.heap.size := by omega); (try have u1_g2 : g2 < w1.heap.size := by omega); (try have u1_g3 : g3 < w1.heap.size := by omega); (try have u1_g4 : g4 < w1.heap.size := by omega); (try have u1_g5 : g5 < w1.heap.size := by omega)) | (go_at_call 55; (with_reducible refine (within_any age 0 120 _).mono ?_); rintro e w' ⟨rfl, rfl⟩) | (go_at_call 55; (with_reducible refine (within_any m 0 120 _).mono ?_); rintro e w' ⟨rfl, rfl⟩) | (go_at_call 55; (with_reducible refine (within_any start 0 1000000000 _).mono ?_); rintro e w' ⟨rfl, rfl⟩))
    have x1 := (Box.made w 39 #[.int .i64 f, .slice A n cap]).kept hb1
    have hw1 : Below w.heap.size w w1 := by (repeat (first | with_reducible exact Below.refl _ _ | with_reducible refine Below.drew ?_ | (with_reducible refine Below.alloc ?_ ?hsz _; case hsz => ((try simp) <;> (try omega))) | (with_reducible refine Below.setCell ?_ ?hsz _; case hsz => ((try simp) <;> (try omega))) | (with_reducible refine below_step (by with_reducible assumption) ?hsz ?_; case hsz => ((try simp) <;> (try omega)))))
    clear hb1 hc1 hf1
    go_loopw [9, 33] (fun v i wr => ∃ k : Nat, k ≤ m ∧ i = .int .i64 k ∧ wr.ownsRow w.heap.size 3 1 v (k + 1) (ints (survP f n F age start) (k + 1)) ∧ Below w.heap.size w wr ∧ Box wr w.heap.size 39 #[.int .i64 f, .slice A n cap]) (fun _ i _ => m - (intOf i).toNat)
    case atStart => exact ⟨0, Nat.zero_le _, rfl, own_one w1 _ _ _ hw1.size, hw1.alloc hw1.size _, x1.alloc _⟩
    case round =>
      obtain ⟨k, hk, rfl, hown, hbw, y1⟩ := hrel
      by_cases hlt : k < m
      · obtain ⟨A', c', rfl, _, hrow, hat⟩ := own_row hown
        obtain ⟨g, rfl, hg, hg2, hcell, _⟩ := hat (by omega)
        have hck := hcell k (by omega)
        clear hcell hrow hat
        obtain ⟨e1, e2, e3, e4⟩ := y1.two
        obtain ⟨p0, p1⟩ := survP_bd (f := f) (n := n) (F := F) (age := age) s0 s1 k
        obtain ⟨d0, d1⟩ := deathI_bd f n F (age + k)
        obtain ⟨q0, q1, q2, q3⟩ := step_bd p0 p1 d0 d1
        have hne := own_box_ne hown y1 (by decide)
        have hl := hown.lt
        have HW := Lib.hid (HR.out.kept hbw)
        go_wp2_with (first | (go_at_call 32; (with_reducible refine (death_any f A n cap F (age + k) _ hn HW.out).mono ?_); rintro e w2 ⟨rfl, hb2⟩; have hown2 := own_below hown hb2; have hs2 := hb2.size; have z1 := y1.kept hb2) | (at_builtin; refine wpList_append_own _ rfl _ _ 24 rfl w.heap.size 3 i0 (.int .i64 0) 1 8 Try.underlying24 hi0 iz0 iz1 iz2 rfl (by decide) _ _ _ rfl (hown2.alloc _) ⟨w2.heap.size, 0, none⟩ 1 1 [.int .i64 (survP f n F age start k - (survP f n F age start k * deathI f n F (age + k) + 500000) / 1000000)] rfl rfl ?c1 ?c2 ?c3 ?c4 ?c5 ?_))
        case c1 => exact cell_one_new _ _ _
        case c2 => intro u hu; simp at hu; subst hu; rfl
        case c3 => unfold maxLen; omega
        case c4 => omega
        case c5 => have := hbw.size; simp; omega
        intro v' w' hown' hgr _
        have hsz := hbw.size
        have hbw' : Below w.heap.size w w' := ((hbw.trans (hb2.mono (by omega))).alloc (by omega) _).grown hgr (by simp; omega) (fun k e => (hl k e).1)
        have z2 : Box w' w.heap.size 39 #[.int .i64 f, .slice A n cap] := (z1.alloc _).grown hgr (fun e => hne e.symm)
        have HO := Lib.hid (show w'.ownsRow w.heap.size 3 1 v' (k + 1 + 1) (ints (survP f n F age start) (k + 1 + 1)) from by rw [ints_succ]; exact hown')
        clear hown' hgr hne hl hown2 hown hb2 z1 y1 hbw hck e1 e2 e3 e4
        go_wp2
        go_roundw
        case rel => exact ⟨k + 1, by omega, by go_num, HO, hbw', z2⟩
        case measure => simp [intOf]; omega
      · obtain rfl : k = m := by omega
        go_wp2
        go_ret
        exact ⟨_, rfl, hown, hbw⟩
  all_goals
    have e : survN f n F age years start = 0 := by simp [survN, survB, c1, c2, c3, c4]
    rw [e]
    clear e HR
    go_enter Try.func34, Try.ntmps34
    go_wp2_with (first | (go_at_call 33; (with_reducible refine (tableOk_any f A n cap F _ hn hr'.out).mono ?_); rintro e w1 ⟨rfl, hb1⟩; obtain ⟨hc1, hf1⟩ := bcell hb1; (try simp only [World.size_drew] at hc1 hf1); have hz1 := hb1.size; (try simp at hz1); (try have q1_0 : w.heap.size < w1.heap.size := by omega); (try have q1_1 : w.heap.size + 1 < w1.heap.size := by omega); (try have q1_2 : w.heap.size + 2 < w1.heap.size := by omega); (try have q1_3 : w.heap.size + 3 < w1.heap.size := by omega); (try have q1_4 : w.heap.size + 4 < w1.heap.size := by omega); (try have q1_0_0 : w0.heap.size < w1.heap.size := by omega); (try have q1_0_1 : w0.heap.size + 1 < w1.heap.size := by omega); (try have q1_2_0 : w2.heap.size < w1.heap.size := by omega); (try have q1_2_1 : w2.heap.size + 1 < w1.heap.size := by omega); (try have q1_3_0 : w3.heap.size < w1.heap.size := by omega); (try have q1_3_1 : w3.heap.size + 1 < w1.heap.size := by omega); (try have q1_4_0 : w4.heap.size < w1.heap.size := by omega); (try have q1_4_1 : w4.heap.size + 1 < w1.heap.size := by omega); (try have q1_5_0 : w5.heap.size < w1.heap.size := by omega); (try have q1_5_1 : w5.heap.size + 1 < w1.heap.size := by omega); (try have q1_6_0 : w6.heap.size < w1.heap.size := by omega); (try have q1_6_1 : w6.heap.size + 1 < w1.heap.size := by omega); (try have u1_b : b < w1.heap.size := by omega); (try have u1_q : q < w1.heap.size := by omega); (try have u1_g : g < w1.heap.size := by omega); (try have u1_g1 : g1 < w1.heap.size := by omega); (try have u1_g2 : g2 < w1.heap.size := by omega); (try have u1_g3 : g3 < w1.heap.size := by omega); (try have u1_g4 : g4 < w1.heap.size := by omega); (try have u1_g5 : g5 < w1.heap.size := by omega)) | (go_at_call 55; (with_reducible refine (within_any age 0 120 _).mono ?_); rintro e w' ⟨rfl, rfl⟩) | (go_at_call 55; (with_reducible refine (within_any years 0 120 _).mono ?_); rintro e w' ⟨rfl, rfl⟩) | (go_at_call 55; (with_reducible refine (within_any start 0 1000000000 _).mono ?_); rintro e w' ⟨rfl, rfl⟩))
    go_ret
    exact ⟨_, rfl, World.ownsRow_nil _ _ _ _, by (repeat (first | with_reducible exact Below.refl _ _ | with_reducible refine Below.drew ?_ | (with_reducible refine Below.alloc ?_ ?hsz _; case hsz => ((try simp) <;> (try omega))) | (with_reducible refine Below.setCell ?_ ?hsz _; case hsz => ((try simp) <;> (try omega))) | (with_reducible refine below_step (by with_reducible assumption) ?hsz ?_; case hsz => ((try simp) <;> (try omega)))))⟩
end Go.Proofs.Ytjmibbjachgofaa
