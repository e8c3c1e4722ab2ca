/- Contracts of LateOrders, of the program and of the reference. -/
import Derived.Test.YtebgkmmmjmipnaaOrder
import Derived.Test.YtebgkmmmjmipnaaList
import Derived.Maps.AppendAt
namespace Go.Proofs.Ytebgkmmmjmipnaa
open Go.RowKit

/-- The numbers of those of the first m orders that became known after they took effect. -/
def lateL (F : Nat → Nat → Int) : Nat → List Int
  | 0 => []
  | m + 1 => if F m 0 < F m 1 then lateL F m ++ [(m : Int)] else lateL F m
def lateR (F : Nat → Nat → Int) (n : Nat) : List Int := if ordersB F n = true then lateL F n else []
theorem lateL_le (F : Nat → Nat → Int) : ∀ n, (lateL F n).length ≤ n
  | 0 => Nat.le_refl _
  | n + 1 => by
    have := lateL_le F n
    simp only [lateL]
    split <;> simp <;> omega
theorem lateR_le (F : Nat → Nat → Int) (n : Nat) : (lateR F n).length ≤ n := by
  unfold lateR
  split
  · exact lateL_le F n
  · simp
set_option maxHeartbeats 2000000 in
theorem late_any (A : Option Addr) (n cap : Nat) (F : Nat → Nat → Int) (w : World) (hn : n ≤ 1048576) (hr : Recs w 3 A n F) :
    Calls Try.prog 17 #[.slice A n cap] w (IntsQ (lateR F n).length (fun i => (lateR F n).getD i 0) w) := by
  obtain ⟨i0, hi0, iz0, iz1, iz2⟩ := info_parts int_inf
  have HR := Lib.hid hr
  clear hr
  rcases Bool.eq_false_or_eq_true (ordersB F n) with s1 | s1
  · have e : lateR F n = lateL F n := by simp [lateR, s1]
    rw [e]
    clear e
    go_enter Try.func17, Try.ntmps17
    go_wp2_with (go_at_call 14; (with_reducible refine (ordersOk_any A n cap F _ hn HR.out).mono ?_); rintro e w1 ⟨rfl, hb1⟩; obtain ⟨hc1, hf1⟩ := bcell hb1; (try simp only [World.size_drew] at hc1 hf1); have hz1 := hb1.size; (try simp at hz1); (try have q1_0 : w.heap.size < w1.heap.size := by omega); (try have q1_1 : w.heap.size + 1 < w1.heap.size := by omega); (try have q1_2 : w.heap.size + 2 < w1.heap.size := by omega); (try have q1_3 : w.heap.size + 3 < w1.heap.size := by omega); (try have q1_4 : w.heap.size + 4 < w1.heap.size := by omega); (try have q1_0_0 : w0.heap.size < w1.heap.size := by omega); (try have q1_0_1 : w0.heap.size + 1 < w1.heap.size := by omega); (try have q1_2_0 : w2.heap.size < w1.heap.size := by omega); (try have q1_2_1 : w2.heap.size + 1 < w1.heap.size := by omega); (try have q1_3_0 : w3.heap.size < w1.heap.size := by omega); (try have q1_3_1 : w3.heap.size + 1 < w1.heap.size := by omega); (try have q1_4_0 : w4.heap.size < w1.heap.size := by omega); (try have q1_4_1 : w4.heap.size + 1 < w1.heap.size := by omega); (try have q1_5_0 : w5.heap.size < w1.heap.size := by omega); (try have q1_5_1 : w5.heap.size + 1 < w1.heap.size := by omega); (try have q1_6_0 : w6.heap.size < w1.heap.size := by omega); (try have q1_6_1 : w6.heap.size + 1 < w1.heap.size := by omega); (try have u1_b : b < w1.heap.size := by omega); (try have u1_q : q < w1.heap.size := by omega); (try have u1_g : g < w1.heap.size := by omega); (try have u1_g1 : g1 < w1.heap.size := by omega); (try have u1_g2 : g2 < w1.heap.size := by omega); (try have u1_g3 : g3 < w1.heap.size := by omega); (try have u1_g4 : g4 < w1.heap.size := by omega); (try have u1_g5 : g5 < w1.heap.size := by omega))
    have z1 := hb1.size
    have HB1 := Lib.hid hb1
    clear s1 hc1 hf1 hb1
    go_loopw [3, 12] (fun v i wr => ∃ m : Nat, m ≤ n ∧ i = .int .i64 m ∧ wr.ownsRow w.heap.size 3 1 v (lateL F m).length ((lateL F m).map (Value.int .i64)) ∧ Below w.heap.size w wr) (fun _ i _ => n - (intOf i).toNat)
    case atStart => exact ⟨0, Nat.zero_le _, rfl, own_empty _ _ _ z1, HB1.out.alloc z1 _⟩
    case round =>
      obtain ⟨m, hm, rfl, hown, hbw⟩ := hrel
      by_cases hlt : m < n
      · obtain ⟨b, off, rfl, hb, c0, c1, c2⟩ := HR.out.at3 hlt
        have d0 := (hbw.cell (p := ⟨b, off + m * 3, none⟩) hb).trans c0
        have d1 := (hbw.cell (p := ⟨b, off + m * 3 + 1, none⟩) hb).trans c1
        have d2 := (hbw.cell (p := ⟨b, off + m * 3 + 2, none⟩) hb).trans c2
        have hmi : (m : Int) < (n : Int) := by omega
        have hm0 : (0 : Int) ≤ (m : Int) := by omega
        have lb : b < wr.heap.size := Nat.lt_of_lt_of_le hb hbw.size
        have HB := Lib.hid hbw
        have HO := Lib.hid hown
        have hbs := hbw.size
        have hl := lateL_le F m
        clear c0 c1 c2 hbw hb hown
        by_cases hq : F m 0 < F m 1
        · have HM := Lib.hid (show lateL F (m + 1) = lateL F m ++ [(m : Int)] by simp only [lateL]; rw [if_pos hq])
          go_wp2_with (at_builtin; refine wpList_append_own _ rfl _ _ 29 rfl w.heap.size 3 i0 (.int .i64 0) 1 8 Try.underlying29 hi0 iz0 iz1 iz2 rfl (by decide) _ _ _ rfl ((HO.out.alloc _).alloc _) ⟨wr.heap.size + 1, 0, none⟩ 1 1 [.int .i64 m] rfl rfl ?c1 ?c2 ?c3 ?c4 ?c5 ?_)
          case c1 => have := cell_one_new (wr.alloc (.cells #[.int .i64 (F m 0), .int .i64 (F m 1), .int .i64 (F m 2)] 49)) (.int .i64 m) 3; simpa using this
          case c2 => intro u hu; simp at hu; subst hu; rfl
          case c3 => unfold maxLen; omega
          case c4 => omega
          case c5 => simp; omega
          intro v' w' hown' hgr _
          have HB' := Lib.hid (((HB.out.alloc hbs (.cells #[.int .i64 (F m 0), .int .i64 (F m 1), .int .i64 (F m 2)] 49)).alloc (by simp; omega) (.cells #[.int .i64 m] 3)).grown hgr (by simp; omega) (fun k e => (HO.out.lt k e).1))
          have HO' := Lib.hid (own_push hown' rfl)
          clear hown' hgr
          go_wp2
          go_roundw
          case rel => exact ⟨m + 1, by omega, by go_num, (by rw [HM.out]; exact HO'.out), HB'.out⟩
          case measure => simp [intOf]; omega
        · have HM := Lib.hid (show lateL F (m + 1) = lateL F m by simp only [lateL]; rw [if_neg hq])
          go_wp2
          go_roundw
          case rel => exact ⟨m + 1, by omega, by go_num, (by rw [HM.out]; exact HO.out.alloc _), (by have hbw := HB.out; (repeat (first | with_reducible exact Below.refl _ _ | with_reducible refine Below.drew ?_ | (with_reducible refine Below.alloc ?_ ?hsz _; case hsz => ((try simp) <;> (try omega))) | (with_reducible refine Below.setCell ?_ ?hsz _; case hsz => ((try simp) <;> (try omega))) | (with_reducible refine below_step (by with_reducible assumption) ?hsz ?_; case hsz => ((try simp) <;> (try omega))))))⟩
          case measure => simp [intOf]; omega
      · obtain rfl : m = n := by omega
        go_wp2
        go_ret
        exact intsQ_list hown hbw
  · have e : lateR F n = [] := by simp [lateR, s1]
    rw [e]
    clear e
    go_enter Try.func17, Try.ntmps17
    go_wp2_with (go_at_call 14; (with_reducible refine (ordersOk_any A n cap F _ hn HR.out).mono ?_); rintro e w1 ⟨rfl, hb1⟩; obtain ⟨hc1, hf1⟩ := bcell hb1; (try simp only [World.size_drew] at hc1 hf1); have hz1 := hb1.size; (try simp at hz1); (try have q1_0 : w.heap.size < w1.heap.size := by omega); (try have q1_1 : w.heap.size + 1 < w1.heap.size := by omega); (try have q1_2 : w.heap.size + 2 < w1.heap.size := by omega); (try have q1_3 : w.heap.size + 3 < w1.heap.size := by omega); (try have q1_4 : w.heap.size + 4 < w1.heap.size := by omega); (try have q1_0_0 : w0.heap.size < w1.heap.size := by omega); (try have q1_0_1 : w0.heap.size + 1 < w1.heap.size := by omega); (try have q1_2_0 : w2.heap.size < w1.heap.size := by omega); (try have q1_2_1 : w2.heap.size + 1 < w1.heap.size := by omega); (try have q1_3_0 : w3.heap.size < w1.heap.size := by omega); (try have q1_3_1 : w3.heap.size + 1 < w1.heap.size := by omega); (try have q1_4_0 : w4.heap.size < w1.heap.size := by omega); (try have q1_4_1 : w4.heap.size + 1 < w1.heap.size := by omega); (try have q1_5_0 : w5.heap.size < w1.heap.size := by omega); (try have q1_5_1 : w5.heap.size + 1 < w1.heap.size := by omega); (try have q1_6_0 : w6.heap.size < w1.heap.size := by omega); (try have q1_6_1 : w6.heap.size + 1 < w1.heap.size := by omega); (try have u1_b : b < w1.heap.size := by omega); (try have u1_q : q < w1.heap.size := by omega); (try have u1_g : g < w1.heap.size := by omega); (try have u1_g1 : g1 < w1.heap.size := by omega); (try have u1_g2 : g2 < w1.heap.size := by omega); (try have u1_g3 : g3 < w1.heap.size := by omega); (try have u1_g4 : g4 < w1.heap.size := by omega); (try have u1_g5 : g5 < w1.heap.size := by omega))
    go_ret
    exact intsQ_list (L := []) (World.ownsRow_nil _ _ _ _) hb1
set_option maxHeartbeats 2000000 in
theorem slate_any (A : Option Addr) (n cap : Nat) (F : Nat → Nat → Int) (w : World) (hn : n ≤ 1048576) (hr : Recs w 3 A n F) :
    Calls Try.prog 16 #[.slice A n cap] w (IntsQ (lateR F n).length (fun i => (lateR F n).getD i 0) w) := by
  obtain ⟨i0, hi0, iz0, iz1, iz2⟩ := info_parts int_inf
  have HR := Lib.hid hr
  clear hr
  rcases Bool.eq_false_or_eq_true (ordersB F n) with s1 | s1
  · have e : lateR F n = lateL F n := by simp [lateR, s1]
    rw [e]
    clear e
    have HS := Lib.hid s1
    clear s1
    go_enter Try.func16, Try.ntmps16
    go_wp2_with fail
    go_loopw [3, 4] (fun v i wr => ∃ m : Nat, m ≤ n ∧ i = .int .i64 m ∧ wr.ownsRow w.heap.size 3 1 v (lateL F m).length ((lateL F m).map (Value.int .i64)) ∧ Below w.heap.size w wr) (fun _ i _ => n - (intOf i).toNat)
    case atStart => exact ⟨0, Nat.zero_le _, rfl, own_empty _ _ _ (Nat.le_refl _), (Below.refl _ _).alloc (Nat.le_refl _) _⟩
    case round =>
      obtain ⟨m, hm, rfl, hown, hbw⟩ := hrel
      by_cases hlt : m < n
      · have hs := Lib.hid (fun w1 (h : Below w.heap.size w w1) => by have := sordersOk_any A n cap F w1 hn (HR.out.kept h); rw [HS.out] at this; exact this : ∀ w1, Below w.heap.size w w1 → Calls Try.prog 12 #[.slice A n cap] w1 fun e w' => e = .returned (.bool true) ∧ Below w1.heap.size w1 w')
        obtain ⟨b, off, e, hb, c0, c1, c2⟩ := HR.out.at3 hlt
        have hmi : (m : Int) < (n : Int) := by omega
        have hm0 : (0 : Int) ≤ (m : Int) := by omega
        have hbs := hbw.size
        have hl := lateL_le F m
        have HB := Lib.hid hbw
        have HO := Lib.hid hown
        have HBB := Lib.hid hb
        have C0 := Lib.hid c0
        have C1 := Lib.hid c1
        have HE := Lib.hid e
        clear hbw hb c0 c1 c2 e hown
        go_wp2_with fail
        with_reducible refine (hs.out _ HB.out).mono ?_
        rintro e w1 ⟨rfl, hb1⟩
        have hbw := HB.out.trans (hb1.mono hbs)
        have hb := HBB.out
        have d0 := (hbw.cell (p := ⟨b, off + m * 3, none⟩) hb).trans C0.out
        have d1 := (hbw.cell (p := ⟨b, off + m * 3 + 1, none⟩) hb).trans C1.out
        obtain rfl := HE.out
        have HB1 := Lib.hid hbw
        have HO1 := Lib.hid (own_below HO.out hb1)
        have z1 := hbw.size
        clear hbw hb hb1 hs HB HO
        by_cases hq : F m 0 < F m 1
        · have HM := Lib.hid (show lateL F (m + 1) = lateL F m ++ [(m : Int)] by simp only [lateL]; rw [if_pos hq])
          have hq2 : decide (F m 0 < F m 1) = true := decide_eq_true hq
          go_wp2_with fail
          go_big_quiet (fail)
          have HO2 := Lib.hid (own_below HO1.out (below_drewN (Below.refl _ _) nq))
          have HB2 := Lib.hid (below_drewN HB1.out nq)
          have z2 : w.heap.size ≤ (w1.drewN nq).heap.size := z1
          generalize w1.drewN nq = w2 at *
          go_wp2_with (at_builtin; refine wpList_append_own _ rfl _ _ 29 rfl w.heap.size 3 i0 (.int .i64 0) 1 8 Try.underlying29 hi0 iz0 iz1 iz2 rfl (by decide) _ _ _ rfl (HO2.out.alloc _) ⟨w2.heap.size, 0, none⟩ 1 1 [.int .i64 m] rfl rfl ?c1 ?c2 ?c3 ?c4 ?c5 ?_)
          case c1 => exact cell_one_new _ _ _
          case c2 => intro u hu; simp at hu; subst hu; rfl
          case c3 => unfold maxLen; omega
          case c4 => omega
          case c5 => simp; omega
          intro v' w' hown' hgr _
          have HB' := Lib.hid ((HB2.out.alloc z2 (.cells #[.int .i64 m] 3)).grown hgr (by simp; omega) (fun k e => (HO2.out.lt k e).1))
          have HO' := Lib.hid (own_push hown' rfl)
          clear hown' hgr
          go_wp2
          go_roundw
          case rel => exact ⟨m + 1, by omega, by go_num, (by rw [HM.out]; exact HO'.out), HB'.out⟩
          case measure => simp [intOf]; omega
        · have HM := Lib.hid (show lateL F (m + 1) = lateL F m by simp only [lateL]; rw [if_neg hq])
          have hq2 : decide (F m 0 < F m 1) = false := decide_eq_false hq
          go_wp2_with fail
          go_big_quiet (fail)
          go_wp2
          go_roundw
          case rel => exact ⟨m + 1, by omega, by go_num, (by rw [HM.out]; exact HO1.out), below_drewN HB1.out _⟩
          case measure => simp [intOf]; omega
      · obtain rfl : m = n := by omega
        go_wp2
        go_ret
        exact intsQ_list hown hbw
  · have e : lateR F n = [] := by simp [lateR, s1]
    rw [e]
    clear e
    go_enter Try.func16, Try.ntmps16
    go_wp2_with fail
    refine wp_loop_rounds 1 ?_
    rw [rounds_succ]
    by_cases hz : 0 < n
    · go_wp2_with (go_at_call 12; (with_reducible refine (sordersOk_any A n cap F _ hn (HR.out.alloc _)).mono ?_); rintro e w1 ⟨rfl, hb1⟩; obtain ⟨hc1, hf1⟩ := bcell hb1; (try simp only [World.size_drew] at hc1 hf1); have hz1 := hb1.size; (try simp at hz1); (try have q1_0 : w.heap.size < w1.heap.size := by omega); (try have q1_1 : w.heap.size + 1 < w1.heap.size := by omega); (try have q1_2 : w.heap.size + 2 < w1.heap.size := by omega); (try have q1_3 : w.heap.size + 3 < w1.heap.size := by omega); (try have q1_4 : w.heap.size + 4 < w1.heap.size := by omega); (try have q1_0_0 : w0.heap.size < w1.heap.size := by omega); (try have q1_0_1 : w0.heap.size + 1 < w1.heap.size := by omega); (try have q1_2_0 : w2.heap.size < w1.heap.size := by omega); (try have q1_2_1 : w2.heap.size + 1 < w1.heap.size := by omega); (try have q1_3_0 : w3.heap.size < w1.heap.size := by omega); (try have q1_3_1 : w3.heap.size + 1 < w1.heap.size := by omega); (try have q1_4_0 : w4.heap.size < w1.heap.size := by omega); (try have q1_4_1 : w4.heap.size + 1 < w1.heap.size := by omega); (try have q1_5_0 : w5.heap.size < w1.heap.size := by omega); (try have q1_5_1 : w5.heap.size + 1 < w1.heap.size := by omega); (try have q1_6_0 : w6.heap.size < w1.heap.size := by omega); (try have q1_6_1 : w6.heap.size + 1 < w1.heap.size := by omega); (try have u1_b : b < w1.heap.size := by omega); (try have u1_q : q < w1.heap.size := by omega); (try have u1_g : g < w1.heap.size := by omega); (try have u1_g1 : g1 < w1.heap.size := by omega); (try have u1_g2 : g2 < w1.heap.size := by omega); (try have u1_g3 : g3 < w1.heap.size := by omega); (try have u1_g4 : g4 < w1.heap.size := by omega); (try have u1_g5 : g5 < w1.heap.size := by omega))
      go_ret
      exact intsQ_list (L := []) (own_below (own_empty _ _ _ (Nat.le_refl _)) hb1) (by (repeat (first | with_reducible exact Below.refl _ _ | with_reducible refine Below.drew ?_ | (with_reducible refine Below.alloc ?_ ?hsz _; case hsz => ((try simp) <;> (try omega))) | (with_reducible refine Below.setCell ?_ ?hsz _; case hsz => ((try simp) <;> (try omega))) | (with_reducible refine below_step (by with_reducible assumption) ?hsz ?_; case hsz => ((try simp) <;> (try omega))))))
    · go_wp2
      go_ret
      exact intsQ_list (L := []) (own_empty _ _ _ (Nat.le_refl _)) (by (repeat (first | with_reducible exact Below.refl _ _ | with_reducible refine Below.drew ?_ | (with_reducible refine Below.alloc ?_ ?hsz _; case hsz => ((try simp) <;> (try omega))) | (with_reducible refine Below.setCell ?_ ?hsz _; case hsz => ((try simp) <;> (try omega))) | (with_reducible refine below_step (by with_reducible assumption) ?hsz ?_; case hsz => ((try simp) <;> (try omega))))))
end Go.Proofs.Ytebgkmmmjmipnaa
