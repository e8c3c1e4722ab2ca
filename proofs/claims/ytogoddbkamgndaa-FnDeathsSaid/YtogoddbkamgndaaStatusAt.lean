/- Contracts of StatusAt, of the program and of the reference. -/
import Derived.Test.YtogoddbkamgndaaEvent
namespace Go.Proofs.Ytogoddbkamgndaa
open Go.RowKit

/-- The status after those of the first m events that are not later than t. -/
def stM (F : Nat → Nat → Int) (t : Int) : Nat → Int
  | 0 => 0
  | m + 1 => if F m 1 ≤ t then stI (stM F t m) (F m 0) else stM F t m
def statusI (F : Nat → Nat → Int) (n : Nat) (t : Int) : Int := if eventsB F n = true then stM F t n else 0
theorem stM_all {F : Nat → Nat → Int} {t : Int} : ∀ {m : Nat}, (∀ i, i < m → F i 1 ≤ t) → stM F t m = stN F m
  | 0, _ => rfl
  | m + 1, h => by
    simp only [stM, stN]
    rw [if_pos (h m (by omega)), stM_all (fun i hi => h i (by omega))]
theorem stM_none {F : Nat → Nat → Int} {t : Int} {m : Nat} : ∀ d, (∀ i, m ≤ i → i < m + d → t < F i 1) → stM F t (m + d) = stM F t m
  | 0, _ => rfl
  | d + 1, h => by
    show stM F t (m + d + 1) = _
    simp only [stM]
    rw [if_neg (by have := h (m + d) (by omega) (by omega); omega), stM_none d (fun i h1 h2 => h i h1 (by omega))]
theorem status_end {F : Nat → Nat → Int} {n m : Nat} {t : Int} (he : eventsB F n = true) (hm : m ≤ n) (h : ∀ i, i < m → F i 1 ≤ t) (hx : m < n → t < F m 1) : stN F m = statusI F n t := by
  unfold statusI
  rw [if_pos he]
  have h1 : stM F t (m + (n - m)) = stM F t m := stM_none (n - m) (fun i h1 h2 => by
    have h3 := hx (by omega)
    have h4 := events_mono he (i - m) m (by omega)
    have : m + (i - m) = i := by omega
    rw [this] at h4
    omega)
  have : m + (n - m) = n := by omega
  rw [this] at h1
  rw [h1, stM_all h]
set_option maxHeartbeats 1000000 in
theorem statusAt_any (A : Option Addr) (n cap : Nat) (F : Nat → Nat → Int) (t : Int) (w : World) (hn : n ≤ 1048576) (hr : Recs w 2 A n F) :
    Calls Try.prog 44 #[.slice A n cap, .int .i64 t] w fun e w' => e = .returned (.int .i64 (statusI F n t)) ∧ Below w.heap.size w w' := by
  have HR := Lib.hid hr
  clear hr
  rcases Bool.eq_false_or_eq_true (eventsB F n) with s1 | s1
  · have HS := Lib.hid s1
    go_enter Try.func44, Try.ntmps44
    go_wp2_with (go_at_call 41; (with_reducible refine (eventsOk_any A n cap F _ hn HR.out).mono ?_); rintro e w1 ⟨rfl, hb1⟩; obtain ⟨hc1, hf1⟩ := bcell hb1; (try simp only [World.size_drew] at hc1 hf1); have hz1 := hb1.size; (try simp at hz1); (try have q1_0 : w.heap.size < w1.heap.size := by omega); (try have q1_1 : w.heap.size + 1 < w1.heap.size := by omega); (try have q1_2 : w.heap.size + 2 < w1.heap.size := by omega); (try have q1_3 : w.heap.size + 3 < w1.heap.size := by omega); (try have q1_4 : w.heap.size + 4 < w1.heap.size := by omega); (try have q1_0_0 : w0.heap.size < w1.heap.size := by omega); (try have q1_0_1 : w0.heap.size + 1 < w1.heap.size := by omega); (try have q1_2_0 : w2.heap.size < w1.heap.size := by omega); (try have q1_2_1 : w2.heap.size + 1 < w1.heap.size := by omega); (try have q1_3_0 : w3.heap.size < w1.heap.size := by omega); (try have q1_3_1 : w3.heap.size + 1 < w1.heap.size := by omega); (try have q1_4_0 : w4.heap.size < w1.heap.size := by omega); (try have q1_4_1 : w4.heap.size + 1 < w1.heap.size := by omega); (try have q1_5_0 : w5.heap.size < w1.heap.size := by omega); (try have q1_5_1 : w5.heap.size + 1 < w1.heap.size := by omega); (try have q1_6_0 : w6.heap.size < w1.heap.size := by omega); (try have q1_6_1 : w6.heap.size + 1 < w1.heap.size := by omega); (try have u1_b : b < w1.heap.size := by omega); (try have u1_q : q < w1.heap.size := by omega); (try have u1_g : g < w1.heap.size := by omega); (try have u1_g1 : g1 < w1.heap.size := by omega); (try have u1_g2 : g2 < w1.heap.size := by omega); (try have u1_g3 : g3 < w1.heap.size := by omega); (try have u1_g4 : g4 < w1.heap.size := by omega); (try have u1_g5 : g5 < w1.heap.size := by omega))
    clear s1 hc1 hf1
    go_loopw [5, 14] (fun x i wr => ∃ m : Nat, m ≤ n ∧ i = .int .i64 m ∧ x = .int .i64 (stM F t m) ∧ Below w.heap.size w wr) (fun _ i _ => n - (intOf i).toNat)
    case atStart => exact ⟨0, Nat.zero_le _, rfl, rfl, hb1⟩
    case round =>
      clear hb1
      obtain ⟨m, hm, rfl, rfl, hbw⟩ := hrel
      by_cases hlt : m < n
      · obtain ⟨b, off, rfl, hb, c0, c1⟩ := HR.out.at2 hlt
        have d0 := (hbw.cell (p := ⟨b, off + m * 2, none⟩) hb).trans c0
        have d1 := (hbw.cell (p := ⟨b, off + m * 2 + 1, none⟩) hb).trans c1
        have hmi : (m : Int) < (n : Int) := by omega
        have hm0 : (0 : Int) ≤ (m : Int) := by omega
        have lb : b < wr.heap.size := Nat.lt_of_lt_of_le hb hbw.size
        have HB := Lib.hid hbw
        have hbs := hbw.size
        clear c0 c1 hbw hb
        by_cases hq : F m 1 ≤ t
        · have HM := Lib.hid (show stI (stM F t m) (F m 0) = stM F t (m + 1) by simp only [stM]; rw [if_pos hq])
          go_wp2_with (go_at_call 48; (with_reducible refine (statusAfter_any (stM F t m) (F m 0) _).mono ?_); rintro e w' ⟨rfl, rfl⟩)
          go_roundw
          case rel => exact ⟨m + 1, by omega, by go_num, (by rw [← HM.out]), (by have hbw := HB.out; first | exact below_drewN (by (repeat (first | with_reducible exact Below.refl _ _ | with_reducible refine Below.drew ?_ | (with_reducible refine Below.alloc ?_ ?hsz _; case hsz => ((try simp) <;> (try omega))) | (with_reducible refine Below.setCell ?_ ?hsz _; case hsz => ((try simp) <;> (try omega))) | (with_reducible refine below_step (by with_reducible assumption) ?hsz ?_; case hsz => ((try simp) <;> (try omega)))))) _ | (repeat (first | with_reducible exact Below.refl _ _ | with_reducible refine Below.drew ?_ | (with_reducible refine Below.alloc ?_ ?hsz _; case hsz => ((try simp) <;> (try omega))) | (with_reducible refine Below.setCell ?_ ?hsz _; case hsz => ((try simp) <;> (try omega))) | (with_reducible refine below_step (by with_reducible assumption) ?hsz ?_; case hsz => ((try simp) <;> (try omega))))))⟩
          case measure => simp [intOf]; omega
        · have HM := Lib.hid (show stM F t m = stM F t (m + 1) by simp only [stM]; rw [if_neg hq])
          go_wp2
          go_roundw
          case rel => exact ⟨m + 1, by omega, by go_num, (by rw [← HM.out]), (by have hbw := HB.out; first | exact below_drewN (by (repeat (first | with_reducible exact Below.refl _ _ | with_reducible refine Below.drew ?_ | (with_reducible refine Below.alloc ?_ ?hsz _; case hsz => ((try simp) <;> (try omega))) | (with_reducible refine Below.setCell ?_ ?hsz _; case hsz => ((try simp) <;> (try omega))) | (with_reducible refine below_step (by with_reducible assumption) ?hsz ?_; case hsz => ((try simp) <;> (try omega)))))) _ | (repeat (first | with_reducible exact Below.refl _ _ | with_reducible refine Below.drew ?_ | (with_reducible refine Below.alloc ?_ ?hsz _; case hsz => ((try simp) <;> (try omega))) | (with_reducible refine Below.setCell ?_ ?hsz _; case hsz => ((try simp) <;> (try omega))) | (with_reducible refine below_step (by with_reducible assumption) ?hsz ?_; case hsz => ((try simp) <;> (try omega))))))⟩
          case measure => simp [intOf]; omega
      · obtain rfl : m = n := by omega
        go_wp2
        go_ret
        exact ⟨ret_int (by simp [statusI, HS.out]), hbw⟩
  · go_enter Try.func44, Try.ntmps44
    go_wp2_with (go_at_call 41; (with_reducible refine (eventsOk_any A n cap F _ hn HR.out).mono ?_); rintro e w1 ⟨rfl, hb1⟩; obtain ⟨hc1, hf1⟩ := bcell hb1; (try simp only [World.size_drew] at hc1 hf1); have hz1 := hb1.size; (try simp at hz1); (try have q1_0 : w.heap.size < w1.heap.size := by omega); (try have q1_1 : w.heap.size + 1 < w1.heap.size := by omega); (try have q1_2 : w.heap.size + 2 < w1.heap.size := by omega); (try have q1_3 : w.heap.size + 3 < w1.heap.size := by omega); (try have q1_4 : w.heap.size + 4 < w1.heap.size := by omega); (try have q1_0_0 : w0.heap.size < w1.heap.size := by omega); (try have q1_0_1 : w0.heap.size + 1 < w1.heap.size := by omega); (try have q1_2_0 : w2.heap.size < w1.heap.size := by omega); (try have q1_2_1 : w2.heap.size + 1 < w1.heap.size := by omega); (try have q1_3_0 : w3.heap.size < w1.heap.size := by omega); (try have q1_3_1 : w3.heap.size + 1 < w1.heap.size := by omega); (try have q1_4_0 : w4.heap.size < w1.heap.size := by omega); (try have q1_4_1 : w4.heap.size + 1 < w1.heap.size := by omega); (try have q1_5_0 : w5.heap.size < w1.heap.size := by omega); (try have q1_5_1 : w5.heap.size + 1 < w1.heap.size := by omega); (try have q1_6_0 : w6.heap.size < w1.heap.size := by omega); (try have q1_6_1 : w6.heap.size + 1 < w1.heap.size := by omega); (try have u1_b : b < w1.heap.size := by omega); (try have u1_q : q < w1.heap.size := by omega); (try have u1_g : g < w1.heap.size := by omega); (try have u1_g1 : g1 < w1.heap.size := by omega); (try have u1_g2 : g2 < w1.heap.size := by omega); (try have u1_g3 : g3 < w1.heap.size := by omega); (try have u1_g4 : g4 < w1.heap.size := by omega); (try have u1_g5 : g5 < w1.heap.size := by omega))
    go_ret
    exact ⟨ret_int (by simp [statusI, s1]), hb1⟩
set_option maxHeartbeats 1000000 in
theorem sstatusAt_any (A : Option Addr) (n cap : Nat) (F : Nat → Nat → Int) (t : Int) (w : World) (hn : n ≤ 1048576) (hr : Recs w 2 A n F) :
    Calls Try.prog 43 #[.slice A n cap, .int .i64 t] w fun e w' => e = .returned (.int .i64 (statusI F n t)) ∧ Below w.heap.size w w' := by
  have HR := Lib.hid hr
  clear hr
  rcases Bool.eq_false_or_eq_true (eventsB F n) with s1 | s1
  · have HS := Lib.hid s1
    clear s1
    go_enter Try.func43, Try.ntmps43
    go_wp2_with fail
    go_loopw [5, 6] (fun x i wr => ∃ m : Nat, m ≤ n ∧ i = .int .i64 m ∧ x = .int .i64 (stN F m) ∧ Below w.heap.size w wr ∧ Hid (∀ j, j < m → F j 1 ≤ t)) (fun _ i _ => n - (intOf i).toNat)
    case atStart => exact ⟨0, Nat.zero_le _, rfl, rfl, Below.refl _ _, fun j hj => by omega⟩
    case round =>
      obtain ⟨m, hm, rfl, rfl, hbw, hF⟩ := hrel
      by_cases hlt : m < n
      · have hs := Lib.hid (fun w1 (h : Below w.heap.size w w1) => by have := seventsOk_any A n cap F w1 hn (HR.out.kept h); rw [HS.out] at this; exact this : ∀ w1, Below w.heap.size w w1 → Calls Try.prog 39 #[.slice A n cap] w1 fun e w' => e = .returned (.bool true) ∧ Below w1.heap.size w1 w')
        obtain ⟨b, off, e, hb, c0, c1⟩ := HR.out.at2 hlt
        have hmi : (m : Int) < (n : Int) := by omega
        have hm0 : (0 : Int) ≤ (m : Int) := by omega
        have hbs := hbw.size
        have HB := Lib.hid hbw
        have HBB := Lib.hid hb
        have C0 := Lib.hid c0
        have C1 := Lib.hid c1
        have HE := Lib.hid e
        clear hbw hb c0 c1 e
        go_wp2_with fail
        with_reducible refine (hs.out _ HB.out).mono ?_
        rintro e w1 ⟨rfl, hb1⟩
        have hbw := HB.out.trans (hb1.mono hbs)
        have hb := HBB.out
        have d0 := (hbw.cell (p := ⟨b, off + m * 2, none⟩) hb).trans C0.out
        have d1 := (hbw.cell (p := ⟨b, off + m * 2 + 1, none⟩) hb).trans C1.out
        obtain rfl := HE.out
        have HB1 := Lib.hid hbw
        clear hbw hb hb1 hs HB
        by_cases hq : F m 1 ≤ t
        · have HQ := Lib.hid hq
          have hq2 : decide (F m 1 ≤ t) = true := decide_eq_true hq
          go_wp2_with (go_at_call 54; (with_reducible refine (sstatusAfter_any (stN F m) (F m 0) _).mono ?_); rintro e w' ⟨rfl, rfl⟩)
          go_roundw
          case rel => exact ⟨m + 1, by omega, by go_num, rfl, HB1.out, fun j hj => by
            rcases Nat.lt_or_ge j m with h | h
            · exact hF.out j h
            · obtain rfl : j = m := by omega
              exact HQ.out⟩
          case measure => simp [intOf]; omega
        · have HQ := Lib.hid (show t < F m 1 by omega)
          have hq2 : decide (F m 1 ≤ t) = false := decide_eq_false hq
          go_wp2
          go_ret
          exact ⟨ret_int (status_end HS.out (by omega) hF.out (fun _ => HQ.out)), HB1.out⟩
      · obtain rfl : m = n := by omega
        go_wp2
        go_ret
        exact ⟨ret_int (status_end HS.out (by omega) hF.out (fun h => by omega)), hbw⟩
  · go_enter Try.func43, Try.ntmps43
    go_wp2_with fail
    refine wp_loop_rounds 1 ?_
    rw [rounds_succ]
    by_cases hz : 0 < n
    · go_wp2_with (go_at_call 39; (with_reducible refine (seventsOk_any A n cap F _ hn HR.out).mono ?_); rintro e w1 ⟨rfl, hb1⟩; obtain ⟨hc1, hf1⟩ := bcell hb1; (try simp only [World.size_drew] at hc1 hf1); have hz1 := hb1.size; (try simp at hz1); (try have q1_0 : w.heap.size < w1.heap.size := by omega); (try have q1_1 : w.heap.size + 1 < w1.heap.size := by omega); (try have q1_2 : w.heap.size + 2 < w1.heap.size := by omega); (try have q1_3 : w.heap.size + 3 < w1.heap.size := by omega); (try have q1_4 : w.heap.size + 4 < w1.heap.size := by omega); (try have q1_0_0 : w0.heap.size < w1.heap.size := by omega); (try have q1_0_1 : w0.heap.size + 1 < w1.heap.size := by omega); (try have q1_2_0 : w2.heap.size < w1.heap.size := by omega); (try have q1_2_1 : w2.heap.size + 1 < w1.heap.size := by omega); (try have q1_3_0 : w3.heap.size < w1.heap.size := by omega); (try have q1_3_1 : w3.heap.size + 1 < w1.heap.size := by omega); (try have q1_4_0 : w4.heap.size < w1.heap.size := by omega); (try have q1_4_1 : w4.heap.size + 1 < w1.heap.size := by omega); (try have q1_5_0 : w5.heap.size < w1.heap.size := by omega); (try have q1_5_1 : w5.heap.size + 1 < w1.heap.size := by omega); (try have q1_6_0 : w6.heap.size < w1.heap.size := by omega); (try have q1_6_1 : w6.heap.size + 1 < w1.heap.size := by omega); (try have u1_b : b < w1.heap.size := by omega); (try have u1_q : q < w1.heap.size := by omega); (try have u1_g : g < w1.heap.size := by omega); (try have u1_g1 : g1 < w1.heap.size := by omega); (try have u1_g2 : g2 < w1.heap.size := by omega); (try have u1_g3 : g3 < w1.heap.size := by omega); (try have u1_g4 : g4 < w1.heap.size := by omega); (try have u1_g5 : g5 < w1.heap.size := by omega))
      go_ret
      exact ⟨ret_int (by simp [statusI, s1]), by (repeat (first | with_reducible exact Below.refl _ _ | with_reducible refine Below.drew ?_ | (with_reducible refine Below.alloc ?_ ?hsz _; case hsz => ((try simp) <;> (try omega))) | (with_reducible refine Below.setCell ?_ ?hsz _; case hsz => ((try simp) <;> (try omega))) | (with_reducible refine below_step (by with_reducible assumption) ?hsz ?_; case hsz => ((try simp) <;> (try omega)))))⟩
    · go_wp2
      go_ret
      exact ⟨ret_int (by simp [statusI, s1]), by (repeat (first | with_reducible exact Below.refl _ _ | with_reducible refine Below.drew ?_ | (with_reducible refine Below.alloc ?_ ?hsz _; case hsz => ((try simp) <;> (try omega))) | (with_reducible refine Below.setCell ?_ ?hsz _; case hsz => ((try simp) <;> (try omega))) | (with_reducible refine below_step (by with_reducible assumption) ?hsz ?_; case hsz => ((try simp) <;> (try omega)))))⟩
end Go.Proofs.Ytogoddbkamgndaa
