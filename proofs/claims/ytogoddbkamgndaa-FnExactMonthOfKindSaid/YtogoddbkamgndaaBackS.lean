/- Contract of the reference's MonthOfKind. -/
import Derived.Test.YtogoddbkamgndaaBack
namespace Go.Proofs.Ytogoddbkamgndaa
open Go.RowKit

set_option maxHeartbeats 2000000 in
theorem smonth_any (A : Option Addr) (n cap : Nat) (F : Nat → Nat → Int) (k : Int) (w : World) (hn : n ≤ 1048576) (hr : Recs w 2 A n F) :
    Calls Try.prog 45 #[.slice A n cap, .int .i64 k] w fun e w' => e = .returned (.int .i64 (monthI F n k)) ∧ Below w.heap.size w w' := by
  have HR := Lib.hid hr
  clear hr
  rcases Bool.eq_false_or_eq_true (eventsB F n) with s1 | s1
  · have HV := Lib.hid (show monthI F n k = monthK F k n by simp [monthI, s1])
    have EV := Lib.hid (fun w hr => by have := seventsOk_any A n cap F w hn hr; rw [s1] at this; exact this : ∀ w, Recs w 2 A n F → Calls Try.prog 39 #[.slice A n cap] w fun e w' => e = .returned (.bool true) ∧ Below w.heap.size w w')
    rw [HV.out]
    clear s1
    go_enter Try.func45, Try.ntmps45
    go_wp2_with fail
    go_loopw [5, 6] (fun x i wr => ∃ m : Nat, m ≤ n ∧ i = .int .i64 m ∧ x = .int .i64 (monthK F k m) ∧ Below w.heap.size w wr) (fun _ i _ => n - (intOf i).toNat)
    case atStart => exact ⟨0, Nat.zero_le _, rfl, rfl, Below.refl _ _⟩
    case round =>
      obtain ⟨m, hm, rfl, rfl, hbw⟩ := hrel
      have HB := Lib.hid hbw
      have zw := hbw.size
      obtain ⟨wo, rfl⟩ : ∃ wo : World, wo = wr := ⟨_, rfl⟩
      by_cases hlt : m < n
      · obtain ⟨b, off, e, hb, c0, c1⟩ := HR.out.at2 hlt
        have C0 := Lib.hid c0
        have C1 := Lib.hid c1
        have HE := Lib.hid e
        have hmi : (m : Int) < (n : Int) := by omega
        have hm0 : (0 : Int) ≤ (m : Int) := by omega
        clear c0 c1 e hbw
        go_wp2_with fail
        with_reducible refine (EV.out _ (HR.out.kept HB.out)).mono ?_
        rintro e w1 ⟨rfl, hb1⟩
        have B1 := HB.out.trans (hb1.mono zw)
        have d0 := (B1.cell (p := ⟨b, off + m * 2, none⟩) hb).trans C0.out
        have d1 := (B1.cell (p := ⟨b, off + m * 2 + 1, none⟩) hb).trans C1.out
        have HB1 := Lib.hid B1
        obtain rfl := HE.out
        clear hb1 B1
        rcases Bool.eq_false_or_eq_true (F m 0 == k) with q | q
        · have HM := Lib.hid (show monthK F k (m + 1) = F m 1 by simp only [monthK]; rw [if_pos (eq_of_beq q)])
          go_wp2_with fail
          go_roundw
          case rel => exact ⟨m + 1, by omega, by go_num, by rw [HM.out], HB1.out⟩
          case measure => simp [intOf]; omega
        · have HM := Lib.hid (show monthK F k (m + 1) = monthK F k m by simp only [monthK]; rw [if_neg (ne_of_beq_false q)])
          go_wp2_with fail
          go_roundw
          case rel => exact ⟨m + 1, by omega, by go_num, by rw [HM.out], HB1.out⟩
          case measure => simp [intOf]; omega
      · obtain rfl : m = n := by omega
        go_wp2
        go_ret
        exact ⟨rfl, HB.out⟩
  · have HV := Lib.hid (show monthI F n k = -1 by simp [monthI, s1])
    have EV := Lib.hid (fun w hr => by have := seventsOk_any A n cap F w hn hr; rw [s1] at this; exact this : ∀ w, Recs w 2 A n F → Calls Try.prog 39 #[.slice A n cap] w fun e w' => e = .returned (.bool false) ∧ Below w.heap.size w w')
    rw [HV.out]
    clear s1
    go_enter Try.func45, Try.ntmps45
    go_wp2_with fail
    refine wp_loop_rounds 1 ?_
    rw [rounds_succ]
    by_cases hz : 0 < n
    · go_wp2_with fail
      with_reducible refine (EV.out _ HR.out).mono ?_
      rintro e w1 ⟨rfl, hb1⟩
      go_wp2
      go_ret
      exact ⟨rfl, hb1⟩
    · go_wp2
      go_ret
      exact ⟨rfl, Below.refl _ _⟩
end Go.Proofs.Ytogoddbkamgndaa
