/- Contracts of MonthsInFund and FundAt, of the program and of the reference. -/
import Derived.Test.YtogoddbkamgndaaStay
namespace Go.Proofs.Ytogoddbkamgndaa
open Go.RowKit

def monthsF (F : Nat → Nat → Int) (fund : Int) (i : Nat) : Int := if F i 0 = fund then F i 2 - F i 1 else 0
def monthsI (F : Nat → Nat → Int) (n : Nat) (fund : Int) : Int := if staysB F n = true then sumI (monthsF F fund) n else 0
theorem months_bd {F : Nat → Nat → Int} {n : Nat} {fund : Int} (h : staysB F n = true) {m : Nat} (hm : m ≤ n) : 0 ≤ sumI (monthsF F fund) m ∧ sumI (monthsF F fund) m ≤ 72000 := by
  obtain ⟨hp, h20⟩ := staysB_true h
  obtain ⟨a, b⟩ := sumI_bd (f := monthsF F fund) (lo := 0) (hi := 3600) (n := m) (fun i hi => by
    have := hp i (by omega)
    unfold stayP at this
    unfold monthsF
    split <;> omega)
  omega
set_option maxHeartbeats 1000000 in
theorem months_any (A : Option Addr) (n cap : Nat) (F : Nat → Nat → Int) (fund : Int) (w : World) (hn : n ≤ 1048576) (hr : Recs w 3 A n F) :
    Calls Try.prog 22 #[.slice A n cap, .int .i64 fund] w fun e w' => e = .returned (.int .i64 (monthsI F n fund)) ∧ Below w.heap.size w w' := by
  have HR := Lib.hid hr
  clear hr
  rcases Bool.eq_false_or_eq_true (staysB F n) with s1 | s1
  · have HS := Lib.hid s1
    go_enter Try.func22, Try.ntmps22
    go_wp2_with (go_at_call 19; (with_reducible refine (staysOk_any A n cap F _ hn HR.out).mono ?_); rintro e w1 ⟨rfl, hb1⟩; obtain ⟨hc1, hf1⟩ := bcell hb1; (try simp only [World.size_drew] at hc1 hf1); have hz1 := hb1.size; (try simp at hz1); (try have q1_0 : w.heap.size < w1.heap.size := by omega); (try have q1_1 : w.heap.size + 1 < w1.heap.size := by omega); (try have q1_2 : w.heap.size + 2 < w1.heap.size := by omega); (try have q1_3 : w.heap.size + 3 < w1.heap.size := by omega); (try have q1_4 : w.heap.size + 4 < w1.heap.size := by omega); (try have q1_0_0 : w0.heap.size < w1.heap.size := by omega); (try have q1_0_1 : w0.heap.size + 1 < w1.heap.size := by omega); (try have q1_2_0 : w2.heap.size < w1.heap.size := by omega); (try have q1_2_1 : w2.heap.size + 1 < w1.heap.size := by omega); (try have q1_3_0 : w3.heap.size < w1.heap.size := by omega); (try have q1_3_1 : w3.heap.size + 1 < w1.heap.size := by omega); (try have q1_4_0 : w4.heap.size < w1.heap.size := by omega); (try have q1_4_1 : w4.heap.size + 1 < w1.heap.size := by omega); (try have q1_5_0 : w5.heap.size < w1.heap.size := by omega); (try have q1_5_1 : w5.heap.size + 1 < w1.heap.size := by omega); (try have q1_6_0 : w6.heap.size < w1.heap.size := by omega); (try have q1_6_1 : w6.heap.size + 1 < w1.heap.size := by omega); (try have u1_b : b < w1.heap.size := by omega); (try have u1_q : q < w1.heap.size := by omega); (try have u1_g : g < w1.heap.size := by omega); (try have u1_g1 : g1 < w1.heap.size := by omega); (try have u1_g2 : g2 < w1.heap.size := by omega); (try have u1_g3 : g3 < w1.heap.size := by omega); (try have u1_g4 : g4 < w1.heap.size := by omega); (try have u1_g5 : g5 < w1.heap.size := by omega))
    clear s1 hc1 hf1
    go_loopw [5, 13] (fun x i wr => ∃ m : Nat, m ≤ n ∧ i = .int .i64 m ∧ x = .int .i64 (sumI (monthsF F fund) m) ∧ Below w.heap.size w wr) (fun _ i _ => n - (intOf i).toNat)
    case atStart => exact ⟨0, Nat.zero_le _, rfl, rfl, hb1⟩
    case round =>
      clear hb1
      obtain ⟨m, hm, rfl, rfl, hbw⟩ := hrel
      obtain ⟨s0, s1⟩ := months_bd (fund := fund) HS.out hm
      by_cases hlt : m < n
      · obtain ⟨b, off, rfl, hb, c0, c1, c2⟩ := HR.out.at3 hlt
        have d0 := (hbw.cell (p := ⟨b, off + m * 3, none⟩) hb).trans c0
        have d1 := (hbw.cell (p := ⟨b, off + m * 3 + 1, none⟩) hb).trans c1
        have d2 := (hbw.cell (p := ⟨b, off + m * 3 + 2, none⟩) hb).trans c2
        obtain ⟨_, _, q1, q2, q3, _⟩ := (staysB_true HS.out).1 m hlt
        have hmi : (m : Int) < (n : Int) := by omega
        have hm0 : (0 : Int) ≤ (m : Int) := by omega
        have lb : b < wr.heap.size := Nat.lt_of_lt_of_le hb hbw.size
        have HB := Lib.hid hbw
        have hbs := hbw.size
        clear c0 c1 c2 hbw hb
        by_cases hq : F m 0 = fund
        · have hM : sumI (monthsF F fund) m + (F m 2 - F m 1) = sumI (monthsF F fund) (m + 1) := by simp [sumI, monthsF, hq]
          have HM := Lib.hid hM
          have hq2 : (F m 0 == fund) = true := by simp [hq]
          clear hM hq
          go_wp2
          go_roundw
          case rel => exact ⟨m + 1, by omega, by go_num, (by rw [← HM.out]), (by have hbw := HB.out; first | exact below_drewN (by (repeat (first | with_reducible exact Below.refl _ _ | with_reducible refine Below.drew ?_ | (with_reducible refine Below.alloc ?_ ?hsz _; case hsz => ((try simp) <;> (try omega))) | (with_reducible refine Below.setCell ?_ ?hsz _; case hsz => ((try simp) <;> (try omega))) | (with_reducible refine below_step (by with_reducible assumption) ?hsz ?_; case hsz => ((try simp) <;> (try omega)))))) _ | (repeat (first | with_reducible exact Below.refl _ _ | with_reducible refine Below.drew ?_ | (with_reducible refine Below.alloc ?_ ?hsz _; case hsz => ((try simp) <;> (try omega))) | (with_reducible refine Below.setCell ?_ ?hsz _; case hsz => ((try simp) <;> (try omega))) | (with_reducible refine below_step (by with_reducible assumption) ?hsz ?_; case hsz => ((try simp) <;> (try omega))))))⟩
          case measure => simp [intOf]; omega
        · have hM : sumI (monthsF F fund) m = sumI (monthsF F fund) (m + 1) := by simp [sumI, monthsF, hq]
          have HM := Lib.hid hM
          have hq2 : (F m 0 == fund) = false := by simp [hq]
          clear hM
          go_wp2
          go_roundw
          case rel => exact ⟨m + 1, by omega, by go_num, (by rw [← HM.out]), (by have hbw := HB.out; first | exact below_drewN (by (repeat (first | with_reducible exact Below.refl _ _ | with_reducible refine Below.drew ?_ | (with_reducible refine Below.alloc ?_ ?hsz _; case hsz => ((try simp) <;> (try omega))) | (with_reducible refine Below.setCell ?_ ?hsz _; case hsz => ((try simp) <;> (try omega))) | (with_reducible refine below_step (by with_reducible assumption) ?hsz ?_; case hsz => ((try simp) <;> (try omega)))))) _ | (repeat (first | with_reducible exact Below.refl _ _ | with_reducible refine Below.drew ?_ | (with_reducible refine Below.alloc ?_ ?hsz _; case hsz => ((try simp) <;> (try omega))) | (with_reducible refine Below.setCell ?_ ?hsz _; case hsz => ((try simp) <;> (try omega))) | (with_reducible refine below_step (by with_reducible assumption) ?hsz ?_; case hsz => ((try simp) <;> (try omega))))))⟩
          case measure => simp [intOf]; omega
      · obtain rfl : m = n := by omega
        go_wp2
        go_ret
        exact ⟨ret_int (by simp [monthsI, HS.out]), hbw⟩
  · go_enter Try.func22, Try.ntmps22
    go_wp2_with (go_at_call 19; (with_reducible refine (staysOk_any A n cap F _ hn HR.out).mono ?_); rintro e w1 ⟨rfl, hb1⟩; obtain ⟨hc1, hf1⟩ := bcell hb1; (try simp only [World.size_drew] at hc1 hf1); have hz1 := hb1.size; (try simp at hz1); (try have q1_0 : w.heap.size < w1.heap.size := by omega); (try have q1_1 : w.heap.size + 1 < w1.heap.size := by omega); (try have q1_2 : w.heap.size + 2 < w1.heap.size := by omega); (try have q1_3 : w.heap.size + 3 < w1.heap.size := by omega); (try have q1_4 : w.heap.size + 4 < w1.heap.size := by omega); (try have q1_0_0 : w0.heap.size < w1.heap.size := by omega); (try have q1_0_1 : w0.heap.size + 1 < w1.heap.size := by omega); (try have q1_2_0 : w2.heap.size < w1.heap.size := by omega); (try have q1_2_1 : w2.heap.size + 1 < w1.heap.size := by omega); (try have q1_3_0 : w3.heap.size < w1.heap.size := by omega); (try have q1_3_1 : w3.heap.size + 1 < w1.heap.size := by omega); (try have q1_4_0 : w4.heap.size < w1.heap.size := by omega); (try have q1_4_1 : w4.heap.size + 1 < w1.heap.size := by omega); (try have q1_5_0 : w5.heap.size < w1.heap.size := by omega); (try have q1_5_1 : w5.heap.size + 1 < w1.heap.size := by omega); (try have q1_6_0 : w6.heap.size < w1.heap.size := by omega); (try have q1_6_1 : w6.heap.size + 1 < w1.heap.size := by omega); (try have u1_b : b < w1.heap.size := by omega); (try have u1_q : q < w1.heap.size := by omega); (try have u1_g : g < w1.heap.size := by omega); (try have u1_g1 : g1 < w1.heap.size := by omega); (try have u1_g2 : g2 < w1.heap.size := by omega); (try have u1_g3 : g3 < w1.heap.size := by omega); (try have u1_g4 : g4 < w1.heap.size := by omega); (try have u1_g5 : g5 < w1.heap.size := by omega))
    go_ret
    exact ⟨ret_int (by simp [monthsI, s1]), hb1⟩
set_option maxHeartbeats 1000000 in
theorem smonths_any (A : Option Addr) (n cap : Nat) (F : Nat → Nat → Int) (fund : Int) (w : World) (hn : n ≤ 1048576) (hr : Recs w 3 A n F) :
    Calls Try.prog 21 #[.slice A n cap, .int .i64 fund] w fun e w' => e = .returned (.int .i64 (monthsI F n fund)) ∧ Below w.heap.size w w' := by
  have HR := Lib.hid hr
  clear hr
  rcases Bool.eq_false_or_eq_true (staysB F n) with s1 | s1
  · have HS := Lib.hid s1
    clear s1
    go_enter Try.func21, Try.ntmps21
    go_wp2_with fail
    go_loopw [5, 6] (fun x i wr => ∃ m : Nat, m ≤ n ∧ i = .int .i64 m ∧ x = .int .i64 (sumI (monthsF F fund) m) ∧ Below w.heap.size w wr) (fun _ i _ => n - (intOf i).toNat)
    case atStart => exact ⟨0, Nat.zero_le _, rfl, rfl, Below.refl _ _⟩
    case round =>
      obtain ⟨m, hm, rfl, rfl, hbw⟩ := hrel
      obtain ⟨s0, s1⟩ := months_bd (fund := fund) HS.out hm
      by_cases hlt : m < n
      · have hs := Lib.hid (fun w1 (h : Below w.heap.size w w1) => by have := sstaysOk_any A n cap F w1 hn (HR.out.kept h); rw [HS.out] at this; exact this : ∀ w1, Below w.heap.size w w1 → Calls Try.prog 17 #[.slice A n cap] w1 fun e w' => e = .returned (.bool true) ∧ Below w1.heap.size w1 w')
        obtain ⟨b, off, e, hb, c0, c1, c2⟩ := HR.out.at3 hlt
        obtain ⟨_, _, q1, q2, q3, _⟩ := (staysB_true HS.out).1 m hlt
        have hmi : (m : Int) < (n : Int) := by omega
        have hm0 : (0 : Int) ≤ (m : Int) := by omega
        have hbs := hbw.size
        have HB := Lib.hid hbw
        have HBB := Lib.hid hb
        have C0 := Lib.hid c0
        have C1 := Lib.hid c1
        have C2 := Lib.hid c2
        have HE := Lib.hid e
        clear hbw hb c0 c1 c2 e
        go_wp2_with fail
        with_reducible refine (hs.out _ HB.out).mono ?_
        rintro e w1 ⟨rfl, hb1⟩
        have hbw := HB.out.trans (hb1.mono hbs)
        have hb := HBB.out
        have d0 := (hbw.cell (p := ⟨b, off + m * 3, none⟩) hb).trans C0.out
        have d1 := (hbw.cell (p := ⟨b, off + m * 3 + 1, none⟩) hb).trans C1.out
        have d2 := (hbw.cell (p := ⟨b, off + m * 3 + 2, none⟩) hb).trans C2.out
        obtain rfl := HE.out
        have HB1 := Lib.hid hbw
        clear hbw hb hb1 hs HB
        by_cases hq : F m 0 = fund
        · have hM : sumI (monthsF F fund) m + F m 2 - F m 1 = sumI (monthsF F fund) (m + 1) := by simp only [sumI, monthsF, hq, if_pos]; omega
          have HM := Lib.hid hM
          have hq2 : (F m 0 == fund) = true := by simp [hq]
          clear hM hq
          go_wp2_with fail
          go_big_quiet (fail)
          go_wp2
          go_roundw
          case rel => exact ⟨m + 1, by omega, by go_num, (by rw [← HM.out]), below_drewN HB1.out _⟩
          case measure => simp [intOf]; omega
        · have hM : sumI (monthsF F fund) m = sumI (monthsF F fund) (m + 1) := by simp [sumI, monthsF, hq]
          have HM := Lib.hid hM
          have hq2 : (F m 0 == fund) = false := by simp [hq]
          clear hM
          go_wp2
          go_roundw
          case rel => exact ⟨m + 1, by omega, by go_num, (by rw [← HM.out]), HB1.out⟩
          case measure => simp [intOf]; omega
      · obtain rfl : m = n := by omega
        go_wp2
        go_ret
        exact ⟨ret_int (by simp [monthsI, HS.out]), hbw⟩
  · go_enter Try.func21, Try.ntmps21
    go_wp2_with fail
    refine wp_loop_rounds 1 ?_
    rw [rounds_succ]
    by_cases hz : 0 < n
    · go_wp2_with (go_at_call 17; (with_reducible refine (sstaysOk_any A n cap F _ hn HR.out).mono ?_); rintro e w1 ⟨rfl, hb1⟩; obtain ⟨hc1, hf1⟩ := bcell hb1; (try simp only [World.size_drew] at hc1 hf1); have hz1 := hb1.size; (try simp at hz1); (try have q1_0 : w.heap.size < w1.heap.size := by omega); (try have q1_1 : w.heap.size + 1 < w1.heap.size := by omega); (try have q1_2 : w.heap.size + 2 < w1.heap.size := by omega); (try have q1_3 : w.heap.size + 3 < w1.heap.size := by omega); (try have q1_4 : w.heap.size + 4 < w1.heap.size := by omega); (try have q1_0_0 : w0.heap.size < w1.heap.size := by omega); (try have q1_0_1 : w0.heap.size + 1 < w1.heap.size := by omega); (try have q1_2_0 : w2.heap.size < w1.heap.size := by omega); (try have q1_2_1 : w2.heap.size + 1 < w1.heap.size := by omega); (try have q1_3_0 : w3.heap.size < w1.heap.size := by omega); (try have q1_3_1 : w3.heap.size + 1 < w1.heap.size := by omega); (try have q1_4_0 : w4.heap.size < w1.heap.size := by omega); (try have q1_4_1 : w4.heap.size + 1 < w1.heap.size := by omega); (try have q1_5_0 : w5.heap.size < w1.heap.size := by omega); (try have q1_5_1 : w5.heap.size + 1 < w1.heap.size := by omega); (try have q1_6_0 : w6.heap.size < w1.heap.size := by omega); (try have q1_6_1 : w6.heap.size + 1 < w1.heap.size := by omega); (try have u1_b : b < w1.heap.size := by omega); (try have u1_q : q < w1.heap.size := by omega); (try have u1_g : g < w1.heap.size := by omega); (try have u1_g1 : g1 < w1.heap.size := by omega); (try have u1_g2 : g2 < w1.heap.size := by omega); (try have u1_g3 : g3 < w1.heap.size := by omega); (try have u1_g4 : g4 < w1.heap.size := by omega); (try have u1_g5 : g5 < w1.heap.size := by omega))
      go_ret
      exact ⟨ret_int (by simp [monthsI, s1]), by (repeat (first | with_reducible exact Below.refl _ _ | with_reducible refine Below.drew ?_ | (with_reducible refine Below.alloc ?_ ?hsz _; case hsz => ((try simp) <;> (try omega))) | (with_reducible refine Below.setCell ?_ ?hsz _; case hsz => ((try simp) <;> (try omega))) | (with_reducible refine below_step (by with_reducible assumption) ?hsz ?_; case hsz => ((try simp) <;> (try omega)))))⟩
    · go_wp2
      go_ret
      exact ⟨ret_int (by simp [monthsI, s1]), by (repeat (first | with_reducible exact Below.refl _ _ | with_reducible refine Below.drew ?_ | (with_reducible refine Below.alloc ?_ ?hsz _; case hsz => ((try simp) <;> (try omega))) | (with_reducible refine Below.setCell ?_ ?hsz _; case hsz => ((try simp) <;> (try omega))) | (with_reducible refine below_step (by with_reducible assumption) ?hsz ?_; case hsz => ((try simp) <;> (try omega)))))⟩
end Go.Proofs.Ytogoddbkamgndaa
