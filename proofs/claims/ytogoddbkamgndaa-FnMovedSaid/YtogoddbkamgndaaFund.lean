/- Contracts of FundAt, of the program and of the reference. -/
import Derived.Test.YtogoddbkamgndaaStay
import Derived.Deep.RegionHeld3
namespace Go.Proofs.Ytogoddbkamgndaa
open Go.RowKit

/-- Does stay i hold month t? -/
def atB (F : Nat → Nat → Int) (t : Int) (i : Nat) : Bool := decide (F i 1 ≤ t) && decide (t < F i 2)
def stayAtI (F : Nat → Nat → Int) (n : Nat) (t : Int) : Int := findI (atB F t) n
def fundI (F : Nat → Nat → Int) (n : Nat) (t : Int) : Int := if staysB F n = true ∧ 0 ≤ stayAtI F n t then F (stayAtI F n t).toNat 0 else 0
theorem stayAt1_any (x0 x1 x2 t : Int) (b1 : Nat) (w : World) (h1 : w.cell? ⟨b1, 0, none⟩ = some (.int .i64 t)) :
    Calls Try.prog 79 #[.agg #[.int .i64 x0, .int .i64 x1, .int .i64 x2], .pointer (some ⟨b1, 0, none⟩)] w fun e w' => e = .returned (.bool (decide (x1 ≤ t) && decide (t < x2))) ∧ Below w.heap.size w w' := by
  have l1 := lt_of_cell h1
  rcases Bool.eq_false_or_eq_true (decide (x1 ≤ t)) with k1 | k1
  · go_enter Try.func79, Try.ntmps79
    go_wp2_with fail
    go_ret
    exact ⟨ret_bool (by simp [k1]), by (repeat (first | with_reducible exact Below.refl _ _ | with_reducible refine Below.drew ?_ | (with_reducible refine Below.alloc ?_ ?hsz _; case hsz => ((try simp) <;> (try omega))) | (with_reducible refine Below.setCell ?_ ?hsz _; case hsz => ((try simp) <;> (try omega))) | (with_reducible refine below_step (by with_reducible assumption) ?hsz ?_; case hsz => ((try simp) <;> (try omega)))))⟩
  · go_enter Try.func79, Try.ntmps79
    go_wp2_with fail
    go_ret
    exact ⟨ret_bool (by simp [k1]), by (repeat (first | with_reducible exact Below.refl _ _ | with_reducible refine Below.drew ?_ | (with_reducible refine Below.alloc ?_ ?hsz _; case hsz => ((try simp) <;> (try omega))) | (with_reducible refine Below.setCell ?_ ?hsz _; case hsz => ((try simp) <;> (try omega))) | (with_reducible refine below_step (by with_reducible assumption) ?hsz ?_; case hsz => ((try simp) <;> (try omega)))))⟩
set_option maxHeartbeats 1000000 in
theorem indexStay_any (A : Option Addr) (n cap : Nat) (F : Nat → Nat → Int) (t : Int) (b1 : Nat) (w : World) (hn : n ≤ 1048576) (hr : Recs w 3 A n F) (h1 : w.cell? ⟨b1, 0, none⟩ = some (.int .i64 t)) :
    Calls Try.prog 78 #[.slice A n cap, .func (.func 79) #[] #[.pointer (some ⟨b1, 0, none⟩)]] w fun e w' => e = .returned (.int .i64 (stayAtI F n t)) ∧ Below w.heap.size w w' := by
  have l1 := lt_of_cell h1
  have HR := Lib.hid hr
  have H1 := Lib.hid h1
  clear hr h1
  go_enter Try.func78, Try.ntmps78
  go_wp2_with fail
  go_loopw [8] (fun i wr => ∃ k : Nat, k ≤ n ∧ i = .int .i64 k ∧ Below w.heap.size w wr ∧ Hid (∀ j, j < k → atB F t j = false)) (fun i _ => n - (intOf i).toNat)
  case atStart => exact ⟨0, Nat.zero_le _, rfl, Below.refl _ _, fun j hj => by omega⟩
  case round =>
    obtain ⟨m, hm, rfl, hbw, hF⟩ := hrel
    by_cases hlt : m < n
    · obtain ⟨b, off, rfl, hb, c0, c1, c2⟩ := HR.out.at3 hlt
      have d0 := (hbw.cell (p := ⟨b, off + m * 3, none⟩) hb).trans c0
      have d1 := (hbw.cell (p := ⟨b, off + m * 3 + 1, none⟩) hb).trans c1
      have d2 := (hbw.cell (p := ⟨b, off + m * 3 + 2, none⟩) hb).trans c2
      have h1 := Lib.hid ((hbw.cell (p := ⟨b1, 0, none⟩) l1).trans H1.out)
      have hmi : (m : Int) < (n : Int) := by omega
      have hm0 : (0 : Int) ≤ (m : Int) := by omega
      have hbs := hbw.size
      clear c0 c1 c2 hb
      have HB := Lib.hid hbw
      clear hbw
      go_wp2_with fail
      with_reducible refine (stayAt1_any (F m 0) (F m 1) (F m 2) t b1 _ h1.out).mono ?_
      rintro e w1 ⟨rfl, hb1⟩
      have hbw := HB.out.trans (hb1.mono hbs)
      clear hb1 h1 HB d0 d1 d2
      rcases Bool.eq_false_or_eq_true (atB F t m) with hp | hp
      · have hp' : (decide (F m 1 ≤ t) && decide (t < F m 2)) = true := hp
        rw [hp']
        go_wp2
        go_ret
        exact ⟨ret_int (findI_hit hF.out hlt hp).symm, hbw⟩
      · have hp' : (decide (F m 1 ≤ t) && decide (t < F m 2)) = false := hp
        rw [hp']
        go_wp2
        go_roundw
        case rel => exact ⟨m + 1, by omega, by go_num, hbw, fun j hj => by
          rcases Nat.lt_or_ge j m with h | h
          · exact hF.out j h
          · obtain rfl : j = m := by omega
            exact hp⟩
        case measure => simp [intOf]; omega
    · obtain rfl : m = n := by omega
      go_wp2
      go_ret
      exact ⟨ret_int (findI_none hF.out).symm, hbw⟩
theorem stayAt_any (A : Option Addr) (n cap : Nat) (F : Nat → Nat → Int) (t : Int) (w : World) (hn : n ≤ 1048576) (hr : Recs w 3 A n F) :
    Calls Try.prog 61 #[.slice A n cap, .int .i64 t] w fun e w' => e = .returned (.int .i64 (stayAtI F n t)) ∧ Below w.heap.size w w' := by
  have hr' := Lib.hid (hr.alloc (.cells #[.int .i64 t] 3))
  clear hr
  go_enter Try.func61, Try.ntmps61
  go_wp2_with (go_at_call 78; (with_reducible refine (indexStay_any A n cap F t w.heap.size _ hn hr'.out (by simp [go_sem])).mono ?_); rintro e w1 ⟨rfl, hb1⟩)
  go_ret
  exact ⟨rfl, by (repeat (first | with_reducible exact Below.refl _ _ | with_reducible refine Below.drew ?_ | (with_reducible refine Below.alloc ?_ ?hsz _; case hsz => ((try simp) <;> (try omega))) | (with_reducible refine Below.setCell ?_ ?hsz _; case hsz => ((try simp) <;> (try omega))) | (with_reducible refine below_step (by with_reducible assumption) ?hsz ?_; case hsz => ((try simp) <;> (try omega)))))⟩
theorem stayAt_cases (F : Nat → Nat → Int) (n : Nat) (t : Int) : stayAtI F n t = -1 ∨ ∃ k : Nat, stayAtI F n t = k ∧ k < n := by
  rcases findI_cases (atB F t) n with ⟨e, _⟩ | ⟨k, e, hk, _⟩
  · exact .inl e
  · exact .inr ⟨k, e, hk⟩
set_option maxHeartbeats 1000000 in
theorem fund_any (A : Option Addr) (n cap : Nat) (F : Nat → Nat → Int) (t : Int) (w : World) (hn : n ≤ 1048576) (hr : Recs w 3 A n F) :
    Calls Try.prog 24 #[.slice A n cap, .int .i64 t] w fun e w' => e = .returned (.int .i64 (fundI F n t)) ∧ Below w.heap.size w w' := by
  have HR := Lib.hid hr
  clear hr
  rcases stayAt_cases F n t with h | ⟨k, h, hk⟩
  · have H := Lib.hid (fun w hr => by have := stayAt_any A n cap F t w hn hr; rw [h] at this; exact this : ∀ w, Recs w 3 A n F → Calls Try.prog 61 #[.slice A n cap, .int .i64 t] w fun e w' => e = .returned (.int .i64 (-1)) ∧ Below w.heap.size w w')
    go_enter Try.func24, Try.ntmps24
    go_wp2_with (go_at_call 61; (with_reducible refine (H.out _ HR.out).mono ?_); rintro e w1 ⟨rfl, hb1⟩; obtain ⟨hc1, hf1⟩ := bcell hb1; (try simp only [World.size_drew] at hc1 hf1); have hz1 := hb1.size; (try simp at hz1); (try have q1_0 : w.heap.size < w1.heap.size := by omega); (try have q1_1 : w.heap.size + 1 < w1.heap.size := by omega); (try have q1_2 : w.heap.size + 2 < w1.heap.size := by omega); (try have q1_3 : w.heap.size + 3 < w1.heap.size := by omega); (try have q1_4 : w.heap.size + 4 < w1.heap.size := by omega); (try have q1_0_0 : w0.heap.size < w1.heap.size := by omega); (try have q1_0_1 : w0.heap.size + 1 < w1.heap.size := by omega); (try have q1_2_0 : w2.heap.size < w1.heap.size := by omega); (try have q1_2_1 : w2.heap.size + 1 < w1.heap.size := by omega); (try have q1_3_0 : w3.heap.size < w1.heap.size := by omega); (try have q1_3_1 : w3.heap.size + 1 < w1.heap.size := by omega); (try have q1_4_0 : w4.heap.size < w1.heap.size := by omega); (try have q1_4_1 : w4.heap.size + 1 < w1.heap.size := by omega); (try have q1_5_0 : w5.heap.size < w1.heap.size := by omega); (try have q1_5_1 : w5.heap.size + 1 < w1.heap.size := by omega); (try have q1_6_0 : w6.heap.size < w1.heap.size := by omega); (try have q1_6_1 : w6.heap.size + 1 < w1.heap.size := by omega); (try have u1_b : b < w1.heap.size := by omega); (try have u1_q : q < w1.heap.size := by omega); (try have u1_g : g < w1.heap.size := by omega); (try have u1_g1 : g1 < w1.heap.size := by omega); (try have u1_g2 : g2 < w1.heap.size := by omega); (try have u1_g3 : g3 < w1.heap.size := by omega); (try have u1_g4 : g4 < w1.heap.size := by omega); (try have u1_g5 : g5 < w1.heap.size := by omega))
    go_ret
    exact ⟨ret_int (by simp [fundI, h]), by (repeat (first | with_reducible exact Below.refl _ _ | with_reducible refine Below.drew ?_ | (with_reducible refine Below.alloc ?_ ?hsz _; case hsz => ((try simp) <;> (try omega))) | (with_reducible refine Below.setCell ?_ ?hsz _; case hsz => ((try simp) <;> (try omega))) | (with_reducible refine below_step (by with_reducible assumption) ?hsz ?_; case hsz => ((try simp) <;> (try omega)))))⟩
  · have H := Lib.hid (fun w hr => by have := stayAt_any A n cap F t w hn hr; rw [h] at this; exact this : ∀ w, Recs w 3 A n F → Calls Try.prog 61 #[.slice A n cap, .int .i64 t] w fun e w' => e = .returned (.int .i64 k) ∧ Below w.heap.size w w')
    have hkn : (k : Int) < (n : Int) := by omega
    have hk0 : (0 : Int) ≤ (k : Int) := by omega
    rcases Bool.eq_false_or_eq_true (staysB F n) with s1 | s1
    · obtain ⟨b, off, rfl, hb, c0, c1, c2⟩ := HR.out.at3 hk
      have e1 := Lib.hid (show F k 0 = fundI F n t by simp [fundI, s1, h])
      clear h
      go_enter Try.func24, Try.ntmps24
      go_wp2_with (first | (go_at_call 61; (with_reducible refine (H.out _ HR.out).mono ?_); rintro e w1 ⟨rfl, hb1⟩; obtain ⟨hc1, hf1⟩ := bcell hb1; (try simp only [World.size_drew] at hc1 hf1); have hz1 := hb1.size; (try simp at hz1); (try have q1_0 : w.heap.size < w1.heap.size := by omega); (try have q1_1 : w.heap.size + 1 < w1.heap.size := by omega); (try have q1_2 : w.heap.size + 2 < w1.heap.size := by omega); (try have q1_3 : w.heap.size + 3 < w1.heap.size := by omega); (try have q1_4 : w.heap.size + 4 < w1.heap.size := by omega); (try have q1_0_0 : w0.heap.size < w1.heap.size := by omega); (try have q1_0_1 : w0.heap.size + 1 < w1.heap.size := by omega); (try have q1_2_0 : w2.heap.size < w1.heap.size := by omega); (try have q1_2_1 : w2.heap.size + 1 < w1.heap.size := by omega); (try have q1_3_0 : w3.heap.size < w1.heap.size := by omega); (try have q1_3_1 : w3.heap.size + 1 < w1.heap.size := by omega); (try have q1_4_0 : w4.heap.size < w1.heap.size := by omega); (try have q1_4_1 : w4.heap.size + 1 < w1.heap.size := by omega); (try have q1_5_0 : w5.heap.size < w1.heap.size := by omega); (try have q1_5_1 : w5.heap.size + 1 < w1.heap.size := by omega); (try have q1_6_0 : w6.heap.size < w1.heap.size := by omega); (try have q1_6_1 : w6.heap.size + 1 < w1.heap.size := by omega); (try have u1_b : b < w1.heap.size := by omega); (try have u1_q : q < w1.heap.size := by omega); (try have u1_g : g < w1.heap.size := by omega); (try have u1_g1 : g1 < w1.heap.size := by omega); (try have u1_g2 : g2 < w1.heap.size := by omega); (try have u1_g3 : g3 < w1.heap.size := by omega); (try have u1_g4 : g4 < w1.heap.size := by omega); (try have u1_g5 : g5 < w1.heap.size := by omega)) | (go_at_call 19; (with_reducible refine (staysOk_any _ n cap F _ hn (HR.out.kept hb1)).mono ?_); rintro e w2 ⟨rfl, hb2⟩; obtain ⟨hc2, hf2⟩ := bcell hb2; (try simp only [World.size_drew] at hc2 hf2); have hz2 := hb2.size; (try simp at hz2); (try have q2_0 : w.heap.size < w2.heap.size := by omega); (try have q2_1 : w.heap.size + 1 < w2.heap.size := by omega); (try have q2_2 : w.heap.size + 2 < w2.heap.size := by omega); (try have q2_3 : w.heap.size + 3 < w2.heap.size := by omega); (try have q2_4 : w.heap.size + 4 < w2.heap.size := by omega); (try have q2_0_0 : w0.heap.size < w2.heap.size := by omega); (try have q2_0_1 : w0.heap.size + 1 < w2.heap.size := by omega); (try have q2_1_0 : w1.heap.size < w2.heap.size := by omega); (try have q2_1_1 : w1.heap.size + 1 < w2.heap.size := by omega); (try have q2_3_0 : w3.heap.size < w2.heap.size := by omega); (try have q2_3_1 : w3.heap.size + 1 < w2.heap.size := by omega); (try have q2_4_0 : w4.heap.size < w2.heap.size := by omega); (try have q2_4_1 : w4.heap.size + 1 < w2.heap.size := by omega); (try have q2_5_0 : w5.heap.size < w2.heap.size := by omega); (try have q2_5_1 : w5.heap.size + 1 < w2.heap.size := by omega); (try have q2_6_0 : w6.heap.size < w2.heap.size := by omega); (try have q2_6_1 : w6.heap.size + 1 < w2.heap.size := by omega); (try have u2_b : b < w2.heap.size := by omega); (try have u2_q : q < w2.heap.size := by omega); (try have u2_g : g < w2.heap.size := by omega); (try have u2_g1 : g1 < w2.heap.size := by omega); (try have u2_g2 : g2 < w2.heap.size := by omega); (try have u2_g3 : g3 < w2.heap.size := by omega); (try have u2_g4 : g4 < w2.heap.size := by omega); (try have u2_g5 : g5 < w2.heap.size := by omega)))
      go_ret
      exact ⟨ret_int e1.out, by (repeat (first | with_reducible exact Below.refl _ _ | with_reducible refine Below.drew ?_ | (with_reducible refine Below.alloc ?_ ?hsz _; case hsz => ((try simp) <;> (try omega))) | (with_reducible refine Below.setCell ?_ ?hsz _; case hsz => ((try simp) <;> (try omega))) | (with_reducible refine below_step (by with_reducible assumption) ?hsz ?_; case hsz => ((try simp) <;> (try omega)))))⟩
    · have e1 := Lib.hid (show 0 = fundI F n t by simp [fundI, s1])
      clear h
      go_enter Try.func24, Try.ntmps24
      go_wp2_with (first | (go_at_call 61; (with_reducible refine (H.out _ HR.out).mono ?_); rintro e w1 ⟨rfl, hb1⟩; obtain ⟨hc1, hf1⟩ := bcell hb1; (try simp only [World.size_drew] at hc1 hf1); have hz1 := hb1.size; (try simp at hz1); (try have q1_0 : w.heap.size < w1.heap.size := by omega); (try have q1_1 : w.heap.size + 1 < w1.heap.size := by omega); (try have q1_2 : w.heap.size + 2 < w1.heap.size := by omega); (try have q1_3 : w.heap.size + 3 < w1.heap.size := by omega); (try have q1_4 : w.heap.size + 4 < w1.heap.size := by omega); (try have q1_0_0 : w0.heap.size < w1.heap.size := by omega); (try have q1_0_1 : w0.heap.size + 1 < w1.heap.size := by omega); (try have q1_2_0 : w2.heap.size < w1.heap.size := by omega); (try have q1_2_1 : w2.heap.size + 1 < w1.heap.size := by omega); (try have q1_3_0 : w3.heap.size < w1.heap.size := by omega); (try have q1_3_1 : w3.heap.size + 1 < w1.heap.size := by omega); (try have q1_4_0 : w4.heap.size < w1.heap.size := by omega); (try have q1_4_1 : w4.heap.size + 1 < w1.heap.size := by omega); (try have q1_5_0 : w5.heap.size < w1.heap.size := by omega); (try have q1_5_1 : w5.heap.size + 1 < w1.heap.size := by omega); (try have q1_6_0 : w6.heap.size < w1.heap.size := by omega); (try have q1_6_1 : w6.heap.size + 1 < w1.heap.size := by omega); (try have u1_b : b < w1.heap.size := by omega); (try have u1_q : q < w1.heap.size := by omega); (try have u1_g : g < w1.heap.size := by omega); (try have u1_g1 : g1 < w1.heap.size := by omega); (try have u1_g2 : g2 < w1.heap.size := by omega); (try have u1_g3 : g3 < w1.heap.size := by omega); (try have u1_g4 : g4 < w1.heap.size := by omega); (try have u1_g5 : g5 < w1.heap.size := by omega)) | (go_at_call 19; (with_reducible refine (staysOk_any _ n cap F _ hn (HR.out.kept hb1)).mono ?_); rintro e w2 ⟨rfl, hb2⟩; obtain ⟨hc2, hf2⟩ := bcell hb2; (try simp only [World.size_drew] at hc2 hf2); have hz2 := hb2.size; (try simp at hz2); (try have q2_0 : w.heap.size < w2.heap.size := by omega); (try have q2_1 : w.heap.size + 1 < w2.heap.size := by omega); (try have q2_2 : w.heap.size + 2 < w2.heap.size := by omega); (try have q2_3 : w.heap.size + 3 < w2.heap.size := by omega); (try have q2_4 : w.heap.size + 4 < w2.heap.size := by omega); (try have q2_0_0 : w0.heap.size < w2.heap.size := by omega); (try have q2_0_1 : w0.heap.size + 1 < w2.heap.size := by omega); (try have q2_1_0 : w1.heap.size < w2.heap.size := by omega); (try have q2_1_1 : w1.heap.size + 1 < w2.heap.size := by omega); (try have q2_3_0 : w3.heap.size < w2.heap.size := by omega); (try have q2_3_1 : w3.heap.size + 1 < w2.heap.size := by omega); (try have q2_4_0 : w4.heap.size < w2.heap.size := by omega); (try have q2_4_1 : w4.heap.size + 1 < w2.heap.size := by omega); (try have q2_5_0 : w5.heap.size < w2.heap.size := by omega); (try have q2_5_1 : w5.heap.size + 1 < w2.heap.size := by omega); (try have q2_6_0 : w6.heap.size < w2.heap.size := by omega); (try have q2_6_1 : w6.heap.size + 1 < w2.heap.size := by omega); (try have u2_b : b < w2.heap.size := by omega); (try have u2_q : q < w2.heap.size := by omega); (try have u2_g : g < w2.heap.size := by omega); (try have u2_g1 : g1 < w2.heap.size := by omega); (try have u2_g2 : g2 < w2.heap.size := by omega); (try have u2_g3 : g3 < w2.heap.size := by omega); (try have u2_g4 : g4 < w2.heap.size := by omega); (try have u2_g5 : g5 < w2.heap.size := by omega)))
      go_ret
      exact ⟨ret_int e1.out, by (repeat (first | with_reducible exact Below.refl _ _ | with_reducible refine Below.drew ?_ | (with_reducible refine Below.alloc ?_ ?hsz _; case hsz => ((try simp) <;> (try omega))) | (with_reducible refine Below.setCell ?_ ?hsz _; case hsz => ((try simp) <;> (try omega))) | (with_reducible refine below_step (by with_reducible assumption) ?hsz ?_; case hsz => ((try simp) <;> (try omega)))))⟩
/-- Where the reference's search ends: -1 where the list is not right. -/
def sstayAtI (F : Nat → Nat → Int) (n : Nat) (t : Int) : Int := if staysB F n = true then stayAtI F n t else -1
set_option maxHeartbeats 1000000 in
theorem sstayAt_any (A : Option Addr) (n cap : Nat) (F : Nat → Nat → Int) (t : Int) (w : World) (hn : n ≤ 1048576) (hr : Recs w 3 A n F) :
    Calls Try.prog 60 #[.slice A n cap, .int .i64 t] w fun e w' => e = .returned (.int .i64 (sstayAtI F n t)) ∧ Below w.heap.size w w' := by
  have HR := Lib.hid hr
  clear hr
  rcases Bool.eq_false_or_eq_true (staysB F n) with s1 | s1
  · have HS := Lib.hid s1
    clear s1
    go_enter Try.func60, Try.ntmps60
    go_wp2_with fail
    go_loopw [5] (fun i wr => ∃ m : Nat, m ≤ n ∧ i = .int .i64 m ∧ Below w.heap.size w wr ∧ Hid (∀ j, j < m → atB F t j = false)) (fun i _ => n - (intOf i).toNat)
    case atStart => exact ⟨0, Nat.zero_le _, rfl, Below.refl _ _, fun j hj => by omega⟩
    case round =>
      obtain ⟨m, hm, rfl, hbw, hF⟩ := hrel
      by_cases hlt : m < n
      · have hs := Lib.hid (fun w1 (h : Below w.heap.size w w1) => by have := sstaysOk_any A n cap F w1 hn (HR.out.kept h); rw [HS.out] at this; exact this : ∀ w1, Below w.heap.size w w1 → Calls Try.prog 17 #[.slice A n cap] w1 fun e w' => e = .returned (.bool true) ∧ Below w1.heap.size w1 w')
        obtain ⟨b, off, e, hb, c0, c1, c2⟩ := HR.out.at3 hlt
        have hmi : (m : Int) < (n : Int) := by omega
        have hm0 : (0 : Int) ≤ (m : Int) := by omega
        have hbs := hbw.size
        have HB := Lib.hid hbw
        have HBB := Lib.hid hb
        have C0 := Lib.hid c0
        have C1 := Lib.hid c1
        have C2 := Lib.hid c2
        have HE := Lib.hid e
        clear hbw hb c0 c1 c2 e
        go_wp2_with fail
        with_reducible refine (hs.out _ HB.out).mono ?_
        rintro e w1 ⟨rfl, hb1⟩
        have hbw := HB.out.trans (hb1.mono hbs)
        have hb := HBB.out
        have d0 := (hbw.cell (p := ⟨b, off + m * 3, none⟩) hb).trans C0.out
        have d1 := (hbw.cell (p := ⟨b, off + m * 3 + 1, none⟩) hb).trans C1.out
        have d2 := (hbw.cell (p := ⟨b, off + m * 3 + 2, none⟩) hb).trans C2.out
        obtain rfl := HE.out
        have HB1 := Lib.hid hbw
        clear hbw hb hb1 hs HB
        rcases Bool.eq_false_or_eq_true (decide (F m 1 ≤ t)) with k1 | k1
        · rcases Bool.eq_false_or_eq_true (decide (t < F m 2)) with k2 | k2
          · have hp : atB F t m = true := by simp only [atB, k1, k2, Bool.and_true]
            have e1 := Lib.hid (show (m : Int) = sstayAtI F n t by simp only [sstayAtI, HS.out, if_pos, stayAtI]; exact (findI_hit hF.out hlt hp).symm)
            go_wp2_with fail
            go_ret
            exact ⟨ret_int e1.out, HB1.out⟩
          · go_wp2_with fail
            go_roundw; (case rel => exact ⟨m + 1, by omega, by go_num, (by first | exact HB1.out | exact below_drewN HB1.out _), fun j hj => by  rcases Nat.lt_or_ge j m with h | h; exact hF.out j h; obtain rfl : j = m := (by omega); exact (by first | simp only [atB, k2, Bool.and_false] | simp only [atB, k1, Bool.false_and])⟩); (case measure => simp [intOf]; omega)
        · go_wp2_with fail
          go_roundw; (case rel => exact ⟨m + 1, by omega, by go_num, (by first | exact HB1.out | exact below_drewN HB1.out _), fun j hj => by  rcases Nat.lt_or_ge j m with h | h; exact hF.out j h; obtain rfl : j = m := (by omega); exact (by first | simp only [atB, k2, Bool.and_false] | simp only [atB, k1, Bool.false_and])⟩); (case measure => simp [intOf]; omega)
      · obtain rfl : m = n := by omega
        go_wp2
        go_ret
        exact ⟨ret_int (by simp only [sstayAtI, HS.out, if_pos, stayAtI]; exact (findI_none hF.out).symm), hbw⟩
  · go_enter Try.func60, Try.ntmps60
    go_wp2_with fail
    refine wp_loop_rounds 1 ?_
    rw [rounds_succ]
    by_cases hz : 0 < n
    · go_wp2_with (go_at_call 17; (with_reducible refine (sstaysOk_any A n cap F _ hn HR.out).mono ?_); rintro e w1 ⟨rfl, hb1⟩; obtain ⟨hc1, hf1⟩ := bcell hb1; (try simp only [World.size_drew] at hc1 hf1); have hz1 := hb1.size; (try simp at hz1); (try have q1_0 : w.heap.size < w1.heap.size := by omega); (try have q1_1 : w.heap.size + 1 < w1.heap.size := by omega); (try have q1_2 : w.heap.size + 2 < w1.heap.size := by omega); (try have q1_3 : w.heap.size + 3 < w1.heap.size := by omega); (try have q1_4 : w.heap.size + 4 < w1.heap.size := by omega); (try have q1_0_0 : w0.heap.size < w1.heap.size := by omega); (try have q1_0_1 : w0.heap.size + 1 < w1.heap.size := by omega); (try have q1_2_0 : w2.heap.size < w1.heap.size := by omega); (try have q1_2_1 : w2.heap.size + 1 < w1.heap.size := by omega); (try have q1_3_0 : w3.heap.size < w1.heap.size := by omega); (try have q1_3_1 : w3.heap.size + 1 < w1.heap.size := by omega); (try have q1_4_0 : w4.heap.size < w1.heap.size := by omega); (try have q1_4_1 : w4.heap.size + 1 < w1.heap.size := by omega); (try have q1_5_0 : w5.heap.size < w1.heap.size := by omega); (try have q1_5_1 : w5.heap.size + 1 < w1.heap.size := by omega); (try have q1_6_0 : w6.heap.size < w1.heap.size := by omega); (try have q1_6_1 : w6.heap.size + 1 < w1.heap.size := by omega); (try have u1_b : b < w1.heap.size := by omega); (try have u1_q : q < w1.heap.size := by omega); (try have u1_g : g < w1.heap.size := by omega); (try have u1_g1 : g1 < w1.heap.size := by omega); (try have u1_g2 : g2 < w1.heap.size := by omega); (try have u1_g3 : g3 < w1.heap.size := by omega); (try have u1_g4 : g4 < w1.heap.size := by omega); (try have u1_g5 : g5 < w1.heap.size := by omega))
      go_ret
      exact ⟨ret_int (by simp [sstayAtI, s1]), by (repeat (first | with_reducible exact Below.refl _ _ | with_reducible refine Below.drew ?_ | (with_reducible refine Below.alloc ?_ ?hsz _; case hsz => ((try simp) <;> (try omega))) | (with_reducible refine Below.setCell ?_ ?hsz _; case hsz => ((try simp) <;> (try omega))) | (with_reducible refine below_step (by with_reducible assumption) ?hsz ?_; case hsz => ((try simp) <;> (try omega)))))⟩
    · go_wp2
      go_ret
      exact ⟨ret_int (by simp [sstayAtI, s1]), by (repeat (first | with_reducible exact Below.refl _ _ | with_reducible refine Below.drew ?_ | (with_reducible refine Below.alloc ?_ ?hsz _; case hsz => ((try simp) <;> (try omega))) | (with_reducible refine Below.setCell ?_ ?hsz _; case hsz => ((try simp) <;> (try omega))) | (with_reducible refine below_step (by with_reducible assumption) ?hsz ?_; case hsz => ((try simp) <;> (try omega)))))⟩
theorem sfund_any (A : Option Addr) (n cap : Nat) (F : Nat → Nat → Int) (t : Int) (w : World) (hn : n ≤ 1048576) (hr : Recs w 3 A n F) :
    Calls Try.prog 23 #[.slice A n cap, .int .i64 t] w fun e w' => e = .returned (.int .i64 (fundI F n t)) ∧ Below w.heap.size w w' := by
  have HR := Lib.hid hr
  clear hr
  by_cases hs : staysB F n = true ∧ 0 ≤ stayAtI F n t
  · obtain ⟨s1, s2⟩ := hs
    rcases stayAt_cases F n t with h | ⟨k, h, hk⟩
    · omega
    have H := Lib.hid (fun w hr => by have := sstayAt_any A n cap F t w hn hr; rw [show sstayAtI F n t = k by simp [sstayAtI, s1, h]] at this; exact this : ∀ w, Recs w 3 A n F → Calls Try.prog 60 #[.slice A n cap, .int .i64 t] w fun e w' => e = .returned (.int .i64 k) ∧ Below w.heap.size w w')
    have hkn : (k : Int) < (n : Int) := by omega
    have hk0 : (0 : Int) ≤ (k : Int) := by omega
    obtain ⟨b, off, rfl, hb, c0, c1, c2⟩ := HR.out.at3 hk
    have e1 := Lib.hid (show F k 0 = fundI F n t by simp [fundI, s1, h])
    clear h s2 s1
    go_enter Try.func23, Try.ntmps23
    go_wp2_with (go_at_call 60; (with_reducible refine (H.out _ HR.out).mono ?_); rintro e w1 ⟨rfl, hb1⟩; obtain ⟨hc1, hf1⟩ := bcell hb1; (try simp only [World.size_drew] at hc1 hf1); have hz1 := hb1.size; (try simp at hz1); (try have q1_0 : w.heap.size < w1.heap.size := by omega); (try have q1_1 : w.heap.size + 1 < w1.heap.size := by omega); (try have q1_2 : w.heap.size + 2 < w1.heap.size := by omega); (try have q1_3 : w.heap.size + 3 < w1.heap.size := by omega); (try have q1_4 : w.heap.size + 4 < w1.heap.size := by omega); (try have q1_0_0 : w0.heap.size < w1.heap.size := by omega); (try have q1_0_1 : w0.heap.size + 1 < w1.heap.size := by omega); (try have q1_2_0 : w2.heap.size < w1.heap.size := by omega); (try have q1_2_1 : w2.heap.size + 1 < w1.heap.size := by omega); (try have q1_3_0 : w3.heap.size < w1.heap.size := by omega); (try have q1_3_1 : w3.heap.size + 1 < w1.heap.size := by omega); (try have q1_4_0 : w4.heap.size < w1.heap.size := by omega); (try have q1_4_1 : w4.heap.size + 1 < w1.heap.size := by omega); (try have q1_5_0 : w5.heap.size < w1.heap.size := by omega); (try have q1_5_1 : w5.heap.size + 1 < w1.heap.size := by omega); (try have q1_6_0 : w6.heap.size < w1.heap.size := by omega); (try have q1_6_1 : w6.heap.size + 1 < w1.heap.size := by omega); (try have u1_b : b < w1.heap.size := by omega); (try have u1_q : q < w1.heap.size := by omega); (try have u1_g : g < w1.heap.size := by omega); (try have u1_g1 : g1 < w1.heap.size := by omega); (try have u1_g2 : g2 < w1.heap.size := by omega); (try have u1_g3 : g3 < w1.heap.size := by omega); (try have u1_g4 : g4 < w1.heap.size := by omega); (try have u1_g5 : g5 < w1.heap.size := by omega))
    go_ret
    exact ⟨ret_int e1.out, by (repeat (first | with_reducible exact Below.refl _ _ | with_reducible refine Below.drew ?_ | (with_reducible refine Below.alloc ?_ ?hsz _; case hsz => ((try simp) <;> (try omega))) | (with_reducible refine Below.setCell ?_ ?hsz _; case hsz => ((try simp) <;> (try omega))) | (with_reducible refine below_step (by with_reducible assumption) ?hsz ?_; case hsz => ((try simp) <;> (try omega)))))⟩
  · have H := Lib.hid (fun w hr => by
      have := sstayAt_any A n cap F t w hn hr
      rw [show sstayAtI F n t = -1 by
        unfold sstayAtI
        split
        · rcases stayAt_cases F n t with h | ⟨k, h, hk⟩
          · exact h
          · rename_i s1; exact absurd ⟨s1, by omega⟩ hs
        · rfl] at this
      exact this : ∀ w, Recs w 3 A n F → Calls Try.prog 60 #[.slice A n cap, .int .i64 t] w fun e w' => e = .returned (.int .i64 (-1)) ∧ Below w.heap.size w w')
    have e1 := Lib.hid (show 0 = fundI F n t by unfold fundI; rw [if_neg hs])
    clear hs
    go_enter Try.func23, Try.ntmps23
    go_wp2_with (go_at_call 60; (with_reducible refine (H.out _ HR.out).mono ?_); rintro e w1 ⟨rfl, hb1⟩; obtain ⟨hc1, hf1⟩ := bcell hb1; (try simp only [World.size_drew] at hc1 hf1); have hz1 := hb1.size; (try simp at hz1); (try have q1_0 : w.heap.size < w1.heap.size := by omega); (try have q1_1 : w.heap.size + 1 < w1.heap.size := by omega); (try have q1_2 : w.heap.size + 2 < w1.heap.size := by omega); (try have q1_3 : w.heap.size + 3 < w1.heap.size := by omega); (try have q1_4 : w.heap.size + 4 < w1.heap.size := by omega); (try have q1_0_0 : w0.heap.size < w1.heap.size := by omega); (try have q1_0_1 : w0.heap.size + 1 < w1.heap.size := by omega); (try have q1_2_0 : w2.heap.size < w1.heap.size := by omega); (try have q1_2_1 : w2.heap.size + 1 < w1.heap.size := by omega); (try have q1_3_0 : w3.heap.size < w1.heap.size := by omega); (try have q1_3_1 : w3.heap.size + 1 < w1.heap.size := by omega); (try have q1_4_0 : w4.heap.size < w1.heap.size := by omega); (try have q1_4_1 : w4.heap.size + 1 < w1.heap.size := by omega); (try have q1_5_0 : w5.heap.size < w1.heap.size := by omega); (try have q1_5_1 : w5.heap.size + 1 < w1.heap.size := by omega); (try have q1_6_0 : w6.heap.size < w1.heap.size := by omega); (try have q1_6_1 : w6.heap.size + 1 < w1.heap.size := by omega); (try have u1_b : b < w1.heap.size := by omega); (try have u1_q : q < w1.heap.size := by omega); (try have u1_g : g < w1.heap.size := by omega); (try have u1_g1 : g1 < w1.heap.size := by omega); (try have u1_g2 : g2 < w1.heap.size := by omega); (try have u1_g3 : g3 < w1.heap.size := by omega); (try have u1_g4 : g4 < w1.heap.size := by omega); (try have u1_g5 : g5 < w1.heap.size := by omega))
    go_ret
    exact ⟨ret_int e1.out, by (repeat (first | with_reducible exact Below.refl _ _ | with_reducible refine Below.drew ?_ | (with_reducible refine Below.alloc ?_ ?hsz _; case hsz => ((try simp) <;> (try omega))) | (with_reducible refine Below.setCell ?_ ?hsz _; case hsz => ((try simp) <;> (try omega))) | (with_reducible refine below_step (by with_reducible assumption) ?hsz ?_; case hsz => ((try simp) <;> (try omega)))))⟩
end Go.Proofs.Ytogoddbkamgndaa
