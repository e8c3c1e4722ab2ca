/- Contracts of LastMonth, of the program and of the reference. -/
import Derived.Test.YtoebibgkpmppdaaHeirs
namespace Go.Proofs.Ytoebibgkpmppdaa
open Go.RowKit

def maxI (F : Nat → Nat → Int) : Nat → Int
  | 0 => 0
  | m + 1 => if maxI F m ≤ F m 2 then F m 2 else maxI F m
def lastI (F : Nat → Nat → Int) (n : Nat) : Int := if heirsB F n = true then maxI F n - 1 else -1
theorem maxI_bd {F : Nat → Nat → Int} {n : Nat} (h : heirsB F n = true) : ∀ {m : Nat}, m ≤ n → 0 ≤ maxI F m ∧ maxI F m ≤ 3600
  | 0, _ => by simp [maxI]
  | m + 1, hm => by
    have h1 := maxI_bd h (m := m) (by omega)
    have h2 := (heirB_true ((heirsB_true h).1 m (by omega))).2.2.1
    simp only [maxI]
    split <;> omega
set_option maxHeartbeats 2000000 in
theorem last_any (A : Option Addr) (n cap : Nat) (F : Nat → Nat → Int) (w : World) (hn : n ≤ 1048576) (hr : Recs w 4 A n F) :
    Calls Try.prog 23 #[.slice A n cap] w fun e w' => e = .returned (.int .i64 (lastI F n)) ∧ Below w.heap.size w w' := by
  have HR := Lib.hid hr
  clear hr
  rcases Bool.eq_false_or_eq_true (heirsB F n) with s1 | s1
  · have HS := Lib.hid s1
    go_enter Try.func23, Try.ntmps23
    go_wp2_with (go_at_call 14; (with_reducible refine (heirsOk_any A n cap F _ hn HR.out).mono ?_); rintro e w1 ⟨rfl, hb1⟩; obtain ⟨hc1, hf1⟩ := bcell hb1; (try simp only [World.size_drew] at hc1 hf1); have hz1 := hb1.size; (try simp at hz1); (try have q1_0 : w.heap.size < w1.heap.size := by omega); (try have q1_1 : w.heap.size + 1 < w1.heap.size := by omega); (try have q1_2 : w.heap.size + 2 < w1.heap.size := by omega); (try have q1_3 : w.heap.size + 3 < w1.heap.size := by omega); (try have q1_4 : w.heap.size + 4 < w1.heap.size := by omega); (try have q1_0_0 : w0.heap.size < w1.heap.size := by omega); (try have q1_0_1 : w0.heap.size + 1 < w1.heap.size := by omega); (try have q1_2_0 : w2.heap.size < w1.heap.size := by omega); (try have q1_2_1 : w2.heap.size + 1 < w1.heap.size := by omega); (try have q1_3_0 : w3.heap.size < w1.heap.size := by omega); (try have q1_3_1 : w3.heap.size + 1 < w1.heap.size := by omega); (try have q1_4_0 : w4.heap.size < w1.heap.size := by omega); (try have q1_4_1 : w4.heap.size + 1 < w1.heap.size := by omega); (try have q1_5_0 : w5.heap.size < w1.heap.size := by omega); (try have q1_5_1 : w5.heap.size + 1 < w1.heap.size := by omega); (try have q1_6_0 : w6.heap.size < w1.heap.size := by omega); (try have q1_6_1 : w6.heap.size + 1 < w1.heap.size := by omega); (try have u1_b : b < w1.heap.size := by omega); (try have u1_q : q < w1.heap.size := by omega); (try have u1_g : g < w1.heap.size := by omega); (try have u1_g1 : g1 < w1.heap.size := by omega); (try have u1_g2 : g2 < w1.heap.size := by omega); (try have u1_g3 : g3 < w1.heap.size := by omega); (try have u1_g4 : g4 < w1.heap.size := by omega); (try have u1_g5 : g5 < w1.heap.size := by omega))
    clear s1 hc1 hf1
    go_loopw [3, 11] (fun x i wr => ∃ m : Nat, m ≤ n ∧ i = .int .i64 m ∧ x = .int .i64 (maxI F m) ∧ Below w.heap.size w wr) (fun _ i _ => n - (intOf i).toNat)
    case atStart => exact ⟨0, Nat.zero_le _, rfl, rfl, hb1⟩
    case round =>
      clear hb1
      obtain ⟨m, hm, rfl, rfl, hbw⟩ := hrel
      obtain ⟨s0, s1⟩ := maxI_bd HS.out hm
      by_cases hlt : m < n
      · obtain ⟨b, off, rfl, hb, c0, c1, c2, c3⟩ := HR.out.at4 hlt
        have d0 := (hbw.cell (p := ⟨b, off + m * 4, none⟩) hb).trans c0
        have d1 := (hbw.cell (p := ⟨b, off + m * 4 + 1, none⟩) hb).trans c1
        have d2 := (hbw.cell (p := ⟨b, off + m * 4 + 2, none⟩) hb).trans c2
        have d3 := (hbw.cell (p := ⟨b, off + m * 4 + 3, none⟩) hb).trans c3
        have hmi : (m : Int) < (n : Int) := by omega
        have hm0 : (0 : Int) ≤ (m : Int) := by omega
        have HB := Lib.hid hbw
        have hbs := hbw.size
        have HM := Lib.hid (show maxI F (m + 1) = (if maxI F m < F m 2 then F m 2 else maxI F m) by
          simp only [maxI]
          split <;> split <;> omega)
        clear c0 c1 c2 c3 hbw hb
        go_wp2
        go_roundw
        case rel => exact ⟨m + 1, by omega, by go_num, (by rw [HM.out]), (by have hbw := HB.out; (repeat (first | with_reducible exact Below.refl _ _ | with_reducible refine Below.drew ?_ | (with_reducible refine Below.alloc ?_ ?hsz _; case hsz => ((try simp) <;> (try omega))) | (with_reducible refine Below.setCell ?_ ?hsz _; case hsz => ((try simp) <;> (try omega))) | (with_reducible refine below_step (by with_reducible assumption) ?hsz ?_; case hsz => ((try simp) <;> (try omega))))))⟩
        case measure => simp [intOf]; omega
      · obtain rfl : m = n := by omega
        go_wp2
        go_ret
        exact ⟨ret_int (by simp [lastI, HS.out]), hbw⟩
  · go_enter Try.func23, Try.ntmps23
    go_wp2_with (go_at_call 14; (with_reducible refine (heirsOk_any A n cap F _ hn HR.out).mono ?_); rintro e w1 ⟨rfl, hb1⟩; obtain ⟨hc1, hf1⟩ := bcell hb1; (try simp only [World.size_drew] at hc1 hf1); have hz1 := hb1.size; (try simp at hz1); (try have q1_0 : w.heap.size < w1.heap.size := by omega); (try have q1_1 : w.heap.size + 1 < w1.heap.size := by omega); (try have q1_2 : w.heap.size + 2 < w1.heap.size := by omega); (try have q1_3 : w.heap.size + 3 < w1.heap.size := by omega); (try have q1_4 : w.heap.size + 4 < w1.heap.size := by omega); (try have q1_0_0 : w0.heap.size < w1.heap.size := by omega); (try have q1_0_1 : w0.heap.size + 1 < w1.heap.size := by omega); (try have q1_2_0 : w2.heap.size < w1.heap.size := by omega); (try have q1_2_1 : w2.heap.size + 1 < w1.heap.size := by omega); (try have q1_3_0 : w3.heap.size < w1.heap.size := by omega); (try have q1_3_1 : w3.heap.size + 1 < w1.heap.size := by omega); (try have q1_4_0 : w4.heap.size < w1.heap.size := by omega); (try have q1_4_1 : w4.heap.size + 1 < w1.heap.size := by omega); (try have q1_5_0 : w5.heap.size < w1.heap.size := by omega); (try have q1_5_1 : w5.heap.size + 1 < w1.heap.size := by omega); (try have q1_6_0 : w6.heap.size < w1.heap.size := by omega); (try have q1_6_1 : w6.heap.size + 1 < w1.heap.size := by omega); (try have u1_b : b < w1.heap.size := by omega); (try have u1_q : q < w1.heap.size := by omega); (try have u1_g : g < w1.heap.size := by omega); (try have u1_g1 : g1 < w1.heap.size := by omega); (try have u1_g2 : g2 < w1.heap.size := by omega); (try have u1_g3 : g3 < w1.heap.size := by omega); (try have u1_g4 : g4 < w1.heap.size := by omega); (try have u1_g5 : g5 < w1.heap.size := by omega))
    go_ret
    exact ⟨ret_int (by simp [lastI, s1]), hb1⟩
set_option maxHeartbeats 2000000 in
theorem slast_any (A : Option Addr) (n cap : Nat) (F : Nat → Nat → Int) (w : World) (hn : n ≤ 1048576) (hr : Recs w 4 A n F) :
    Calls Try.prog 22 #[.slice A n cap] w fun e w' => e = .returned (.int .i64 (lastI F n)) ∧ Below w.heap.size w w' := by
  have HR := Lib.hid hr
  clear hr
  rcases Bool.eq_false_or_eq_true (heirsB F n) with s1 | s1
  · have HS := Lib.hid s1
    clear s1
    go_enter Try.func22, Try.ntmps22
    go_wp2_with fail
    go_loopw [3, 4] (fun x i wr => ∃ m : Nat, m ≤ n ∧ i = .int .i64 m ∧ x = .int .i64 (maxI F m - 1) ∧ Below w.heap.size w wr) (fun _ i _ => n - (intOf i).toNat)
    case atStart => exact ⟨0, Nat.zero_le _, rfl, rfl, Below.refl _ _⟩
    case round =>
      obtain ⟨m, hm, rfl, rfl, hbw⟩ := hrel
      obtain ⟨s0, s1⟩ := maxI_bd HS.out hm
      by_cases hlt : m < n
      · have hs := Lib.hid (fun w1 (h : Below w.heap.size w w1) => by have := sheirsOk_any A n cap F w1 hn (HR.out.kept h); rw [HS.out] at this; exact this : ∀ w1, Below w.heap.size w w1 → Calls Try.prog 12 #[.slice A n cap] w1 fun e w' => e = .returned (.bool true) ∧ Below w1.heap.size w1 w')
        obtain ⟨b, off, e, hb, c0, c1, c2, c3⟩ := HR.out.at4 hlt
        have hmi : (m : Int) < (n : Int) := by omega
        have hm0 : (0 : Int) ≤ (m : Int) := by omega
        have hbs := hbw.size
        obtain ⟨q0, q1⟩ := (heirB_true ((heirsB_true HS.out).1 m hlt)).2.2.1
        have HB := Lib.hid hbw
        have HBB := Lib.hid hb
        have C2 := Lib.hid c2
        have HE := Lib.hid e
        have HM := Lib.hid (show maxI F (m + 1) - 1 = (if maxI F m < F m 2 then F m 2 - 1 else maxI F m - 1) by
          simp only [maxI]
          split <;> split <;> omega)
        clear hbw hb c0 c1 c2 c3 e
        go_wp2_with fail
        with_reducible refine (hs.out _ HB.out).mono ?_
        rintro e w1 ⟨rfl, hb1⟩
        have hbw := HB.out.trans (hb1.mono hbs)
        have hb := HBB.out
        have d2 := (hbw.cell (p := ⟨b, off + m * 4 + 2, none⟩) hb).trans C2.out
        obtain rfl := HE.out
        have HB1 := Lib.hid hbw
        clear hbw hb hb1 hs HB
        go_wp2
        go_roundw
        case rel => exact ⟨m + 1, by omega, by go_num, (by rw [HM.out]), HB1.out⟩
        case measure => simp [intOf]; omega
      · obtain rfl : m = n := by omega
        go_wp2
        go_ret
        exact ⟨ret_int (by simp [lastI, HS.out]), hbw⟩
  · go_enter Try.func22, Try.ntmps22
    go_wp2_with fail
    refine wp_loop_rounds 1 ?_
    rw [rounds_succ]
    by_cases hz : 0 < n
    · go_wp2_with (go_at_call 12; (with_reducible refine (sheirsOk_any A n cap F _ hn HR.out).mono ?_); rintro e w1 ⟨rfl, hb1⟩; obtain ⟨hc1, hf1⟩ := bcell hb1; (try simp only [World.size_drew] at hc1 hf1); have hz1 := hb1.size; (try simp at hz1); (try have q1_0 : w.heap.size < w1.heap.size := by omega); (try have q1_1 : w.heap.size + 1 < w1.heap.size := by omega); (try have q1_2 : w.heap.size + 2 < w1.heap.size := by omega); (try have q1_3 : w.heap.size + 3 < w1.heap.size := by omega); (try have q1_4 : w.heap.size + 4 < w1.heap.size := by omega); (try have q1_0_0 : w0.heap.size < w1.heap.size := by omega); (try have q1_0_1 : w0.heap.size + 1 < w1.heap.size := by omega); (try have q1_2_0 : w2.heap.size < w1.heap.size := by omega); (try have q1_2_1 : w2.heap.size + 1 < w1.heap.size := by omega); (try have q1_3_0 : w3.heap.size < w1.heap.size := by omega); (try have q1_3_1 : w3.heap.size + 1 < w1.heap.size := by omega); (try have q1_4_0 : w4.heap.size < w1.heap.size := by omega); (try have q1_4_1 : w4.heap.size + 1 < w1.heap.size := by omega); (try have q1_5_0 : w5.heap.size < w1.heap.size := by omega); (try have q1_5_1 : w5.heap.size + 1 < w1.heap.size := by omega); (try have q1_6_0 : w6.heap.size < w1.heap.size := by omega); (try have q1_6_1 : w6.heap.size + 1 < w1.heap.size := by omega); (try have u1_b : b < w1.heap.size := by omega); (try have u1_q : q < w1.heap.size := by omega); (try have u1_g : g < w1.heap.size := by omega); (try have u1_g1 : g1 < w1.heap.size := by omega); (try have u1_g2 : g2 < w1.heap.size := by omega); (try have u1_g3 : g3 < w1.heap.size := by omega); (try have u1_g4 : g4 < w1.heap.size := by omega); (try have u1_g5 : g5 < w1.heap.size := by omega))
      go_ret
      exact ⟨ret_int (by simp [lastI, s1]), by (repeat (first | with_reducible exact Below.refl _ _ | with_reducible refine Below.drew ?_ | (with_reducible refine Below.alloc ?_ ?hsz _; case hsz => ((try simp) <;> (try omega))) | (with_reducible refine Below.setCell ?_ ?hsz _; case hsz => ((try simp) <;> (try omega))) | (with_reducible refine below_step (by with_reducible assumption) ?hsz ?_; case hsz => ((try simp) <;> (try omega)))))⟩
    · go_wp2
      go_ret
      exact ⟨ret_int (by simp [lastI, s1]), by (repeat (first | with_reducible exact Below.refl _ _ | with_reducible refine Below.drew ?_ | (with_reducible refine Below.alloc ?_ ?hsz _; case hsz => ((try simp) <;> (try omega))) | (with_reducible refine Below.setCell ?_ ?hsz _; case hsz => ((try simp) <;> (try omega))) | (with_reducible refine below_step (by with_reducible assumption) ?hsz ?_; case hsz => ((try simp) <;> (try omega)))))⟩
end Go.Proofs.Ytoebibgkpmppdaa
