/- Contracts of BookOk, of the program and of the reference. -/
import Derived.Test.YtgfcmeiffhffaaaRule
import Derived.Test.YtgfcmeiffhffaaaBox
namespace Go.Proofs.Ytgfcmeiffhffaaa
open Go.RowKit

def ruleV (R : Nat → Nat → Int) (NA : Nat → Option Addr) (Nn Nc : Nat → Nat) (i : Nat) : Nat → Value
  | 0 => .int .i64 (R i 0)
  | 1 => .int .i64 (R i 1)
  | 2 => .int .i64 (R i 2)
  | 3 => .int .i64 (R i 3)
  | 4 => .int .i64 (R i 4)
  | 5 => .int .i64 (R i 5)
  | _ => .slice (NA i) (Nn i) (Nc i)
/-- The first n rules from A on: six numbers and a row of nodes each. -/
structure Rules (w : World) (A : Option Addr) (n : Nat) (R : Nat → Nat → Int) (NA : Nat → Option Addr) (Nn Nc : Nat → Nat) (NF : Nat → Nat → Nat → Int) : Prop where
  row : RecV w 7 A n (ruleV R NA Nn Nc)
  nodes : ∀ i, i < n → Recs w 6 (NA i) (Nn i) (NF i)
  small : ∀ i, i < n → Nn i ≤ 1048576
section
variable {w w' : World} {A : Option Addr} {n : Nat} {R : Nat → Nat → Int} {NA : Nat → Option Addr} {Nn Nc : Nat → Nat} {NF : Nat → Nat → Nat → Int}
theorem Rules.kept (h : Rules w A n R NA Nn Nc NF) (hb : Below w.heap.size w w') : Rules w' A n R NA Nn Nc NF := ⟨h.row.kept hb, fun i hi => (h.nodes i hi).kept hb, h.small⟩
theorem Rules.alloc (h : Rules w A n R NA Nn Nc NF) (o : Obj) : Rules (w.alloc o) A n R NA Nn Nc NF := h.kept ((Below.refl _ _).alloc (Nat.le_refl _) o)
theorem Rules.drew (h : Rules w A n R NA Nn Nc NF) : Rules w.drew A n R NA Nn Nc NF := ⟨h.row.drew, fun i hi => (h.nodes i hi).drew, h.small⟩
theorem Rules.at7 (h : Rules w A n R NA Nn Nc NF) {i : Nat} (hi : i < n) : ∃ b off, A = some ⟨b, off, none⟩ ∧ b < w.heap.size ∧ w.cell? ⟨b, off + i * 7, none⟩ = some (.int .i64 (R i 0)) ∧ w.cell? ⟨b, off + i * 7 + 1, none⟩ = some (.int .i64 (R i 1)) ∧ w.cell? ⟨b, off + i * 7 + 2, none⟩ = some (.int .i64 (R i 2)) ∧ w.cell? ⟨b, off + i * 7 + 3, none⟩ = some (.int .i64 (R i 3)) ∧ w.cell? ⟨b, off + i * 7 + 4, none⟩ = some (.int .i64 (R i 4)) ∧ w.cell? ⟨b, off + i * 7 + 5, none⟩ = some (.int .i64 (R i 5)) ∧ w.cell? ⟨b, off + i * 7 + 6, none⟩ = some (.slice (NA i) (Nn i) (Nc i)) := by
  rcases h.row with h | ⟨b, off, e, hb, hc⟩
  · omega
  · exact ⟨b, off, e, hb, hc i hi 0 (by omega), hc i hi 1 (by omega), hc i hi 2 (by omega), hc i hi 3 (by omega), hc i hi 4 (by omega), hc i hi 5 (by omega), hc i hi 6 (by omega)⟩
end
def ruleAt (R : Nat → Nat → Int) (Nn : Nat → Nat) (NF : Nat → Nat → Nat → Int) (i : Nat) : Bool := ruleB (R i 0) (R i 1) (R i 2) (R i 3) (R i 4) (R i 5) (NF i) (Nn i)
/-- Do rules i and k clash? -/
def clash (R : Nat → Nat → Int) (i k : Nat) : Bool := (R k 0 == R i 0) && ((R k 4 == R i 4) && (decide (R k 1 < R i 2) && decide (R i 1 < R k 2)))
def bookAt (R : Nat → Nat → Int) (Nn : Nat → Nat) (NF : Nat → Nat → Nat → Int) (i : Nat) : Bool := ruleAt R Nn NF i && allB (fun k => !clash R i k) i
def bookB (R : Nat → Nat → Int) (Nn : Nat → Nat) (NF : Nat → Nat → Nat → Int) (n : Nat) : Bool := allB (bookAt R Nn NF) n && decide (n ≤ 20)
theorem bookB_bad {R : Nat → Nat → Int} {Nn : Nat → Nat} {NF : Nat → Nat → Nat → Int} {n m : Nat} (hm : m < n) (h : bookAt R Nn NF m = false) : bookB R Nn NF n = false := by simp [bookB, allB_false hm h]
theorem bookAt_clash {R : Nat → Nat → Int} {Nn : Nat → Nat} {NF : Nat → Nat → Nat → Int} {m k : Nat} (hk : k < m) (h : clash R m k = true) : bookAt R Nn NF m = false := by
  have : allB (fun k => !clash R m k) m = false := allB_false hk (by simp [h])
  simp [bookAt, this]
theorem bookAt_good {R : Nat → Nat → Int} {Nn : Nat → Nat} {NF : Nat → Nat → Nat → Int} {m : Nat} (h : ruleAt R Nn NF m = true) (hc : ∀ k, k < m → clash R m k = false) : bookAt R Nn NF m = true := by
  have : allB (fun k => !clash R m k) m = true := allB_iff.2 fun k hk => by simp [hc k hk]
  simp [bookAt, h, this]
set_option maxRecDepth 100000 in
set_option maxHeartbeats 8000000 in
theorem bookOk_any (A : Option Addr) (n cap : Nat) (R : Nat → Nat → Int) (NA : Nat → Option Addr) (Nn Nc : Nat → Nat) (NF : Nat → Nat → Nat → Int) (w : World) (hn : n ≤ 1048576) (hcap : n ≤ cap) (hr : Rules w A n R NA Nn Nc NF) :
    Calls Try.prog 42 #[.agg #[.slice A n cap]] w fun e w' => e = .returned (.bool (bookB R Nn NF n)) ∧ Below w.heap.size w w' := by
  have HR := Lib.hid hr
  clear hr
  go_enter Try.func42, Try.ntmps42
  go_wp2_with fail
  go_loopw [10] (fun i wr => ∃ m : Nat, m ≤ n ∧ i = .int .i64 m ∧ Below w.heap.size w wr ∧ Box wr w.heap.size 50 #[.slice A n cap] ∧ Hid (∀ i, i < m → bookAt R Nn NF i = true)) (fun i _ => n - (intOf i).toNat)
  case atStart => exact ⟨0, Nat.zero_le _, rfl, by (repeat (first | with_reducible exact Below.refl _ _ | with_reducible refine Below.drew ?_ | (with_reducible refine Below.alloc ?_ ?hsz _; case hsz => ((try simp) <;> (try omega))) | (with_reducible refine Below.setCell ?_ ?hsz _; case hsz => ((try simp) <;> (try omega))) | (with_reducible refine below_step (by with_reducible assumption) ?hsz ?_; case hsz => ((try simp) <;> (try omega))))), by (repeat (first | with_reducible assumption | with_reducible exact Box.made _ _ _ | (with_reducible refine Box.made_at ?hg; case hg => (simp; done)) | with_reducible refine Box.drew ?_ | with_reducible refine Box.alloc ?_ _ | (with_reducible refine Box.put2 (a := .int .i64 0) (b := .int .i64 0) ?_ _ _) | (with_reducible refine Box.far ?_ ?hg _; case hg => ((try simp) <;> (try omega))) | with_reducible refine Box.kept ?_ (by with_reducible assumption))), fun i hi => by omega⟩
  case round =>
    obtain ⟨m, hm, rfl, hbw, x1, hF⟩ := hrel
    have t1 := x1.cell 0
    have l1 := x1.lt
    have HB := Lib.hid hbw
    have X1 := Lib.hid x1
    have zb := hbw.size
    by_cases hlt : m < n
    · obtain ⟨b, off, e, hb, c0, c1, c2, c3, c4, c5, c6⟩ := HR.out.at7 hlt
      have d0 := (hbw.cell (p := ⟨b, off + m * 7, none⟩) hb).trans c0
      have d1 := (hbw.cell (p := ⟨b, off + m * 7 + 1, none⟩) hb).trans c1
      have d2 := (hbw.cell (p := ⟨b, off + m * 7 + 2, none⟩) hb).trans c2
      have d3 := (hbw.cell (p := ⟨b, off + m * 7 + 3, none⟩) hb).trans c3
      have d4 := (hbw.cell (p := ⟨b, off + m * 7 + 4, none⟩) hb).trans c4
      have d5 := (hbw.cell (p := ⟨b, off + m * 7 + 5, none⟩) hb).trans c5
      have d6 := (hbw.cell (p := ⟨b, off + m * 7 + 6, none⟩) hb).trans c6
      have RN := Lib.hid (((HR.out.nodes m hlt).kept hbw).alloc (.cells #[.int .i64 (R m 0), .int .i64 (R m 1), .int .i64 (R m 2), .int .i64 (R m 3), .int .i64 (R m 4), .int .i64 (R m 5), .slice (NA m) (Nn m) (Nc m)] 119))
      have HSm := Lib.hid (HR.out.small m hlt)
      have hmi : (m : Int) < (n : Int) := by omega
      have hm0 : (0 : Int) ≤ (m : Int) := by omega
      have hmc : m ≤ cap := by omega
      have hmc' : (m : Int) ≤ (cap : Int) := by omega
      subst e
      clear c0 c1 c2 c3 c4 c5 c6 hb hbw x1
      rcases Bool.eq_false_or_eq_true (ruleAt R Nn NF m) with k1 | k1
      · have k2 : ruleB (R m 0) (R m 1) (R m 2) (R m 3) (R m 4) (R m 5) (NF m) (Nn m) = true := k1
        have K := Lib.hid k1
        clear k1
        go_wp2_with (go_at_call 73; (with_reducible refine (ruleOk_any (R m 0) (R m 1) (R m 2) (R m 3) (R m 4) (R m 5) (NA m) (Nn m) (Nc m) (NF m) _ HSm.out RN.out).mono ?_); rintro e w1 ⟨rfl, hb1⟩; obtain ⟨hc1, hf1⟩ := bcell hb1; (try simp only [World.size_drew] at hc1 hf1); have hz1 := hb1.size; (try simp at hz1); (try have q1_0 : w.heap.size < w1.heap.size := by omega); (try have q1_1 : w.heap.size + 1 < w1.heap.size := by omega); (try have q1_2 : w.heap.size + 2 < w1.heap.size := by omega); (try have q1_3 : w.heap.size + 3 < w1.heap.size := by omega); (try have q1_4 : w.heap.size + 4 < w1.heap.size := by omega); (try have q1_0_0 : w0.heap.size < w1.heap.size := by omega); (try have q1_0_1 : w0.heap.size + 1 < w1.heap.size := by omega); (try have q1_2_0 : w2.heap.size < w1.heap.size := by omega); (try have q1_2_1 : w2.heap.size + 1 < w1.heap.size := by omega); (try have q1_3_0 : w3.heap.size < w1.heap.size := by omega); (try have q1_3_1 : w3.heap.size + 1 < w1.heap.size := by omega); (try have q1_4_0 : w4.heap.size < w1.heap.size := by omega); (try have q1_4_1 : w4.heap.size + 1 < w1.heap.size := by omega); (try have q1_5_0 : w5.heap.size < w1.heap.size := by omega); (try have q1_5_1 : w5.heap.size + 1 < w1.heap.size := by omega); (try have q1_6_0 : w6.heap.size < w1.heap.size := by omega); (try have q1_6_1 : w6.heap.size + 1 < w1.heap.size := by omega); (try have u1_b : b < w1.heap.size := by omega); (try have u1_q : q < w1.heap.size := by omega); (try have u1_g : g < w1.heap.size := by omega); (try have u1_g1 : g1 < w1.heap.size := by omega); (try have u1_g2 : g2 < w1.heap.size := by omega); (try have u1_g3 : g3 < w1.heap.size := by omega); (try have u1_g4 : g4 < w1.heap.size := by omega); (try have u1_g5 : g5 < w1.heap.size := by omega))
        have B1 := Lib.hid (show Below w.heap.size w w1 by have hbw := HB.out; (repeat (first | with_reducible exact Below.refl _ _ | with_reducible refine Below.drew ?_ | (with_reducible refine Below.alloc ?_ ?hsz _; case hsz => ((try simp) <;> (try omega))) | (with_reducible refine Below.setCell ?_ ?hsz _; case hsz => ((try simp) <;> (try omega))) | (with_reducible refine below_step (by with_reducible assumption) ?hsz ?_; case hsz => ((try simp) <;> (try omega))))))
        have Y1 := Lib.hid ((X1.out.alloc (.cells #[.int .i64 (R m 0), .int .i64 (R m 1), .int .i64 (R m 2), .int .i64 (R m 3), .int .i64 (R m 4), .int .i64 (R m 5), .slice (NA m) (Nn m) (Nc m)] 119)).kept hb1)
        have Y4 := Lib.hid ((Box.made wr 119 #[.int .i64 (R m 0), .int .i64 (R m 1), .int .i64 (R m 2), .int .i64 (R m 3), .int .i64 (R m 4), .int .i64 (R m 5), .slice (NA m) (Nn m) (Nc m)]).kept hb1)
        clear hb1 hc1 hf1 X1 HB RN d0 d1 d2 d3 d4 d5 d6 t1 l1
        obtain ⟨wo, rfl⟩ : ∃ wo : World, wo = wr := ⟨_, rfl⟩
        have t1 := Y1.out.cell 0
        have l1 := Y1.out.lt
        go_wp2_with fail
        go_loopw [23] (fun i ws => ∃ j : Nat, j ≤ m ∧ i = .int .i64 j ∧ Below w.heap.size w ws ∧ Box ws w.heap.size 50 #[.slice (some ⟨b, off, none⟩) n cap] ∧ Box ws wo.heap.size 119 #[.int .i64 (R m 0), .int .i64 (R m 1), .int .i64 (R m 2), .int .i64 (R m 3), .int .i64 (R m 4), .int .i64 (R m 5), .slice (NA m) (Nn m) (Nc m)] ∧ Hid (∀ k, k < j → clash R m k = false)) (fun i _ => m - (intOf i).toNat)
        case atStart => exact ⟨0, Nat.zero_le _, rfl, B1.out, Y1.out, Y4.out, fun k hk => by omega⟩
        case round =>
          clear B1 Y1 Y4
          obtain ⟨j, hj, rfl, hbw, y1, y4, hC⟩ := hrel
          have zb2 := hbw.size
          by_cases hjl : j < m
          · obtain ⟨b', off', e, hb, c0, c1, c2, c3, c4, c5, c6⟩ := HR.out.at7 (show j < n by omega)
            cases e
            have d0 := (hbw.cell (p := ⟨b, off + j * 7, none⟩) hb).trans c0
            have d1 := (hbw.cell (p := ⟨b, off + j * 7 + 1, none⟩) hb).trans c1
            have d2 := (hbw.cell (p := ⟨b, off + j * 7 + 2, none⟩) hb).trans c2
            have d3 := (hbw.cell (p := ⟨b, off + j * 7 + 3, none⟩) hb).trans c3
            have d4 := (hbw.cell (p := ⟨b, off + j * 7 + 4, none⟩) hb).trans c4
            have d5 := (hbw.cell (p := ⟨b, off + j * 7 + 5, none⟩) hb).trans c5
            have d6 := (hbw.cell (p := ⟨b, off + j * 7 + 6, none⟩) hb).trans c6
            have f0 := y4.cell 0
            have f1 := y4.cell 1
            have f2 := y4.cell 2
            have f4 := y4.cell 4
            have l4 := y4.lt
            have hji : (j : Int) < (m : Int) := by omega
            have hj0 : (0 : Int) ≤ (j : Int) := by omega
            have HB2 := Lib.hid hbw
            have Y1 := Lib.hid y1
            have Y4 := Lib.hid y4
            clear c0 c1 c2 c3 c4 c5 c6 hb hbw y1 y4
            rcases Bool.eq_false_or_eq_true (R j 0 == R m 0) with a1 | a1
            · rcases Bool.eq_false_or_eq_true (R j 4 == R m 4) with a2 | a2
              · rcases Bool.eq_false_or_eq_true (decide (R j 1 < R m 2)) with a3 | a3
                · rcases Bool.eq_false_or_eq_true (decide (R m 1 < R j 2)) with a4 | a4
                  · have KC := Lib.hid (show clash R m j = true by simp only [clash, a1, a2, a3, a4, Bool.and_self])
                    go_wp2_with fail
                    go_ret
                    exact ⟨ret_bool (bookB_bad hlt (bookAt_clash hjl KC.out)).symm, by have hbw := HB2.out; (repeat (first | with_reducible exact Below.refl _ _ | with_reducible refine Below.drew ?_ | (with_reducible refine Below.alloc ?_ ?hsz _; case hsz => ((try simp) <;> (try omega))) | (with_reducible refine Below.setCell ?_ ?hsz _; case hsz => ((try simp) <;> (try omega))) | (with_reducible refine below_step (by with_reducible assumption) ?hsz ?_; case hsz => ((try simp) <;> (try omega)))))⟩
                  · have KC := Lib.hid (show clash R m j = false by simp only [clash, a4, Bool.and_false])
                    go_wp2_with fail; go_roundw; (case rel => exact ⟨j + 1, by omega, by go_num, (by have hbw := HB2.out; (repeat (first | with_reducible exact Below.refl _ _ | with_reducible refine Below.drew ?_ | (with_reducible refine Below.alloc ?_ ?hsz _; case hsz => ((try simp) <;> (try omega))) | (with_reducible refine Below.setCell ?_ ?hsz _; case hsz => ((try simp) <;> (try omega))) | (with_reducible refine below_step (by with_reducible assumption) ?hsz ?_; case hsz => ((try simp) <;> (try omega)))))), Y1.out.alloc _, Y4.out.alloc _, fun k hk => by rcases Nat.lt_or_ge k j with h | h; exact hC.out k h; obtain rfl : k = j := (by omega); exact KC.out⟩); (case measure => simp [intOf]; omega)
                · have KC := Lib.hid (show clash R m j = false by simp only [clash, a3, Bool.false_and, Bool.and_false])
                  go_wp2_with fail; go_roundw; (case rel => exact ⟨j + 1, by omega, by go_num, (by have hbw := HB2.out; (repeat (first | with_reducible exact Below.refl _ _ | with_reducible refine Below.drew ?_ | (with_reducible refine Below.alloc ?_ ?hsz _; case hsz => ((try simp) <;> (try omega))) | (with_reducible refine Below.setCell ?_ ?hsz _; case hsz => ((try simp) <;> (try omega))) | (with_reducible refine below_step (by with_reducible assumption) ?hsz ?_; case hsz => ((try simp) <;> (try omega)))))), Y1.out.alloc _, Y4.out.alloc _, fun k hk => by rcases Nat.lt_or_ge k j with h | h; exact hC.out k h; obtain rfl : k = j := (by omega); exact KC.out⟩); (case measure => simp [intOf]; omega)
              · have KC := Lib.hid (show clash R m j = false by simp only [clash, a2, Bool.false_and, Bool.and_false])
                go_wp2_with fail; go_roundw; (case rel => exact ⟨j + 1, by omega, by go_num, (by have hbw := HB2.out; (repeat (first | with_reducible exact Below.refl _ _ | with_reducible refine Below.drew ?_ | (with_reducible refine Below.alloc ?_ ?hsz _; case hsz => ((try simp) <;> (try omega))) | (with_reducible refine Below.setCell ?_ ?hsz _; case hsz => ((try simp) <;> (try omega))) | (with_reducible refine below_step (by with_reducible assumption) ?hsz ?_; case hsz => ((try simp) <;> (try omega)))))), Y1.out.alloc _, Y4.out.alloc _, fun k hk => by rcases Nat.lt_or_ge k j with h | h; exact hC.out k h; obtain rfl : k = j := (by omega); exact KC.out⟩); (case measure => simp [intOf]; omega)
            · have KC := Lib.hid (show clash R m j = false by simp only [clash, a1, Bool.false_and])
              go_wp2_with fail; go_roundw; (case rel => exact ⟨j + 1, by omega, by go_num, (by have hbw := HB2.out; (repeat (first | with_reducible exact Below.refl _ _ | with_reducible refine Below.drew ?_ | (with_reducible refine Below.alloc ?_ ?hsz _; case hsz => ((try simp) <;> (try omega))) | (with_reducible refine Below.setCell ?_ ?hsz _; case hsz => ((try simp) <;> (try omega))) | (with_reducible refine below_step (by with_reducible assumption) ?hsz ?_; case hsz => ((try simp) <;> (try omega)))))), Y1.out.alloc _, Y4.out.alloc _, fun k hk => by rcases Nat.lt_or_ge k j with h | h; exact hC.out k h; obtain rfl : k = j := (by omega); exact KC.out⟩); (case measure => simp [intOf]; omega)
          · obtain rfl : m = j := by omega
            have HK := Lib.hid (bookAt_good K.out hC.out)
            go_wp2
            go_roundw
            case rel => exact ⟨m + 1, by omega, by go_num, hbw, y1, allT_snoc hF.out HK.out⟩
            case measure => simp [intOf]; omega
      · have k2 : ruleB (R m 0) (R m 1) (R m 2) (R m 3) (R m 4) (R m 5) (NF m) (Nn m) = false := k1
        have K := Lib.hid (show bookAt R Nn NF m = false by simp only [bookAt, k1, Bool.false_and])
        clear k1
        go_wp2_with (go_at_call 73; (with_reducible refine (ruleOk_any (R m 0) (R m 1) (R m 2) (R m 3) (R m 4) (R m 5) (NA m) (Nn m) (Nc m) (NF m) _ HSm.out RN.out).mono ?_); rintro e w1 ⟨rfl, hb1⟩; obtain ⟨hc1, hf1⟩ := bcell hb1; (try simp only [World.size_drew] at hc1 hf1); have hz1 := hb1.size; (try simp at hz1); (try have q1_0 : w.heap.size < w1.heap.size := by omega); (try have q1_1 : w.heap.size + 1 < w1.heap.size := by omega); (try have q1_2 : w.heap.size + 2 < w1.heap.size := by omega); (try have q1_3 : w.heap.size + 3 < w1.heap.size := by omega); (try have q1_4 : w.heap.size + 4 < w1.heap.size := by omega); (try have q1_0_0 : w0.heap.size < w1.heap.size := by omega); (try have q1_0_1 : w0.heap.size + 1 < w1.heap.size := by omega); (try have q1_2_0 : w2.heap.size < w1.heap.size := by omega); (try have q1_2_1 : w2.heap.size + 1 < w1.heap.size := by omega); (try have q1_3_0 : w3.heap.size < w1.heap.size := by omega); (try have q1_3_1 : w3.heap.size + 1 < w1.heap.size := by omega); (try have q1_4_0 : w4.heap.size < w1.heap.size := by omega); (try have q1_4_1 : w4.heap.size + 1 < w1.heap.size := by omega); (try have q1_5_0 : w5.heap.size < w1.heap.size := by omega); (try have q1_5_1 : w5.heap.size + 1 < w1.heap.size := by omega); (try have q1_6_0 : w6.heap.size < w1.heap.size := by omega); (try have q1_6_1 : w6.heap.size + 1 < w1.heap.size := by omega); (try have u1_b : b < w1.heap.size := by omega); (try have u1_q : q < w1.heap.size := by omega); (try have u1_g : g < w1.heap.size := by omega); (try have u1_g1 : g1 < w1.heap.size := by omega); (try have u1_g2 : g2 < w1.heap.size := by omega); (try have u1_g3 : g3 < w1.heap.size := by omega); (try have u1_g4 : g4 < w1.heap.size := by omega); (try have u1_g5 : g5 < w1.heap.size := by omega))
        go_ret
        exact ⟨ret_bool (bookB_bad hlt K.out).symm, (by have hbw := HB.out; (repeat (first | with_reducible exact Below.refl _ _ | with_reducible refine Below.drew ?_ | (with_reducible refine Below.alloc ?_ ?hsz _; case hsz => ((try simp) <;> (try omega))) | (with_reducible refine Below.setCell ?_ ?hsz _; case hsz => ((try simp) <;> (try omega))) | (with_reducible refine below_step (by with_reducible assumption) ?hsz ?_; case hsz => ((try simp) <;> (try omega))))))⟩
    · obtain rfl : n = m := by omega
      have HE := Lib.hid (show bookB R Nn NF n = decide (n ≤ 20) by simp only [bookB, allB_iff.2 hF.out, Bool.true_and])
      clear hbw x1
      go_wp2_with fail
      go_ret
      exact ⟨ret_bool (by rw [HE.out]; first | rfl | (simp; done) | (rw [Bool.eq_iff_iff]; simp; omega)), HB.out⟩
end Go.Proofs.Ytgfcmeiffhffaaa
