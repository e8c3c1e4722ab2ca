/- Contracts of the laws' helpers over slices of Node: size, copy, compare, mark, held. -/
import Derived.Deep.OwnRows
import Derived.BigQuiet
import Derived.Outline
import Derived.Deep.RegionHeld3
import Derived.Test.YtgfcmeiffhffaaaJRecMore
namespace Go.Proofs.Ytgfcmeiffhffaaa
open Go.RowKit

theorem toFrac_any (x0 x1 : Int) (w : World) : Calls Try.prog 151 #[.agg #[.int .i64 x0, .int .i64 x1]] w fun e w' => e = .returned (.agg #[.int .i64 x0, .int .i64 x1]) ∧ Below w.heap.size w w' := by
  go_enter Try.func151, Try.ntmps151
  go_wp2
  refine bodyPost_ret (v := .agg #[.int .i64 x0, .int .i64 x1]) (by simp [results, Try.results151, go_sem, *]) rfl ⟨rfl, by (repeat (first | with_reducible exact Below.refl _ _ | with_reducible refine Below.drew ?_ | (with_reducible refine Below.alloc ?_ ?hsz _; case hsz => ((try simp) <;> (try omega))) | (with_reducible refine Below.setCell ?_ ?hsz _; case hsz => ((try simp) <;> (try omega))) | (with_reducible refine below_step (by with_reducible assumption) ?hsz ?_; case hsz => ((try simp) <;> (try omega)))))⟩
theorem eqFrac_same (x0 x1 : Int) (w : World) : Calls Try.prog 152 #[.agg #[.int .i64 x0, .int .i64 x1], .agg #[.int .i64 x0, .int .i64 x1]] w fun e w' => e = .returned (.bool true) ∧ Below w.heap.size w w' := by
  go_enter Try.func152, Try.ntmps152
  go_wp2_with fail
  go_ret
  exact ⟨rfl, by (repeat (first | with_reducible exact Below.refl _ _ | with_reducible refine Below.drew ?_ | (with_reducible refine Below.alloc ?_ ?hsz _; case hsz => ((try simp) <;> (try omega))) | (with_reducible refine Below.setCell ?_ ?hsz _; case hsz => ((try simp) <;> (try omega))) | (with_reducible refine below_step (by with_reducible assumption) ?hsz ?_; case hsz => ((try simp) <;> (try omega)))))⟩
theorem infNode : (Try.prog.info? 175).map (fun i => (i.zero, i.size, i.bytes)) = some (some (.agg #[.int .i64 0, .int .i64 0, .int .i64 0, .int .i64 0, .int .i64 0, .int .i64 0]), 6, 48) := by kernel_rfl
theorem toNode_any (x0 x1 x2 x3 x4 x5 : Int) (w : World) : Calls Try.prog 139 #[.agg #[.int .i64 x0, .int .i64 x1, .int .i64 x2, .int .i64 x3, .int .i64 x4, .int .i64 x5]] w fun e w' => e = .returned (.agg #[.int .i64 x0, .int .i64 x1, .int .i64 x2, .int .i64 x3, .int .i64 x4, .int .i64 x5]) ∧ Below w.heap.size w w' := by
  go_enter Try.func139, Try.ntmps139
  go_wp2_with fail
  with_reducible refine (toFrac_any x4 x5 _).mono ?_
  rintro e w1 ⟨rfl, hb1⟩
  have y3 : Box w1 (w.heap.size + 1 + 1) 175 #[.int .i64 x0, .int .i64 x1, .int .i64 x2, .int .i64 x3, .int .i64 0, .int .i64 0] := by (repeat (first | with_reducible assumption | with_reducible exact Box.made _ _ _ | (with_reducible refine Box.made_at ?hg; case hg => (simp; done)) | with_reducible refine Box.drew ?_ | with_reducible refine Box.alloc ?_ _ | (with_reducible refine Box.put2 (a := .int .i64 0) (b := .int .i64 0) ?_ _ _) | (with_reducible refine Box.far ?_ ?hg _; case hg => ((try simp) <;> (try omega))) | with_reducible refine Box.kept ?_ (by with_reducible assumption)))
  have y2 : Box w1 (w.heap.size + 1) 175 #[.int .i64 0, .int .i64 0, .int .i64 0, .int .i64 0, .int .i64 0, .int .i64 0] := by (repeat (first | with_reducible assumption | with_reducible exact Box.made _ _ _ | (with_reducible refine Box.made_at ?hg; case hg => (simp; done)) | with_reducible refine Box.drew ?_ | with_reducible refine Box.alloc ?_ _ | (with_reducible refine Box.put2 (a := .int .i64 0) (b := .int .i64 0) ?_ _ _) | (with_reducible refine Box.far ?_ ?hg _; case hg => ((try simp) <;> (try omega))) | with_reducible refine Box.kept ?_ (by with_reducible assumption)))
  have B1 : Below w.heap.size w w1 := by (repeat (first | with_reducible exact Below.refl _ _ | with_reducible refine Below.drew ?_ | (with_reducible refine Below.alloc ?_ ?hsz _; case hsz => ((try simp) <;> (try omega))) | (with_reducible refine Below.setCell ?_ ?hsz _; case hsz => ((try simp) <;> (try omega))) | (with_reducible refine below_step (by with_reducible assumption) ?hsz ?_; case hsz => ((try simp) <;> (try omega)))))
  have hz1 := hb1.size
  simp only [World.size_alloc] at hz1
  have p0 := y3.cell 0
  have q0 := y2.cell 0
  have e0 := y3.frozen 0
  have f0 := y2.frozen 0
  have p1 := y3.cell 1
  have q1 := y2.cell 1
  have e1 := y3.frozen 1
  have f1 := y2.frozen 1
  have p2 := y3.cell 2
  have q2 := y2.cell 2
  have e2 := y3.frozen 2
  have f2 := y2.frozen 2
  have p3 := y3.cell 3
  have q3 := y2.cell 3
  have e3 := y3.frozen 3
  have f3 := y2.frozen 3
  have p4 := y3.cell 4
  have q4 := y2.cell 4
  have e4 := y3.frozen 4
  have f4 := y2.frozen 4
  have p5 := y3.cell 5
  have q5 := y2.cell 5
  have e5 := y3.frozen 5
  have f5 := y2.frozen 5
  have hb1' := Lib.hid hb1
  clear hb1 y2 y3
  go_wp2
  refine bodyPost_ret (v := .agg #[.int .i64 x0, .int .i64 x1, .int .i64 x2, .int .i64 x3, .int .i64 x4, .int .i64 x5]) (by simp [results, Try.results139, go_sem, *]) rfl ⟨rfl, by (repeat (first | with_reducible exact Below.refl _ _ | with_reducible refine Below.drew ?_ | (with_reducible refine Below.alloc ?_ ?hsz _; case hsz => ((try simp) <;> (try omega))) | (with_reducible refine Below.setCell ?_ ?hsz _; case hsz => ((try simp) <;> (try omega))) | (with_reducible refine below_step (by with_reducible assumption) ?hsz ?_; case hsz => ((try simp) <;> (try omega)))))⟩
theorem szNodeS_any (A : Option Addr) (n cap : Nat) (left : Int) (w : World) (hn : n ≤ 9223372036854775807) (l0 : 0 ≤ left) (l1 : left ≤ 1048576) : Calls Try.prog 124 #[.slice A n cap, .int .i64 left] w fun e w' => e = .returned (.int .i64 (if left < n then -1 else left - n)) ∧ w = w' := by
  by_cases h : left < n
  · rw [if_pos h]
    go_enter Try.func124, Try.ntmps124
    go_wp2
    go_ret
    exact ⟨rfl, rfl⟩
  · rw [if_neg h]
    go_enter Try.func124, Try.ntmps124
    go_wp2
    go_ret
    exact ⟨rfl, rfl⟩
set_option maxHeartbeats 1000000 in
theorem toNodeS_any (A : Option Addr) (n cap : Nat) (F : Nat → Nat → Int) (w : World) (hn : n ≤ 1048576) (hr : Recs w 6 A n F) : Calls Try.prog 126 #[.slice A n cap] w (RecsQ 175 6 n F w) := by
  have hmk := run_make_recs (P := Try.prog) 117 175 (.agg #[.int .i64 0, .int .i64 0, .int .i64 0, .int .i64 0, .int .i64 0, .int .i64 0]) 48 6 Try.underlying117 infNode .i64 .i64 n (by omega) (by omega)
  have HR := Lib.hid hr
  clear hr
  go_enter Try.func126, Try.ntmps126
  go_wp2_with fail
  clear hmk
  go_loopw [4] (fun i wr => ∃ (m : Nat) (cs : Array Value), m ≤ n ∧ i = .int .i64 m ∧ Below w.heap.size w wr ∧ Box wr w.heap.size 175 cs ∧ cs.size = n * 6 ∧ Hid (∀ i, i < m → ∀ j, j < 6 → cs[i * 6 + j]? = some (.int .i64 (F i j)))) (fun i _ => n - (intOf i).toNat)
  case atStart => exact ⟨0, _, Nat.zero_le _, rfl, (Below.refl _ _).alloc (Nat.le_refl _) _, Box.made _ _ _, size_madeCells _ _, fun i hi => by omega⟩
  case round =>
    obtain ⟨m, cs, hm, rfl, hbw, y1, hcs, hF⟩ := hrel
    by_cases hlt : m < n
    · obtain ⟨b, off, rfl, hb, c0, c1, c2, c3, c4, c5⟩ := HR.out.at6 hlt
      have d0 := (hbw.cell (p := ⟨b, off + m * 6, none⟩) hb).trans c0
      have d1 := (hbw.cell (p := ⟨b, off + m * 6 + 1, none⟩) hb).trans c1
      have d2 := (hbw.cell (p := ⟨b, off + m * 6 + 2, none⟩) hb).trans c2
      have d3 := (hbw.cell (p := ⟨b, off + m * 6 + 3, none⟩) hb).trans c3
      have d4 := (hbw.cell (p := ⟨b, off + m * 6 + 4, none⟩) hb).trans c4
      have d5 := (hbw.cell (p := ⟨b, off + m * 6 + 5, none⟩) hb).trans c5
      have hmi : (m : Int) < (n : Int) := by omega
      have hm0 : (0 : Int) ≤ (m : Int) := by omega
      have HY := Lib.hid y1
      have HS := Lib.hid hcs
      have HB := Lib.hid hb
      have ls := y1.lt
      clear c0 c1 c2 c3 c4 c5 hcs hb y1
      go_wp2_with fail
      with_reducible refine (toNode_any (F m 0) (F m 1) (F m 2) (F m 3) (F m 4) (F m 5) _).mono ?_
      rintro e w1 ⟨rfl, hb1⟩
      have y1 := HY.out.kept hb1
      have hbw1 := hbw.trans (hb1.mono hbw.size)
      have hcs := HS.out
      obtain ⟨old0, hold0⟩ : ∃ old, w1.cell? ⟨w.heap.size, m * 6, none⟩ = some old := ⟨cs[m * 6]'(by omega), by rw [y1.cell]; rw [Array.getElem?_eq_getElem]⟩
      have hfz0 := y1.frozen (m * 6)
      obtain ⟨old1, hold1⟩ : ∃ old, w1.cell? ⟨w.heap.size, m * 6 + 1, none⟩ = some old := ⟨cs[m * 6 + 1]'(by omega), by rw [y1.cell]; rw [Array.getElem?_eq_getElem]⟩
      have hfz1 := y1.frozen (m * 6 + 1)
      obtain ⟨old2, hold2⟩ : ∃ old, w1.cell? ⟨w.heap.size, m * 6 + 2, none⟩ = some old := ⟨cs[m * 6 + 2]'(by omega), by rw [y1.cell]; rw [Array.getElem?_eq_getElem]⟩
      have hfz2 := y1.frozen (m * 6 + 2)
      obtain ⟨old3, hold3⟩ : ∃ old, w1.cell? ⟨w.heap.size, m * 6 + 3, none⟩ = some old := ⟨cs[m * 6 + 3]'(by omega), by rw [y1.cell]; rw [Array.getElem?_eq_getElem]⟩
      have hfz3 := y1.frozen (m * 6 + 3)
      obtain ⟨old4, hold4⟩ : ∃ old, w1.cell? ⟨w.heap.size, m * 6 + 4, none⟩ = some old := ⟨cs[m * 6 + 4]'(by omega), by rw [y1.cell]; rw [Array.getElem?_eq_getElem]⟩
      have hfz4 := y1.frozen (m * 6 + 4)
      obtain ⟨old5, hold5⟩ : ∃ old, w1.cell? ⟨w.heap.size, m * 6 + 5, none⟩ = some old := ⟨cs[m * 6 + 5]'(by omega), by rw [y1.cell]; rw [Array.getElem?_eq_getElem]⟩
      have hfz5 := y1.frozen (m * 6 + 5)
      have HY1 := Lib.hid y1
      have HBW := Lib.hid hbw1
      clear hb1 hcs HY y1 hbw hbw1 d0 d1 d2 d3 d4 d5
      go_wp2
      go_roundw
      case rel => exact ⟨m + 1, ((((((cs.setIfInBounds (m * 6) (.int .i64 (F m 0))).setIfInBounds (m * 6 + 1) (.int .i64 (F m 1))).setIfInBounds (m * 6 + 2) (.int .i64 (F m 2))).setIfInBounds (m * 6 + 3) (.int .i64 (F m 3))).setIfInBounds (m * 6 + 4) (.int .i64 (F m 4))).setIfInBounds (m * 6 + 5) (.int .i64 (F m 5))), by omega, by go_num, ((((((HBW.out).setCell (Nat.le_refl _) _).setCell (Nat.le_refl _) _).setCell (Nat.le_refl _) _).setCell (Nat.le_refl _) _).setCell (Nat.le_refl _) _).setCell (Nat.le_refl _) _, ((((((HY1.out).put (m * 6) _).put (m * 6 + 1) _).put (m * 6 + 2) _).put (m * 6 + 3) _).put (m * 6 + 4) _).put (m * 6 + 5) _, by simp [HS.out], put_rec6 HS.out hlt hF.out⟩
      case measure => simp [intOf]; omega
    · obtain rfl : m = n := by omega
      have HS := Lib.hid hcs
      clear hcs
      go_wp2
      go_ret
      exact ⟨_, rfl, own_of_box (by omega) (Nat.le_refl _) y1 HS.out (by unfold maxLen; omega) (fun i hi j hj => hF.out i hi j hj), hbw⟩
theorem eqNode_same (x0 x1 x2 x3 x4 x5 : Int) (w : World) : Calls Try.prog 140 #[.agg #[.int .i64 x0, .int .i64 x1, .int .i64 x2, .int .i64 x3, .int .i64 x4, .int .i64 x5], .agg #[.int .i64 x0, .int .i64 x1, .int .i64 x2, .int .i64 x3, .int .i64 x4, .int .i64 x5]] w fun e w' => e = .returned (.bool true) ∧ Below w.heap.size w w' := by
  go_enter Try.func140, Try.ntmps140
  go_wp2_with (go_at_call 152; (with_reducible refine (eqFrac_same x4 x5 _).mono ?_); rintro e w1 ⟨rfl, hb1⟩; obtain ⟨hc1, hf1⟩ := bcell hb1; (try simp only [World.size_drew] at hc1 hf1); have hz1 := hb1.size; (try simp at hz1); (try have q1_0 : w.heap.size < w1.heap.size := by omega); (try have q1_1 : w.heap.size + 1 < w1.heap.size := by omega); (try have q1_2 : w.heap.size + 2 < w1.heap.size := by omega); (try have q1_3 : w.heap.size + 3 < w1.heap.size := by omega); (try have q1_4 : w.heap.size + 4 < w1.heap.size := by omega); (try have q1_0_0 : w0.heap.size < w1.heap.size := by omega); (try have q1_0_1 : w0.heap.size + 1 < w1.heap.size := by omega); (try have q1_2_0 : w2.heap.size < w1.heap.size := by omega); (try have q1_2_1 : w2.heap.size + 1 < w1.heap.size := by omega); (try have q1_3_0 : w3.heap.size < w1.heap.size := by omega); (try have q1_3_1 : w3.heap.size + 1 < w1.heap.size := by omega); (try have q1_4_0 : w4.heap.size < w1.heap.size := by omega); (try have q1_4_1 : w4.heap.size + 1 < w1.heap.size := by omega); (try have q1_5_0 : w5.heap.size < w1.heap.size := by omega); (try have q1_5_1 : w5.heap.size + 1 < w1.heap.size := by omega); (try have q1_6_0 : w6.heap.size < w1.heap.size := by omega); (try have q1_6_1 : w6.heap.size + 1 < w1.heap.size := by omega); (try have u1_b : b < w1.heap.size := by omega); (try have u1_q : q < w1.heap.size := by omega); (try have u1_g : g < w1.heap.size := by omega); (try have u1_g1 : g1 < w1.heap.size := by omega); (try have u1_g2 : g2 < w1.heap.size := by omega); (try have u1_g3 : g3 < w1.heap.size := by omega); (try have u1_g4 : g4 < w1.heap.size := by omega); (try have u1_g5 : g5 < w1.heap.size := by omega))
  go_ret
  exact ⟨rfl, by (repeat (first | with_reducible exact Below.refl _ _ | with_reducible refine Below.drew ?_ | (with_reducible refine Below.alloc ?_ ?hsz _; case hsz => ((try simp) <;> (try omega))) | (with_reducible refine Below.setCell ?_ ?hsz _; case hsz => ((try simp) <;> (try omega))) | (with_reducible refine below_step (by with_reducible assumption) ?hsz ?_; case hsz => ((try simp) <;> (try omega)))))⟩
set_option maxHeartbeats 1000000 in
theorem eqNodeS_same (A B : Option Addr) (n c1 c2 : Nat) (F G : Nat → Nat → Int) (w : World) (hn : n ≤ 1048576) (hr : Recs w 6 A n F) (hs : Recs w 6 B n G) (hFG : ∀ i, i < n → ∀ j, j < 6 → F i j = G i j) :
    Calls Try.prog 128 #[.slice A n c1, .slice B n c2] w fun e w' => e = .returned (.bool true) ∧ Below w.heap.size w w' := by
  have HR := Lib.hid hr
  have HS := Lib.hid (hs.congr (fun i hi j hj => (hFG i hi j hj).symm))
  clear hr hs hFG
  go_enter Try.func128, Try.ntmps128
  go_wp2_with fail
  go_loopw [5] (fun i wr => ∃ m : Nat, m ≤ n ∧ i = .int .i64 m ∧ Below w.heap.size w wr) (fun i _ => n - (intOf i).toNat)
  case atStart => exact ⟨0, Nat.zero_le _, rfl, Below.refl _ _⟩
  case round =>
    obtain ⟨m, hm, rfl, hbw⟩ := hrel
    by_cases hlt : m < n
    · obtain ⟨b1, off1, rfl, hb1, c0, c1, c2, c3, c4, c5⟩ := HR.out.at6 hlt
      obtain ⟨b2, off2, rfl, hb2, e0, e1, e2, e3, e4, e5⟩ := HS.out.at6 hlt
      have d0 := (hbw.cell (p := ⟨b1, off1 + m * 6, none⟩) hb1).trans c0
      have f0 := (hbw.cell (p := ⟨b2, off2 + m * 6, none⟩) hb2).trans e0
      have d1 := (hbw.cell (p := ⟨b1, off1 + m * 6 + 1, none⟩) hb1).trans c1
      have f1 := (hbw.cell (p := ⟨b2, off2 + m * 6 + 1, none⟩) hb2).trans e1
      have d2 := (hbw.cell (p := ⟨b1, off1 + m * 6 + 2, none⟩) hb1).trans c2
      have f2 := (hbw.cell (p := ⟨b2, off2 + m * 6 + 2, none⟩) hb2).trans e2
      have d3 := (hbw.cell (p := ⟨b1, off1 + m * 6 + 3, none⟩) hb1).trans c3
      have f3 := (hbw.cell (p := ⟨b2, off2 + m * 6 + 3, none⟩) hb2).trans e3
      have d4 := (hbw.cell (p := ⟨b1, off1 + m * 6 + 4, none⟩) hb1).trans c4
      have f4 := (hbw.cell (p := ⟨b2, off2 + m * 6 + 4, none⟩) hb2).trans e4
      have d5 := (hbw.cell (p := ⟨b1, off1 + m * 6 + 5, none⟩) hb1).trans c5
      have f5 := (hbw.cell (p := ⟨b2, off2 + m * 6 + 5, none⟩) hb2).trans e5
      have hmi : (m : Int) < (n : Int) := by omega
      have hm0 : (0 : Int) ≤ (m : Int) := by omega
      have z1 : b1 < wr.heap.size := Nat.lt_of_lt_of_le hb1 hbw.size
      have z2 : b2 < wr.heap.size := Nat.lt_of_lt_of_le hb2 hbw.size
      have zs := hbw.size
      clear hb1 hb2 c0 c1 c2 c3 c4 c5 e0 e1 e2 e3 e4 e5
      go_wp2_with fail
      go_region_held3 (fun w' => w'.cell? ⟨b1, off1 + m * 6, none⟩ = some (.int .i64 (F m 0)) ∧ w'.cell? ⟨b1, off1 + m * 6 + 1, none⟩ = some (.int .i64 (F m 1)) ∧ w'.cell? ⟨b1, off1 + m * 6 + 2, none⟩ = some (.int .i64 (F m 2)) ∧ w'.cell? ⟨b1, off1 + m * 6 + 3, none⟩ = some (.int .i64 (F m 3)) ∧ w'.cell? ⟨b1, off1 + m * 6 + 4, none⟩ = some (.int .i64 (F m 4)) ∧ w'.cell? ⟨b1, off1 + m * 6 + 5, none⟩ = some (.int .i64 (F m 5)) ∧ w'.cell? ⟨b2, off2 + m * 6, none⟩ = some (.int .i64 (F m 0)) ∧ w'.cell? ⟨b2, off2 + m * 6 + 1, none⟩ = some (.int .i64 (F m 1)) ∧ w'.cell? ⟨b2, off2 + m * 6 + 2, none⟩ = some (.int .i64 (F m 2)) ∧ w'.cell? ⟨b2, off2 + m * 6 + 3, none⟩ = some (.int .i64 (F m 3)) ∧ w'.cell? ⟨b2, off2 + m * 6 + 4, none⟩ = some (.int .i64 (F m 4)) ∧ w'.cell? ⟨b2, off2 + m * 6 + 5, none⟩ = some (.int .i64 (F m 5))) (simp [go_sem, *])
        (first | (go_at_call 140; (with_reducible refine (eqNode_same (F m 0) (F m 1) (F m 2) (F m 3) (F m 4) (F m 5) _).mono ?_); rintro e w1 ⟨rfl, hb3⟩; obtain ⟨hc3, hf3⟩ := bcell hb3; (try simp only [World.size_drew] at hc3 hf3)))
      have hbw1 := (hbw.drew).trans (hb3.mono zs)
      clear hc3 hf3 hb3 hbw d0 d1 d2 d3 d4 d5 f0 f1 f2 f3 f4 f5
      go_wp2_with fail
      go_roundw
      case rel => exact ⟨m + 1, by omega, by go_num, hbw1⟩
      case measure => simp [intOf]; omega
    · obtain rfl : m = n := by omega
      go_wp2
      go_ret
      exact ⟨rfl, hbw⟩
end Go.Proofs.Ytgfcmeiffhffaaa
