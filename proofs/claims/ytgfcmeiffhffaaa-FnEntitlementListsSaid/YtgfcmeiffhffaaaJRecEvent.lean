/- Contracts of the laws' helpers over slices of Event: size, copy, compare, mark, held. -/
import Derived.Deep.OwnRows
import Derived.BigQuiet
import Derived.Outline
import Derived.Deep.RegionHeld3
import Derived.Test.YtgfcmeiffhffaaaJRec
namespace Go.Proofs.Ytgfcmeiffhffaaa
open Go.RowKit

theorem infEvent : (Try.prog.info? 106).map (fun i => (i.zero, i.size, i.bytes)) = some (some (.agg #[.int .i64 0, .int .i64 0]), 2, 16) := by kernel_rfl
theorem toEvent_any (x0 x1 : Int) (w : World) : Calls Try.prog 58 #[.agg #[.int .i64 x0, .int .i64 x1]] w fun e w' => e = .returned (.agg #[.int .i64 x0, .int .i64 x1]) ∧ Below w.heap.size w w' := by
  go_enter Try.func58, Try.ntmps58
  go_wp2
  refine bodyPost_ret (v := .agg #[.int .i64 x0, .int .i64 x1]) (by simp [results, Try.results58, go_sem, *]) rfl ⟨rfl, by (repeat (first | with_reducible exact Below.refl _ _ | with_reducible refine Below.drew ?_ | (with_reducible refine Below.alloc ?_ ?hsz _; case hsz => ((try simp) <;> (try omega))) | (with_reducible refine Below.setCell ?_ ?hsz _; case hsz => ((try simp) <;> (try omega))) | (with_reducible refine below_step (by with_reducible assumption) ?hsz ?_; case hsz => ((try simp) <;> (try omega)))))⟩
theorem szEventS_any (A : Option Addr) (n cap : Nat) (left : Int) (w : World) (hn : n ≤ 9223372036854775807) (l0 : 0 ≤ left) (l1 : left ≤ 1048576) : Calls Try.prog 22 #[.slice A n cap, .int .i64 left] w fun e w' => e = .returned (.int .i64 (if left < n then -1 else left - n)) ∧ w = w' := by
  by_cases h : left < n
  · rw [if_pos h]
    go_enter Try.func22, Try.ntmps22
    go_wp2
    go_ret
    exact ⟨rfl, rfl⟩
  · rw [if_neg h]
    go_enter Try.func22, Try.ntmps22
    go_wp2
    go_ret
    exact ⟨rfl, rfl⟩
set_option maxHeartbeats 1000000 in
theorem toEventS_any (A : Option Addr) (n cap : Nat) (F : Nat → Nat → Int) (w : World) (hn : n ≤ 1048576) (hr : Recs w 2 A n F) : Calls Try.prog 27 #[.slice A n cap] w (RecsQ 106 2 n F w) := by
  have hmk := run_make_recs (P := Try.prog) 29 106 (.agg #[.int .i64 0, .int .i64 0]) 16 2 Try.underlying29 infEvent .i64 .i64 n (by omega) (by omega)
  have HR := Lib.hid hr
  clear hr
  go_enter Try.func27, Try.ntmps27
  go_wp2_with fail
  clear hmk
  go_loopw [4] (fun i wr => ∃ (m : Nat) (cs : Array Value), m ≤ n ∧ i = .int .i64 m ∧ Below w.heap.size w wr ∧ Box wr w.heap.size 106 cs ∧ cs.size = n * 2 ∧ Hid (∀ i, i < m → ∀ j, j < 2 → cs[i * 2 + j]? = some (.int .i64 (F i j)))) (fun i _ => n - (intOf i).toNat)
  case atStart => exact ⟨0, _, Nat.zero_le _, rfl, (Below.refl _ _).alloc (Nat.le_refl _) _, Box.made _ _ _, size_madeCells _ _, fun i hi => by omega⟩
  case round =>
    obtain ⟨m, cs, hm, rfl, hbw, y1, hcs, hF⟩ := hrel
    by_cases hlt : m < n
    · obtain ⟨b, off, rfl, hb, c0, c1⟩ := HR.out.at2 hlt
      have d0 := (hbw.cell (p := ⟨b, off + m * 2, none⟩) hb).trans c0
      have d1 := (hbw.cell (p := ⟨b, off + m * 2 + 1, none⟩) hb).trans c1
      have hmi : (m : Int) < (n : Int) := by omega
      have hm0 : (0 : Int) ≤ (m : Int) := by omega
      have HY := Lib.hid y1
      have HS := Lib.hid hcs
      have HB := Lib.hid hb
      have ls := y1.lt
      clear c0 c1 hcs hb y1
      go_wp2_with fail
      with_reducible refine (toEvent_any (F m 0) (F m 1) _).mono ?_
      rintro e w1 ⟨rfl, hb1⟩
      have y1 := HY.out.kept hb1
      have hbw1 := hbw.trans (hb1.mono hbw.size)
      have hcs := HS.out
      obtain ⟨old0, hold0⟩ : ∃ old, w1.cell? ⟨w.heap.size, m * 2, none⟩ = some old := ⟨cs[m * 2]'(by omega), by rw [y1.cell]; rw [Array.getElem?_eq_getElem]⟩
      have hfz0 := y1.frozen (m * 2)
      obtain ⟨old1, hold1⟩ : ∃ old, w1.cell? ⟨w.heap.size, m * 2 + 1, none⟩ = some old := ⟨cs[m * 2 + 1]'(by omega), by rw [y1.cell]; rw [Array.getElem?_eq_getElem]⟩
      have hfz1 := y1.frozen (m * 2 + 1)
      have HY1 := Lib.hid y1
      have HBW := Lib.hid hbw1
      clear hb1 hcs HY y1 hbw hbw1 d0 d1
      go_wp2
      go_roundw
      case rel => exact ⟨m + 1, ((cs.setIfInBounds (m * 2) (.int .i64 (F m 0))).setIfInBounds (m * 2 + 1) (.int .i64 (F m 1))), by omega, by go_num, ((HBW.out).setCell (Nat.le_refl _) _).setCell (Nat.le_refl _) _, ((HY1.out).put (m * 2) _).put (m * 2 + 1) _, by simp [HS.out], put_rec2 HS.out hlt hF.out⟩
      case measure => simp [intOf]; omega
    · obtain rfl : m = n := by omega
      have HS := Lib.hid hcs
      clear hcs
      go_wp2
      go_ret
      exact ⟨_, rfl, own_of_box (by omega) (Nat.le_refl _) y1 HS.out (by unfold maxLen; omega) (fun i hi j hj => hF.out i hi j hj), hbw⟩
theorem eqEvent_same (x0 x1 : Int) (w : World) : Calls Try.prog 63 #[.agg #[.int .i64 x0, .int .i64 x1], .agg #[.int .i64 x0, .int .i64 x1]] w fun e w' => e = .returned (.bool true) ∧ Below w.heap.size w w' := by
  go_enter Try.func63, Try.ntmps63
  go_wp2_with fail
  go_ret
  exact ⟨rfl, by (repeat (first | with_reducible exact Below.refl _ _ | with_reducible refine Below.drew ?_ | (with_reducible refine Below.alloc ?_ ?hsz _; case hsz => ((try simp) <;> (try omega))) | (with_reducible refine Below.setCell ?_ ?hsz _; case hsz => ((try simp) <;> (try omega))) | (with_reducible refine below_step (by with_reducible assumption) ?hsz ?_; case hsz => ((try simp) <;> (try omega)))))⟩
set_option maxHeartbeats 1000000 in
theorem eqEventS_same (A B : Option Addr) (n c1 c2 : Nat) (F G : Nat → Nat → Int) (w : World) (hn : n ≤ 1048576) (hr : Recs w 2 A n F) (hs : Recs w 2 B n G) (hFG : ∀ i, i < n → ∀ j, j < 2 → F i j = G i j) :
    Calls Try.prog 32 #[.slice A n c1, .slice B n c2] w fun e w' => e = .returned (.bool true) ∧ Below w.heap.size w w' := by
  have HR := Lib.hid hr
  have HS := Lib.hid (hs.congr (fun i hi j hj => (hFG i hi j hj).symm))
  clear hr hs hFG
  go_enter Try.func32, Try.ntmps32
  go_wp2_with fail
  go_loopw [5] (fun i wr => ∃ m : Nat, m ≤ n ∧ i = .int .i64 m ∧ Below w.heap.size w wr) (fun i _ => n - (intOf i).toNat)
  case atStart => exact ⟨0, Nat.zero_le _, rfl, Below.refl _ _⟩
  case round =>
    obtain ⟨m, hm, rfl, hbw⟩ := hrel
    by_cases hlt : m < n
    · obtain ⟨b1, off1, rfl, hb1, c0, c1⟩ := HR.out.at2 hlt
      obtain ⟨b2, off2, rfl, hb2, e0, e1⟩ := HS.out.at2 hlt
      have d0 := (hbw.cell (p := ⟨b1, off1 + m * 2, none⟩) hb1).trans c0
      have f0 := (hbw.cell (p := ⟨b2, off2 + m * 2, none⟩) hb2).trans e0
      have d1 := (hbw.cell (p := ⟨b1, off1 + m * 2 + 1, none⟩) hb1).trans c1
      have f1 := (hbw.cell (p := ⟨b2, off2 + m * 2 + 1, none⟩) hb2).trans e1
      have hmi : (m : Int) < (n : Int) := by omega
      have hm0 : (0 : Int) ≤ (m : Int) := by omega
      have z1 : b1 < wr.heap.size := Nat.lt_of_lt_of_le hb1 hbw.size
      have z2 : b2 < wr.heap.size := Nat.lt_of_lt_of_le hb2 hbw.size
      have zs := hbw.size
      clear hb1 hb2 c0 c1 e0 e1
      go_wp2_with fail
      go_region_held3 (fun w' => w'.cell? ⟨b1, off1 + m * 2, none⟩ = some (.int .i64 (F m 0)) ∧ w'.cell? ⟨b1, off1 + m * 2 + 1, none⟩ = some (.int .i64 (F m 1)) ∧ w'.cell? ⟨b2, off2 + m * 2, none⟩ = some (.int .i64 (F m 0)) ∧ w'.cell? ⟨b2, off2 + m * 2 + 1, none⟩ = some (.int .i64 (F m 1))) (simp [go_sem, *])
        (first | (go_at_call 63; (with_reducible refine (eqEvent_same (F m 0) (F m 1) _).mono ?_); rintro e w1 ⟨rfl, hb3⟩; obtain ⟨hc3, hf3⟩ := bcell hb3; (try simp only [World.size_drew] at hc3 hf3)))
      have hbw1 := (hbw.drew).trans (hb3.mono zs)
      clear hc3 hf3 hb3 hbw d0 d1 f0 f1
      go_wp2_with fail
      go_roundw
      case rel => exact ⟨m + 1, by omega, by go_num, hbw1⟩
      case measure => simp [intOf]; omega
    · obtain rfl : m = n := by omega
      go_wp2
      go_ret
      exact ⟨rfl, hbw⟩
end Go.Proofs.Ytgfcmeiffhffaaa
