/- Contracts of the laws' helpers: marks over numbers; size, copy, compare and mark of tables. -/
import Derived.Test.YtjmibbjachgofaaIntS
namespace Go.Proofs.Ytjmibbjachgofaa
open Go.RowKit

theorem markIntS_any (base : Nat) (v : Value) (n : Nat) (xs : List Value) (q : Int) (w : World) (hn : n ≤ 1048576) (q0 : 0 ≤ q) (q1 : q ≤ 1000000000) (hown : w.ownsRow base 3 1 v n xs) :
    Calls Try.prog 44 #[v, .int .i64 q] w fun e w' => e = .returned (.int .i64 (q + n)) ∧ w'.ownsRow base 3 1 v n (ints (fun i => q + i) n) ∧ w.grownBy w' v.ownBlock := by
  rcases hown.2 with ⟨rfl, rfl⟩ | ⟨g, cap, cur, rfl, hg, hh, hnc, hcm, hcs, _⟩
  · clear hown
    go_enter Try.func44, Try.ntmps44
    go_wp2_with fail
    refine wp_loop_rounds 1 ?_
    rw [rounds_succ]
    go_wp2
    go_ret
    exact ⟨ret_int (by simp), World.ownsRow_nil _ _ _ _, grown_refl _ _⟩
  · have hx : Box w g 3 cur := hh
    have hcs' : n ≤ cur.size := by rw [hcs]; omega
    have HS := Lib.hid hcs
    clear hown hh hcs
    go_enter Try.func44, Try.ntmps44
    go_wp2_with fail
    go_loopw [1, 5] (fun x i wr => ∃ (k : Nat) (cs : Array Value), k ≤ n ∧ i = .int .i64 k ∧ x = .int .i64 (q + k) ∧ w.grownBy wr (some g) ∧ Box wr g 3 cs ∧ Hid (cs.size = cur.size) ∧ Hid (∀ j, j < k → cs[j]? = some (.int .i64 (q + j)))) (fun _ i _ => n - (intOf i).toNat)
    case atStart => exact ⟨0, cur, Nat.zero_le _, rfl, by simp, grown_refl _ _, hx, rfl, fun j hj => by omega⟩
    case round =>
      obtain ⟨k, cs, hk, rfl, rfl, hgw, y1, hcz, hF⟩ := hrel
      by_cases hlt : k < n
      · obtain ⟨old, hold'⟩ : ∃ old, wr.cell? ⟨g, k, none⟩ = some old := ⟨cs[k]'(by rw [hcz.out]; omega), by rw [y1.cell k]; rw [Array.getElem?_eq_getElem]⟩
        have hfz := y1.frozen k
        go_wp2
        go_roundw
        case rel => exact ⟨k + 1, cs.setIfInBounds k (.int .i64 (q + k)), by omega, by go_num, by go_num, grown_set hgw _ _, y1.put k _, by have := hcz.out; simpa [Hid] using this, fun j hj => by
          have := hcz.out
          rcases Nat.lt_or_ge j k with h | h
          · rw [Array.getElem?_setIfInBounds_ne (by omega)]; exact hF.out j h
          · obtain rfl : j = k := by omega
            rw [Array.getElem?_setIfInBounds_self_of_lt (by omega)]⟩
        case measure => simp [intOf]; omega
      · obtain rfl : k = n := by omega
        go_wp2
        go_ret
        refine ⟨rfl, ⟨by simp [ints_length], .inr ⟨g, cap, cs, rfl, hg, y1, hnc, hcm, by rw [hcz.out, HS.out], ?_⟩⟩, hgw⟩
        have := hcz.out
        apply List.ext_getElem?
        intro i
        by_cases hi : i < k
        · rw [ints_get _ hi, Nat.mul_one, List.getElem?_take_of_lt hi]
          simpa using hF.out i hi
        · rw [List.getElem?_eq_none (by simp; omega), List.getElem?_eq_none (by simp [ints_length]; omega)]
theorem szIntS_any (A : Option Addr) (n cap : Nat) (left : Int) (w : World) (hn : n ≤ 9223372036854775807) (l0 : 0 ≤ left) (l1 : left ≤ 1048576) : Calls Try.prog 63 #[.slice A n cap, .int .i64 left] w fun e w' => e = .returned (.int .i64 (if left < n then -1 else left - n)) ∧ w = w' := by
  by_cases h : left < n
  · rw [if_pos h]
    go_enter Try.func63, Try.ntmps63
    go_wp2
    go_ret
    exact ⟨rfl, rfl⟩
  · rw [if_neg h]
    go_enter Try.func63, Try.ntmps63
    go_wp2
    go_ret
    exact ⟨rfl, rfl⟩
theorem szTable_any (f : Int) (A : Option Addr) (n cap : Nat) (left : Int) (w : World) (hn : n ≤ 9223372036854775807) (l0 : 0 ≤ left) (l1 : left ≤ 1048576) : Calls Try.prog 38 #[.agg #[.int .i64 f, .slice A n cap], .int .i64 left] w fun e w' => e = .returned (.int .i64 (if left < n then -1 else left - n)) ∧ Below w.heap.size w w' := by
  by_cases h : left < n
  · have H := Lib.hid (fun w => by have := szIntS_any A n cap left w hn l0 l1; rw [if_pos h] at this; exact this : ∀ w, Calls Try.prog 63 #[.slice A n cap, .int .i64 left] w fun e w' => e = .returned (.int .i64 (-1)) ∧ w = w')
    rw [if_pos h]
    go_enter Try.func38, Try.ntmps38
    go_wp2_with (go_at_call 63; (with_reducible refine (H.out _).mono ?_); rintro e w' ⟨rfl, rfl⟩)
    go_ret
    exact ⟨rfl, by (repeat (first | with_reducible exact Below.refl _ _ | with_reducible refine Below.drew ?_ | (with_reducible refine Below.alloc ?_ ?hsz _; case hsz => ((try simp) <;> (try omega))) | (with_reducible refine Below.setCell ?_ ?hsz _; case hsz => ((try simp) <;> (try omega))) | (with_reducible refine below_step (by with_reducible assumption) ?hsz ?_; case hsz => ((try simp) <;> (try omega)))))⟩
  · have H := Lib.hid (fun w => by have := szIntS_any A n cap left w hn l0 l1; rw [if_neg h] at this; exact this : ∀ w, Calls Try.prog 63 #[.slice A n cap, .int .i64 left] w fun e w' => e = .returned (.int .i64 (left - n)) ∧ w = w')
    rw [if_neg h]
    go_enter Try.func38, Try.ntmps38
    go_wp2_with (go_at_call 63; (with_reducible refine (H.out _).mono ?_); rintro e w' ⟨rfl, rfl⟩)
    go_ret
    exact ⟨rfl, by (repeat (first | with_reducible exact Below.refl _ _ | with_reducible refine Below.drew ?_ | (with_reducible refine Below.alloc ?_ ?hsz _; case hsz => ((try simp) <;> (try omega))) | (with_reducible refine Below.setCell ?_ ?hsz _; case hsz => ((try simp) <;> (try omega))) | (with_reducible refine below_step (by with_reducible assumption) ?hsz ?_; case hsz => ((try simp) <;> (try omega)))))⟩
/-- A copy of a table comes back, its numbers in a new row. -/
def TableQ (f : Int) (n : Nat) (F : Nat → Int) (w : World) (e : Ending) (w' : World) : Prop :=
  ∃ A c, e = .returned (.agg #[.int .i64 f, .slice A n c]) ∧ w'.ownsRow w.heap.size 3 1 (.slice A n c) n (ints F n) ∧ Below w.heap.size w w'
set_option maxHeartbeats 400000 in
theorem toTable_any (f : Int) (A : Option Addr) (n cap : Nat) (F : Nat → Int) (w : World) (hn : n ≤ 1048576) (hr : Row w .i64 A n F) : Calls Try.prog 40 #[.agg #[.int .i64 f, .slice A n cap]] w (TableQ f n F w) := by
  have HR := Lib.hid hr
  clear hr
  go_enter Try.func40, Try.ntmps40
  go_wp2_with fail
  with_reducible refine (toIntS_any A n cap F _ hn ?_).mono ?_
  · exact ((HR.out.alloc _).alloc _).alloc _
  rintro e w1 ⟨v, rfl, hown, hb1⟩
  obtain ⟨A', c', rfl, _, _, _⟩ := own_row hown
  have x3 : Box w1 (w.heap.size + 1 + 1) 39 #[.int .i64 f, .slice none 0 0] := by (repeat (first | with_reducible assumption | with_reducible exact Box.made _ _ _ | (with_reducible refine Box.made_at ?hg; case hg => (simp; done)) | with_reducible refine Box.drew ?_ | with_reducible refine Box.alloc ?_ _ | (with_reducible refine Box.put2 (a := .int .i64 0) (b := .int .i64 0) ?_ _ _) | (with_reducible refine Box.far ?_ ?hg _; case hg => ((try simp) <;> (try omega))) | with_reducible refine Box.kept ?_ (by with_reducible assumption)))
  have x2 : Box w1 (w.heap.size + 1) 39 #[.int .i64 0, .slice none 0 0] := by (repeat (first | with_reducible assumption | with_reducible exact Box.made _ _ _ | (with_reducible refine Box.made_at ?hg; case hg => (simp; done)) | with_reducible refine Box.drew ?_ | with_reducible refine Box.alloc ?_ _ | (with_reducible refine Box.put2 (a := .int .i64 0) (b := .int .i64 0) ?_ _ _) | (with_reducible refine Box.far ?_ ?hg _; case hg => ((try simp) <;> (try omega))) | with_reducible refine Box.kept ?_ (by with_reducible assumption)))
  obtain ⟨c1, c2, c3, c4⟩ := x3.two
  obtain ⟨d1, d2, d3, d4⟩ := x2.two
  have hz1 := hb1.size
  simp only [World.size_alloc] at hz1 hown
  have hn1 := own_box_ne hown x3 (by decide)
  have hn2 := own_box_ne hown x2 (by decide)
  clear x2 x3
  have HO := Lib.hid hown
  have HN1 := Lib.hid hn1
  have HN2 := Lib.hid hn2
  clear hown hn1 hn2
  go_wp2
  refine bodyPost_ret (v := .agg #[.int .i64 f, .slice A' n c']) (by simp [results, Try.results40, go_sem, *]) rfl ⟨A', c', rfl, ?_, by (repeat (first | with_reducible exact Below.refl _ _ | with_reducible refine Below.drew ?_ | (with_reducible refine Below.alloc ?_ ?hsz _; case hsz => ((try simp) <;> (try omega))) | (with_reducible refine Below.setCell ?_ ?hsz _; case hsz => ((try simp) <;> (try omega))) | (with_reducible refine below_step (by with_reducible assumption) ?hsz ?_; case hsz => ((try simp) <;> (try omega)))))⟩
  exact own_mono (ownsRow_setCell_below (ownsRow_setCell_below (ownsRow_setCell_below HO.out (by simp) _) (by simp) _) (by simp) _) (by omega)
theorem eqTable_same (f : Int) (A B : Option Addr) (n c1 c2 : Nat) (F G : Nat → Int) (w : World) (hn : n ≤ 1152921504606846975) (hr : Row w .i64 A n F) (hs : Row w .i64 B n G) (hFG : ∀ i, i < n → F i = G i) :
    Calls Try.prog 42 #[.agg #[.int .i64 f, .slice A n c1], .agg #[.int .i64 f, .slice B n c2]] w fun e w' => e = .returned (.bool true) ∧ Below w.heap.size w w' := by
  have HR := Lib.hid ((hr.alloc (.cells #[.int .i64 f, .slice A n c1] 39)).alloc (.cells #[.int .i64 f, .slice B n c2] 39))
  have HS := Lib.hid ((hs.alloc (.cells #[.int .i64 f, .slice A n c1] 39)).alloc (.cells #[.int .i64 f, .slice B n c2] 39))
  have HF := Lib.hid hFG
  clear hr hs hFG
  go_enter Try.func42, Try.ntmps42
  go_wp2_with (first | (go_at_call 41; (with_reducible refine (eqIntS_same A B n c1 c2 F G _ hn HR.out HS.out HF.out).mono ?_); rintro e w1 ⟨rfl, hb1⟩; obtain ⟨hc1, hf1⟩ := bcell hb1; (try simp only [World.size_drew] at hc1 hf1); have hz1 := hb1.size; (try simp at hz1); (try have q1_0 : w.heap.size < w1.heap.size := by omega); (try have q1_1 : w.heap.size + 1 < w1.heap.size := by omega); (try have q1_2 : w.heap.size + 2 < w1.heap.size := by omega); (try have q1_3 : w.heap.size + 3 < w1.heap.size := by omega); (try have q1_4 : w.heap.size + 4 < w1.heap.size := by omega); (try have q1_0_0 : w0.heap.size < w1.heap.size := by omega); (try have q1_0_1 : w0.heap.size + 1 < w1.heap.size := by omega); (try have q1_2_0 : w2.heap.size < w1.heap.size := by omega); (try have q1_2_1 : w2.heap.size + 1 < w1.heap.size := by omega); (try have q1_3_0 : w3.heap.size < w1.heap.size := by omega); (try have q1_3_1 : w3.heap.size + 1 < w1.heap.size := by omega); (try have q1_4_0 : w4.heap.size < w1.heap.size := by omega); (try have q1_4_1 : w4.heap.size + 1 < w1.heap.size := by omega); (try have q1_5_0 : w5.heap.size < w1.heap.size := by omega); (try have q1_5_1 : w5.heap.size + 1 < w1.heap.size := by omega); (try have q1_6_0 : w6.heap.size < w1.heap.size := by omega); (try have q1_6_1 : w6.heap.size + 1 < w1.heap.size := by omega); (try have u1_b : b < w1.heap.size := by omega); (try have u1_q : q < w1.heap.size := by omega); (try have u1_g : g < w1.heap.size := by omega); (try have u1_g1 : g1 < w1.heap.size := by omega); (try have u1_g2 : g2 < w1.heap.size := by omega); (try have u1_g3 : g3 < w1.heap.size := by omega); (try have u1_g4 : g4 < w1.heap.size := by omega); (try have u1_g5 : g5 < w1.heap.size := by omega)))
  go_ret
  exact ⟨rfl, by (repeat (first | with_reducible exact Below.refl _ _ | with_reducible refine Below.drew ?_ | (with_reducible refine Below.alloc ?_ ?hsz _; case hsz => ((try simp) <;> (try omega))) | (with_reducible refine Below.setCell ?_ ?hsz _; case hsz => ((try simp) <;> (try omega))) | (with_reducible refine below_step (by with_reducible assumption) ?hsz ?_; case hsz => ((try simp) <;> (try omega)))))⟩
theorem markTable_any (base : Nat) (f : Int) (A : Option Addr) (n c : Nat) (xs : List Value) (q : Int) (w : World) (hn : n ≤ 1048576) (q0 : 0 ≤ q) (q1 : q ≤ 1000000000) (hown : w.ownsRow base 3 1 (.slice A n c) n xs) :
    Calls Try.prog 43 #[.agg #[.int .i64 f, .slice A n c], .int .i64 q] w fun e w' => e = .returned (.int .i64 (q + n)) ∧ w'.ownsRow base 3 1 (.slice A n c) n (ints (fun i => q + i) n) ∧ w.grownBy w' (Value.slice A n c).ownBlock := by
  have HO := Lib.hid (hown.alloc (.cells #[.int .i64 f, .slice A n c] 39))
  clear hown
  go_enter Try.func43, Try.ntmps43
  go_wp2_with (go_at_call 44; (with_reducible refine (markIntS_any base (.slice A n c) n xs q _ hn q0 q1 HO.out).mono ?_); rintro e w1 ⟨rfl, ho1, hg1⟩; have HO1 := Lib.hid ho1; clear ho1)
  go_ret
  exact ⟨rfl, HO1.out, grown_trans (grown_of_below ((Below.refl _ _).alloc (Nat.le_refl _) _) _) hg1⟩
theorem heldTable_any (f : Int) (A : Option Addr) (n c : Nat) (q : Int) (w : World) (hn : n ≤ 1048576) (q0 : 0 ≤ q) (q1 : q ≤ 1000000000) (hr : Row w .i64 A n (fun i => q + i)) :
    Calls Try.prog 48 #[.agg #[.int .i64 f, .slice A n c], .int .i64 q] w fun e w' => e = .returned (.int .i64 (q + n)) ∧ Below w.heap.size w w' := by
  have HO := Lib.hid (hr.alloc (.cells #[.int .i64 f, .slice A n c] 39))
  clear hr
  go_enter Try.func48, Try.ntmps48
  go_wp2_with (first | (go_at_call 45; (with_reducible refine (heldIntS_any A n c q _ hn q0 q1 HO.out).mono ?_); rintro e w1 ⟨rfl, hb1⟩; obtain ⟨hc1, hf1⟩ := bcell hb1; (try simp only [World.size_drew] at hc1 hf1); have hz1 := hb1.size; (try simp at hz1); (try have q1_0 : w.heap.size < w1.heap.size := by omega); (try have q1_1 : w.heap.size + 1 < w1.heap.size := by omega); (try have q1_2 : w.heap.size + 2 < w1.heap.size := by omega); (try have q1_3 : w.heap.size + 3 < w1.heap.size := by omega); (try have q1_4 : w.heap.size + 4 < w1.heap.size := by omega); (try have q1_0_0 : w0.heap.size < w1.heap.size := by omega); (try have q1_0_1 : w0.heap.size + 1 < w1.heap.size := by omega); (try have q1_2_0 : w2.heap.size < w1.heap.size := by omega); (try have q1_2_1 : w2.heap.size + 1 < w1.heap.size := by omega); (try have q1_3_0 : w3.heap.size < w1.heap.size := by omega); (try have q1_3_1 : w3.heap.size + 1 < w1.heap.size := by omega); (try have q1_4_0 : w4.heap.size < w1.heap.size := by omega); (try have q1_4_1 : w4.heap.size + 1 < w1.heap.size := by omega); (try have q1_5_0 : w5.heap.size < w1.heap.size := by omega); (try have q1_5_1 : w5.heap.size + 1 < w1.heap.size := by omega); (try have q1_6_0 : w6.heap.size < w1.heap.size := by omega); (try have q1_6_1 : w6.heap.size + 1 < w1.heap.size := by omega); (try have u1_b : b < w1.heap.size := by omega); (try have u1_q : q < w1.heap.size := by omega); (try have u1_g : g < w1.heap.size := by omega); (try have u1_g1 : g1 < w1.heap.size := by omega); (try have u1_g2 : g2 < w1.heap.size := by omega); (try have u1_g3 : g3 < w1.heap.size := by omega); (try have u1_g4 : g4 < w1.heap.size := by omega); (try have u1_g5 : g5 < w1.heap.size := by omega)))
  go_ret
  exact ⟨rfl, by (repeat (first | with_reducible exact Below.refl _ _ | with_reducible refine Below.drew ?_ | (with_reducible refine Below.alloc ?_ ?hsz _; case hsz => ((try simp) <;> (try omega))) | (with_reducible refine Below.setCell ?_ ?hsz _; case hsz => ((try simp) <;> (try omega))) | (with_reducible refine below_step (by with_reducible assumption) ?hsz ?_; case hsz => ((try simp) <;> (try omega)))))⟩
end Go.Proofs.Ytjmibbjachgofaa
