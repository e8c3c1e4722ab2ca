/- Contracts of SpellsOk, of the program and of the reference. -/
import Derived.Deep.OwnRows
import Derived.BigQuiet
import Derived.Outline
import Derived.Deep.RegionHeld3
import Derived.Deep.QuietTactic
import Derived.Test.YtgfcmeiffhffaaaJRecMore
import Derived.Test.YtgfcmeiffhffaaaJSpan
namespace Go.Proofs.Ytgfcmeiffhffaaa
open Go.RowKit

def spellV (F : Nat → Nat → Int) (L : Nat → Bool) (i : Nat) : Nat → Value
  | 0 => .int .i64 (F i 0)
  | 1 => .int .i64 (F i 1)
  | 2 => .int .i64 (F i 2)
  | _ => .bool (L i)
theorem infSpell : (Try.prog.info? 102).map (fun i => (i.zero, i.size, i.bytes)) = some (some (.agg #[.int .i64 0, .int .i64 0, .int .i64 0, .bool false]), 4, 32) := by kernel_rfl
theorem toSpell_any (x0 : Int) (x1 : Int) (x2 : Int) (x3 : Bool) (w : World) : Calls Try.prog 57 #[.agg #[.int .i64 x0, .int .i64 x1, .int .i64 x2, .bool x3]] w fun e w' => e = .returned (.agg #[.int .i64 x0, .int .i64 x1, .int .i64 x2, .bool x3]) ∧ Below w.heap.size w w' := by
  go_enter Try.func57, Try.ntmps57
  go_wp2
  refine bodyPost_ret (v := .agg #[.int .i64 x0, .int .i64 x1, .int .i64 x2, .bool x3]) (by simp [results, Try.results57, go_sem, *]) rfl ⟨rfl, by (repeat (first | with_reducible exact Below.refl _ _ | with_reducible refine Below.drew ?_ | (with_reducible refine Below.alloc ?_ ?hsz _; case hsz => ((try simp) <;> (try omega))) | (with_reducible refine Below.setCell ?_ ?hsz _; case hsz => ((try simp) <;> (try omega))) | (with_reducible refine below_step (by with_reducible assumption) ?hsz ?_; case hsz => ((try simp) <;> (try omega)))))⟩
theorem szSpellS_any (A : Option Addr) (n cap : Nat) (left : Int) (w : World) (hn : n ≤ 9223372036854775807) (l0 : 0 ≤ left) (l1 : left ≤ 1048576) : Calls Try.prog 21 #[.slice A n cap, .int .i64 left] w fun e w' => e = .returned (.int .i64 (if left < n then -1 else left - n)) ∧ w = w' := by
  by_cases h : left < n
  · rw [if_pos h]
    go_enter Try.func21, Try.ntmps21
    go_wp2
    go_ret
    exact ⟨rfl, rfl⟩
  · rw [if_neg h]
    go_enter Try.func21, Try.ntmps21
    go_wp2
    go_ret
    exact ⟨rfl, rfl⟩
/-- A new row of such records comes back. -/
def SpellQ (n : Nat) (F : Nat → Nat → Int) (L : Nat → Bool) (w : World) (x : Ending) (w' : World) : Prop :=
  ∃ v, x = .returned v ∧ w'.ownsRow w.heap.size 102 4 v n (recV (spellV F L) 4 n) ∧ Below w.heap.size w w'
set_option maxHeartbeats 1000000 in
theorem toSpellS_any (A : Option Addr) (n cap : Nat) (F : Nat → Nat → Int) (L : Nat → Bool) (w : World) (hn : n ≤ 1048576) (hr : RecV w 4 A n (spellV F L)) : Calls Try.prog 26 #[.slice A n cap] w (SpellQ n F L w) := by
  have hmk := run_make_recs (P := Try.prog) 28 102 (.agg #[.int .i64 0, .int .i64 0, .int .i64 0, .bool false]) 32 4 Try.underlying28 infSpell .i64 .i64 n (by omega) (by omega)
  have HR := Lib.hid hr
  clear hr
  go_enter Try.func26, Try.ntmps26
  go_wp2_with fail
  clear hmk
  go_loopw [4] (fun i wr => ∃ (m : Nat) (cs : Array Value), m ≤ n ∧ i = .int .i64 m ∧ Below w.heap.size w wr ∧ Box wr w.heap.size 102 cs ∧ cs.size = n * 4 ∧ Hid (∀ i, i < m → ∀ j, j < 4 → cs[i * 4 + j]? = some (spellV F L i j))) (fun i _ => n - (intOf i).toNat)
  case atStart => exact ⟨0, _, Nat.zero_le _, rfl, (Below.refl _ _).alloc (Nat.le_refl _) _, Box.made _ _ _, size_madeCells _ _, fun i hi => by omega⟩
  case round =>
    obtain ⟨m, cs, hm, rfl, hbw, y1, hcs, hF⟩ := hrel
    by_cases hlt : m < n
    · obtain ⟨b, off, rfl, hb, c0, c1, c2, c3⟩ := HR.out.at4 hlt
      have d0 : wr.cell? ⟨b, off + m * 4, none⟩ = some (.int .i64 (F m 0)) := (hbw.cell (p := ⟨b, off + m * 4, none⟩) hb).trans c0
      have d1 : wr.cell? ⟨b, off + m * 4 + 1, none⟩ = some (.int .i64 (F m 1)) := (hbw.cell (p := ⟨b, off + m * 4 + 1, none⟩) hb).trans c1
      have d2 : wr.cell? ⟨b, off + m * 4 + 2, none⟩ = some (.int .i64 (F m 2)) := (hbw.cell (p := ⟨b, off + m * 4 + 2, none⟩) hb).trans c2
      have d3 : wr.cell? ⟨b, off + m * 4 + 3, none⟩ = some (.bool (L m)) := (hbw.cell (p := ⟨b, off + m * 4 + 3, none⟩) hb).trans c3
      have hmi : (m : Int) < (n : Int) := by omega
      have hm0 : (0 : Int) ≤ (m : Int) := by omega
      have HY := Lib.hid y1
      have HS := Lib.hid hcs
      have HB := Lib.hid hb
      have ls := y1.lt
      clear c0 c1 c2 c3 hcs hb y1
      go_wp2_with fail
      with_reducible refine (toSpell_any (F m 0) (F m 1) (F m 2) (L m) _).mono ?_
      rintro e w1 ⟨rfl, hb1⟩
      have y1 := HY.out.kept hb1
      have hbw1 := hbw.trans (hb1.mono hbw.size)
      have hcs := HS.out
      obtain ⟨old0, hold0⟩ : ∃ old, w1.cell? ⟨w.heap.size, m * 4, none⟩ = some old := ⟨cs[m * 4]'(by omega), by rw [y1.cell]; rw [Array.getElem?_eq_getElem]⟩
      have hfz0 := y1.frozen (m * 4)
      obtain ⟨old1, hold1⟩ : ∃ old, w1.cell? ⟨w.heap.size, m * 4 + 1, none⟩ = some old := ⟨cs[m * 4 + 1]'(by omega), by rw [y1.cell]; rw [Array.getElem?_eq_getElem]⟩
      have hfz1 := y1.frozen (m * 4 + 1)
      obtain ⟨old2, hold2⟩ : ∃ old, w1.cell? ⟨w.heap.size, m * 4 + 2, none⟩ = some old := ⟨cs[m * 4 + 2]'(by omega), by rw [y1.cell]; rw [Array.getElem?_eq_getElem]⟩
      have hfz2 := y1.frozen (m * 4 + 2)
      obtain ⟨old3, hold3⟩ : ∃ old, w1.cell? ⟨w.heap.size, m * 4 + 3, none⟩ = some old := ⟨cs[m * 4 + 3]'(by omega), by rw [y1.cell]; rw [Array.getElem?_eq_getElem]⟩
      have hfz3 := y1.frozen (m * 4 + 3)
      have HY1 := Lib.hid y1
      have HBW := Lib.hid hbw1
      clear hb1 hcs HY y1 hbw hbw1 d0 d1 d2 d3
      go_wp2
      go_roundw
      case rel => exact ⟨m + 1, ((((cs.setIfInBounds (m * 4) (.int .i64 (F m 0))).setIfInBounds (m * 4 + 1) (.int .i64 (F m 1))).setIfInBounds (m * 4 + 2) (.int .i64 (F m 2))).setIfInBounds (m * 4 + 3) (.bool (L m))), by omega, by go_num, ((((HBW.out).setCell (Nat.le_refl _) _).setCell (Nat.le_refl _) _).setCell (Nat.le_refl _) _).setCell (Nat.le_refl _) _, ((((HY1.out).put (m * 4) _).put (m * 4 + 1) _).put (m * 4 + 2) _).put (m * 4 + 3) _, by simp [HS.out], put_recV4 (V := spellV F L) HS.out hlt hF.out⟩
      case measure => simp [intOf]; omega
    · obtain rfl : m = n := by omega
      have HS := Lib.hid hcs
      clear hcs
      go_wp2
      go_ret
      exact ⟨_, rfl, own_of_boxV (by omega) (Nat.le_refl _) y1 HS.out (by unfold maxLen; omega) (fun i hi j hj => hF.out i hi j hj), hbw⟩
theorem eqSpell_same (x0 : Int) (x1 : Int) (x2 : Int) (x3 : Bool) (w : World) : Calls Try.prog 62 #[.agg #[.int .i64 x0, .int .i64 x1, .int .i64 x2, .bool x3], .agg #[.int .i64 x0, .int .i64 x1, .int .i64 x2, .bool x3]] w fun e w' => e = .returned (.bool true) ∧ Below w.heap.size w w' := by
  go_enter Try.func62, Try.ntmps62
  go_wp2_with fail
  go_ret
  exact ⟨rfl, by (repeat (first | with_reducible exact Below.refl _ _ | with_reducible refine Below.drew ?_ | (with_reducible refine Below.alloc ?_ ?hsz _; case hsz => ((try simp) <;> (try omega))) | (with_reducible refine Below.setCell ?_ ?hsz _; case hsz => ((try simp) <;> (try omega))) | (with_reducible refine below_step (by with_reducible assumption) ?hsz ?_; case hsz => ((try simp) <;> (try omega)))))⟩
set_option maxHeartbeats 1000000 in
theorem eqSpellS_same (A B : Option Addr) (n c1 c2 : Nat) (F : Nat → Nat → Int) (L : Nat → Bool) (w : World) (hn : n ≤ 1048576) (hr : RecV w 4 A n (spellV F L)) (hs : RecV w 4 B n (spellV F L)) :
    Calls Try.prog 31 #[.slice A n c1, .slice B n c2] w fun e w' => e = .returned (.bool true) ∧ Below w.heap.size w w' := by
  have HR := Lib.hid hr
  have HS := Lib.hid hs
  clear hr hs
  go_enter Try.func31, Try.ntmps31
  go_wp2_with fail
  go_loopw [5] (fun i wr => ∃ m : Nat, m ≤ n ∧ i = .int .i64 m ∧ Below w.heap.size w wr) (fun i _ => n - (intOf i).toNat)
  case atStart => exact ⟨0, Nat.zero_le _, rfl, Below.refl _ _⟩
  case round =>
    obtain ⟨m, hm, rfl, hbw⟩ := hrel
    by_cases hlt : m < n
    · obtain ⟨b1, off1, rfl, hb1, c0, c1, c2, c3⟩ := HR.out.at4 hlt
      obtain ⟨b2, off2, rfl, hb2, e0, e1, e2, e3⟩ := HS.out.at4 hlt
      have d0 : wr.cell? ⟨b1, off1 + m * 4, none⟩ = some (.int .i64 (F m 0)) := (hbw.cell (p := ⟨b1, off1 + m * 4, none⟩) hb1).trans c0
      have f0 : wr.cell? ⟨b2, off2 + m * 4, none⟩ = some (.int .i64 (F m 0)) := (hbw.cell (p := ⟨b2, off2 + m * 4, none⟩) hb2).trans e0
      have d1 : wr.cell? ⟨b1, off1 + m * 4 + 1, none⟩ = some (.int .i64 (F m 1)) := (hbw.cell (p := ⟨b1, off1 + m * 4 + 1, none⟩) hb1).trans c1
      have f1 : wr.cell? ⟨b2, off2 + m * 4 + 1, none⟩ = some (.int .i64 (F m 1)) := (hbw.cell (p := ⟨b2, off2 + m * 4 + 1, none⟩) hb2).trans e1
      have d2 : wr.cell? ⟨b1, off1 + m * 4 + 2, none⟩ = some (.int .i64 (F m 2)) := (hbw.cell (p := ⟨b1, off1 + m * 4 + 2, none⟩) hb1).trans c2
      have f2 : wr.cell? ⟨b2, off2 + m * 4 + 2, none⟩ = some (.int .i64 (F m 2)) := (hbw.cell (p := ⟨b2, off2 + m * 4 + 2, none⟩) hb2).trans e2
      have d3 : wr.cell? ⟨b1, off1 + m * 4 + 3, none⟩ = some (.bool (L m)) := (hbw.cell (p := ⟨b1, off1 + m * 4 + 3, none⟩) hb1).trans c3
      have f3 : wr.cell? ⟨b2, off2 + m * 4 + 3, none⟩ = some (.bool (L m)) := (hbw.cell (p := ⟨b2, off2 + m * 4 + 3, none⟩) hb2).trans e3
      have hmi : (m : Int) < (n : Int) := by omega
      have hm0 : (0 : Int) ≤ (m : Int) := by omega
      have z1 : b1 < wr.heap.size := Nat.lt_of_lt_of_le hb1 hbw.size
      have z2 : b2 < wr.heap.size := Nat.lt_of_lt_of_le hb2 hbw.size
      have zs := hbw.size
      clear hb1 hb2 c0 c1 c2 c3 e0 e1 e2 e3
      go_wp2_with fail
      go_region_held3 (fun w' => w'.cell? ⟨b1, off1 + m * 4, none⟩ = some (.int .i64 (F m 0)) ∧ w'.cell? ⟨b1, off1 + m * 4 + 1, none⟩ = some (.int .i64 (F m 1)) ∧ w'.cell? ⟨b1, off1 + m * 4 + 2, none⟩ = some (.int .i64 (F m 2)) ∧ w'.cell? ⟨b1, off1 + m * 4 + 3, none⟩ = some (.bool (L m)) ∧ w'.cell? ⟨b2, off2 + m * 4, none⟩ = some (.int .i64 (F m 0)) ∧ w'.cell? ⟨b2, off2 + m * 4 + 1, none⟩ = some (.int .i64 (F m 1)) ∧ w'.cell? ⟨b2, off2 + m * 4 + 2, none⟩ = some (.int .i64 (F m 2)) ∧ w'.cell? ⟨b2, off2 + m * 4 + 3, none⟩ = some (.bool (L m))) (simp [go_sem, *])
        (first | (go_at_call 62; (with_reducible refine (eqSpell_same (F m 0) (F m 1) (F m 2) (L m) _).mono ?_); rintro e w1 ⟨rfl, hb3⟩; obtain ⟨hc3, hf3⟩ := bcell hb3; (try simp only [World.size_drew] at hc3 hf3)))
      have hbw1 := (hbw.drew).trans (hb3.mono zs)
      clear hc3 hf3 hb3 hbw d0 d1 d2 d3 f0 f1 f2 f3
      go_wp2_with fail
      go_roundw
      case rel => exact ⟨m + 1, by omega, by go_num, hbw1⟩
      case measure => simp [intOf]; omega
    · obtain rfl : m = n := by omega
      go_wp2
      go_ret
      exact ⟨rfl, hbw⟩
end Go.Proofs.Ytgfcmeiffhffaaa
namespace Go.Proofs.Ytgfcmeiffhffaaa
open Go.RowKit

/-- Is spell i right, and right behind spell i - 1? -/
def spellB (F : Nat → Nat → Int) (i : Nat) : Bool := spanB (F i 0) (F i 1) && inB (F i 2) 1 100 && (decide (i = 0) || decide (F (i - 1) 1 ≤ F i 0))
def spellsB (F : Nat → Nat → Int) (n : Nat) : Bool := allB (spellB F) n && decide (n ≤ 30)
theorem spellsB_bad {F : Nat → Nat → Int} {n m : Nat} (hm : m < n) (h : spellB F m = false) : spellsB F n = false := by
  simp [spellsB, allB_false hm h]
theorem spellsB_all {F : Nat → Nat → Int} {n : Nat} (h : ∀ i, i < n → spellB F i = true) : spellsB F n = decide (n ≤ 30) := by
  have : allB (spellB F) n = true := allB_iff.2 h
  simp [spellsB, this]
theorem spells_snoc {F : Nat → Nat → Int} {m : Nat} (h : ∀ i, i < m → spellB F i = true) (hp : spellB F m = true) : ∀ i, i < m + 1 → spellB F i = true := fun i hi => by
  rcases Nat.lt_or_ge i m with h1 | h1
  · exact h i h1
  · obtain rfl : i = m := by omega
    exact hp
set_option maxHeartbeats 4000000 in
theorem spellsOk_any (A : Option Addr) (n cap : Nat) (F : Nat → Nat → Int) (L : Nat → Bool) (w : World) (hn : n ≤ 1048576) (hr : RecV w 4 A n (spellV F L)) :
    Calls Try.prog 29 #[.slice A n cap] w fun e w' => e = .returned (.bool (spellsB F n)) ∧ Below w.heap.size w w' := by
  have HR := Lib.hid hr
  clear hr
  go_enter Try.func29, Try.ntmps29
  go_wp2_with fail
  go_loopw [7] (fun i wr => ∃ m : Nat, m ≤ n ∧ i = .int .i64 m ∧ Below w.heap.size w wr ∧ Hid (∀ i, i < m → spellB F i = true)) (fun i _ => n - (intOf i).toNat)
  case atStart => exact ⟨0, Nat.zero_le _, rfl, Below.refl _ _, fun i hi => by omega⟩
  case round =>
    obtain ⟨m, hm, rfl, hbw, hF⟩ := hrel
    by_cases hlt : m < n
    · obtain ⟨b, off, rfl, hb, c0, c1, c2, c3⟩ := HR.out.at4 hlt
      have d0 : wr.cell? ⟨b, off + m * 4, none⟩ = some (.int .i64 (F m 0)) := (hbw.cell (p := ⟨b, off + m * 4, none⟩) hb).trans c0
      have d1 : wr.cell? ⟨b, off + m * 4 + 1, none⟩ = some (.int .i64 (F m 1)) := (hbw.cell (p := ⟨b, off + m * 4 + 1, none⟩) hb).trans c1
      have d2 : wr.cell? ⟨b, off + m * 4 + 2, none⟩ = some (.int .i64 (F m 2)) := (hbw.cell (p := ⟨b, off + m * 4 + 2, none⟩) hb).trans c2
      have d3 : wr.cell? ⟨b, off + m * 4 + 3, none⟩ = some (.bool (L m)) := (hbw.cell (p := ⟨b, off + m * 4 + 3, none⟩) hb).trans c3
      have hmi : (m : Int) < (n : Int) := by omega
      have hm0 : (0 : Int) ≤ (m : Int) := by omega
      have lb : b < wr.heap.size := Nat.lt_of_lt_of_le hb hbw.size
      have HB := Lib.hid hbw
      have hbs := hbw.size
      clear c0 c1 c2 c3 hbw hb
      rcases Bool.eq_false_or_eq_true (spanB (F m 0) (F m 1)) with a1 | a1
      · skip
        rcases Bool.eq_false_or_eq_true (inB (F m 2) 1 100) with a2 | a2
        · by_cases hz : m = 0
          · have hz2 : decide (0 < m) = false := by simp; omega
            have HZ := Lib.hid hz
            clear hz
            go_wp2_with fail
            go_big_quiet (first | (go_at_call 60; exact quiet_eq (isSpan_any (F m 0) (F m 1) _)) | (go_at_call 59; exact quiet_eq (within_any (F m 2) 1 100 _)))
            go_wp2
            (go_roundw; (case rel => exact ⟨m + 1, by omega, by go_num, (by have hbw := HB.out; first | exact below_drewN (by (repeat (first | with_reducible exact Below.refl _ _ | with_reducible refine Below.drew ?_ | (with_reducible refine Below.alloc ?_ ?hsz _; case hsz => ((try simp) <;> (try omega))) | (with_reducible refine Below.setCell ?_ ?hsz _; case hsz => ((try simp) <;> (try omega))) | (with_reducible refine below_step (by with_reducible assumption) ?hsz ?_; case hsz => ((try simp) <;> (try omega)))))) _ | (repeat (first | with_reducible exact Below.refl _ _ | with_reducible refine Below.drew ?_ | (with_reducible refine Below.alloc ?_ ?hsz _; case hsz => ((try simp) <;> (try omega))) | (with_reducible refine Below.setCell ?_ ?hsz _; case hsz => ((try simp) <;> (try omega))) | (with_reducible refine below_step (by with_reducible assumption) ?hsz ?_; case hsz => ((try simp) <;> (try omega)))))), spells_snoc hF.out (by have h0 : decide (m = 0) = true := decide_eq_true HZ.out; simp only [spellB, a1, a2, h0, Bool.true_or, Bool.and_self] )⟩); (case measure => simp [intOf]; omega))
          · obtain ⟨b', off', e, hb, p0, p1, p2, p3⟩ := HR.out.at4 (show m - 1 < n by omega)
            cases e
            have g1 : wr.cell? ⟨b, off + (m - 1) * 4 + 1, none⟩ = some (.int .i64 (F (m - 1) 1)) := (HB.out.cell (p := ⟨b, off + (m - 1) * 4 + 1, none⟩) hb).trans p1
            have hz' : (0 : Int) < (m : Int) := by omega
            have hz1 : (m : Int) - 1 < (n : Int) := by omega
            have hz2 : decide (0 < m) = true := by simp; omega
            have hz4 : IntKind.i64.wrap ((m : Int) - 1) = (m : Int) - 1 := by rw [IntKind.wrap_i64]; omega
            have hz5 : ((m : Int) - 1).toNat = m - 1 := by omega
            have hz6 : (0 : Int) ≤ (m : Int) - 1 := by omega
            clear p0 p1 p2 p3 hb
            rcases Bool.eq_false_or_eq_true (decide (F m 0 < F (m - 1) 1)) with k1 | k1
            · go_wp2_with fail
              go_big_quiet (first | (go_at_call 60; exact quiet_eq (isSpan_any (F m 0) (F m 1) _)) | (go_at_call 59; exact quiet_eq (within_any (F m 2) 1 100 _)))
              go_wp2
              go_ret
              exact ⟨ret_bool (spellsB_bad hlt (by have h1 := of_decide_eq_true k1; have h2 : decide (F (m - 1) 1 ≤ F m 0) = false := (by simp; omega); simp [spellB, h2, hz] )).symm, (by have hbw := HB.out; first | exact below_drewN (by (repeat (first | with_reducible exact Below.refl _ _ | with_reducible refine Below.drew ?_ | (with_reducible refine Below.alloc ?_ ?hsz _; case hsz => ((try simp) <;> (try omega))) | (with_reducible refine Below.setCell ?_ ?hsz _; case hsz => ((try simp) <;> (try omega))) | (with_reducible refine below_step (by with_reducible assumption) ?hsz ?_; case hsz => ((try simp) <;> (try omega)))))) _ | (repeat (first | with_reducible exact Below.refl _ _ | with_reducible refine Below.drew ?_ | (with_reducible refine Below.alloc ?_ ?hsz _; case hsz => ((try simp) <;> (try omega))) | (with_reducible refine Below.setCell ?_ ?hsz _; case hsz => ((try simp) <;> (try omega))) | (with_reducible refine below_step (by with_reducible assumption) ?hsz ?_; case hsz => ((try simp) <;> (try omega))))))⟩
            · go_wp2_with fail
              go_big_quiet (first | (go_at_call 60; exact quiet_eq (isSpan_any (F m 0) (F m 1) _)) | (go_at_call 59; exact quiet_eq (within_any (F m 2) 1 100 _)))
              go_wp2
              (go_roundw; (case rel => exact ⟨m + 1, by omega, by go_num, (by have hbw := HB.out; first | exact below_drewN (by (repeat (first | with_reducible exact Below.refl _ _ | with_reducible refine Below.drew ?_ | (with_reducible refine Below.alloc ?_ ?hsz _; case hsz => ((try simp) <;> (try omega))) | (with_reducible refine Below.setCell ?_ ?hsz _; case hsz => ((try simp) <;> (try omega))) | (with_reducible refine below_step (by with_reducible assumption) ?hsz ?_; case hsz => ((try simp) <;> (try omega)))))) _ | (repeat (first | with_reducible exact Below.refl _ _ | with_reducible refine Below.drew ?_ | (with_reducible refine Below.alloc ?_ ?hsz _; case hsz => ((try simp) <;> (try omega))) | (with_reducible refine Below.setCell ?_ ?hsz _; case hsz => ((try simp) <;> (try omega))) | (with_reducible refine below_step (by with_reducible assumption) ?hsz ?_; case hsz => ((try simp) <;> (try omega)))))), spells_snoc hF.out (by have h1 := of_decide_eq_false k1; have h2 : decide (F (m - 1) 1 ≤ F m 0) = true := (by simp; omega); simp only [spellB, a1, a2, h2, Bool.or_true, Bool.and_self] )⟩); (case measure => simp [intOf]; omega))
        · go_wp2_with fail
          go_big_quiet (first | (go_at_call 60; exact quiet_eq (isSpan_any (F m 0) (F m 1) _)) | (go_at_call 59; exact quiet_eq (within_any (F m 2) 1 100 _)))
          go_wp2
          go_ret
          exact ⟨ret_bool (spellsB_bad hlt (by simp [spellB, a2] )).symm, (by have hbw := HB.out; first | exact below_drewN (by (repeat (first | with_reducible exact Below.refl _ _ | with_reducible refine Below.drew ?_ | (with_reducible refine Below.alloc ?_ ?hsz _; case hsz => ((try simp) <;> (try omega))) | (with_reducible refine Below.setCell ?_ ?hsz _; case hsz => ((try simp) <;> (try omega))) | (with_reducible refine below_step (by with_reducible assumption) ?hsz ?_; case hsz => ((try simp) <;> (try omega)))))) _ | (repeat (first | with_reducible exact Below.refl _ _ | with_reducible refine Below.drew ?_ | (with_reducible refine Below.alloc ?_ ?hsz _; case hsz => ((try simp) <;> (try omega))) | (with_reducible refine Below.setCell ?_ ?hsz _; case hsz => ((try simp) <;> (try omega))) | (with_reducible refine below_step (by with_reducible assumption) ?hsz ?_; case hsz => ((try simp) <;> (try omega))))))⟩
      · go_wp2_with fail
        go_big_quiet (first | (go_at_call 60; exact quiet_eq (isSpan_any (F m 0) (F m 1) _)) | (go_at_call 59; exact quiet_eq (within_any (F m 2) 1 100 _)))
        go_wp2
        go_ret
        exact ⟨ret_bool (spellsB_bad hlt (by simp [spellB, a1] )).symm, (by have hbw := HB.out; first | exact below_drewN (by (repeat (first | with_reducible exact Below.refl _ _ | with_reducible refine Below.drew ?_ | (with_reducible refine Below.alloc ?_ ?hsz _; case hsz => ((try simp) <;> (try omega))) | (with_reducible refine Below.setCell ?_ ?hsz _; case hsz => ((try simp) <;> (try omega))) | (with_reducible refine below_step (by with_reducible assumption) ?hsz ?_; case hsz => ((try simp) <;> (try omega)))))) _ | (repeat (first | with_reducible exact Below.refl _ _ | with_reducible refine Below.drew ?_ | (with_reducible refine Below.alloc ?_ ?hsz _; case hsz => ((try simp) <;> (try omega))) | (with_reducible refine Below.setCell ?_ ?hsz _; case hsz => ((try simp) <;> (try omega))) | (with_reducible refine below_step (by with_reducible assumption) ?hsz ?_; case hsz => ((try simp) <;> (try omega))))))⟩
    · obtain rfl : m = n := by omega
      go_wp2
      go_ret
      exact ⟨ret_bool (by rw [spellsB_all hF.out]; first | rfl | (simp; done) | (simp; omega)), hbw⟩
set_option maxHeartbeats 4000000 in
theorem sspellsOk_any (A : Option Addr) (n cap : Nat) (F : Nat → Nat → Int) (L : Nat → Bool) (w : World) (hn : n ≤ 1048576) (hr : RecV w 4 A n (spellV F L)) :
    Calls Try.prog 24 #[.slice A n cap] w fun e w' => e = .returned (.bool (spellsB F n)) ∧ Below w.heap.size w w' := by
  have HR := Lib.hid hr
  clear hr
  go_enter Try.func24, Try.ntmps24
  go_wp2_with fail
  go_loopw [3] (fun i wr => ∃ m : Nat, m ≤ n ∧ i = .int .i64 m ∧ Below w.heap.size w wr ∧ Hid (∀ i, i < m → spellB F i = true)) (fun i _ => n - (intOf i).toNat)
  case atStart => exact ⟨0, Nat.zero_le _, rfl, Below.refl _ _, fun i hi => by omega⟩
  case round =>
    obtain ⟨m, hm, rfl, hbw, hF⟩ := hrel
    by_cases hlt : m < n
    · obtain ⟨b, off, rfl, hb, c0, c1, c2, c3⟩ := HR.out.at4 hlt
      have d0 : wr.cell? ⟨b, off + m * 4, none⟩ = some (.int .i64 (F m 0)) := (hbw.cell (p := ⟨b, off + m * 4, none⟩) hb).trans c0
      have d1 : wr.cell? ⟨b, off + m * 4 + 1, none⟩ = some (.int .i64 (F m 1)) := (hbw.cell (p := ⟨b, off + m * 4 + 1, none⟩) hb).trans c1
      have d2 : wr.cell? ⟨b, off + m * 4 + 2, none⟩ = some (.int .i64 (F m 2)) := (hbw.cell (p := ⟨b, off + m * 4 + 2, none⟩) hb).trans c2
      have d3 : wr.cell? ⟨b, off + m * 4 + 3, none⟩ = some (.bool (L m)) := (hbw.cell (p := ⟨b, off + m * 4 + 3, none⟩) hb).trans c3
      have hmi : (m : Int) < (n : Int) := by omega
      have hm0 : (0 : Int) ≤ (m : Int) := by omega
      have lb : b < wr.heap.size := Nat.lt_of_lt_of_le hb hbw.size
      have HB := Lib.hid hbw
      have hbs := hbw.size
      clear c0 c1 c2 c3 hbw hb
      rcases Bool.eq_false_or_eq_true (spanB (F m 0) (F m 1)) with a1 | a1
      · obtain ⟨r0, r1, r2⟩ := spanB_true.1 a1
        have q0 : decide (F m 0 < 0) = false := by simp; omega
        have q1 : decide (F m 1 ≤ F m 0) = false := by simp; omega
        have q2 : decide (3600 < F m 1) = false := by simp; omega
        rcases Bool.eq_false_or_eq_true (inB (F m 2) 1 100) with a2 | a2
        · by_cases hz : m = 0
          · have hz2 : decide (0 < m) = false := by simp; omega
            have HZ := Lib.hid hz
            clear hz
            go_wp2_with fail
            go_big_quiet ((go_at_call 55; exact quiet_eq (l01In_any (F m 2) 1 100 _)))
            go_wp2
            (go_roundw; (case rel => exact ⟨m + 1, by omega, by go_num, (by have hbw := HB.out; first | exact below_drewN (by (repeat (first | with_reducible exact Below.refl _ _ | with_reducible refine Below.drew ?_ | (with_reducible refine Below.alloc ?_ ?hsz _; case hsz => ((try simp) <;> (try omega))) | (with_reducible refine Below.setCell ?_ ?hsz _; case hsz => ((try simp) <;> (try omega))) | (with_reducible refine below_step (by with_reducible assumption) ?hsz ?_; case hsz => ((try simp) <;> (try omega)))))) _ | (repeat (first | with_reducible exact Below.refl _ _ | with_reducible refine Below.drew ?_ | (with_reducible refine Below.alloc ?_ ?hsz _; case hsz => ((try simp) <;> (try omega))) | (with_reducible refine Below.setCell ?_ ?hsz _; case hsz => ((try simp) <;> (try omega))) | (with_reducible refine below_step (by with_reducible assumption) ?hsz ?_; case hsz => ((try simp) <;> (try omega)))))), spells_snoc hF.out (by have h0 : decide (m = 0) = true := decide_eq_true HZ.out; simp only [spellB, a1, a2, h0, Bool.true_or, Bool.and_self] )⟩); (case measure => simp [intOf]; omega))
          · obtain ⟨b', off', e, hb, p0, p1, p2, p3⟩ := HR.out.at4 (show m - 1 < n by omega)
            cases e
            have g1 : wr.cell? ⟨b, off + (m - 1) * 4 + 1, none⟩ = some (.int .i64 (F (m - 1) 1)) := (HB.out.cell (p := ⟨b, off + (m - 1) * 4 + 1, none⟩) hb).trans p1
            have hz' : (0 : Int) < (m : Int) := by omega
            have hz1 : (m : Int) - 1 < (n : Int) := by omega
            have hz2 : decide (0 < m) = true := by simp; omega
            have hz4 : IntKind.i64.wrap ((m : Int) - 1) = (m : Int) - 1 := by rw [IntKind.wrap_i64]; omega
            have hz5 : ((m : Int) - 1).toNat = m - 1 := by omega
            have hz6 : (0 : Int) ≤ (m : Int) - 1 := by omega
            clear p0 p1 p2 p3 hb
            rcases Bool.eq_false_or_eq_true (decide (F m 0 < F (m - 1) 1)) with k1 | k1
            · go_wp2_with fail
              go_big_quiet ((go_at_call 55; exact quiet_eq (l01In_any (F m 2) 1 100 _)))
              go_wp2
              go_ret
              exact ⟨ret_bool (spellsB_bad hlt (by have h1 := of_decide_eq_true k1; have h2 : decide (F (m - 1) 1 ≤ F m 0) = false := (by simp; omega); simp [spellB, h2, hz] )).symm, (by have hbw := HB.out; first | exact below_drewN (by (repeat (first | with_reducible exact Below.refl _ _ | with_reducible refine Below.drew ?_ | (with_reducible refine Below.alloc ?_ ?hsz _; case hsz => ((try simp) <;> (try omega))) | (with_reducible refine Below.setCell ?_ ?hsz _; case hsz => ((try simp) <;> (try omega))) | (with_reducible refine below_step (by with_reducible assumption) ?hsz ?_; case hsz => ((try simp) <;> (try omega)))))) _ | (repeat (first | with_reducible exact Below.refl _ _ | with_reducible refine Below.drew ?_ | (with_reducible refine Below.alloc ?_ ?hsz _; case hsz => ((try simp) <;> (try omega))) | (with_reducible refine Below.setCell ?_ ?hsz _; case hsz => ((try simp) <;> (try omega))) | (with_reducible refine below_step (by with_reducible assumption) ?hsz ?_; case hsz => ((try simp) <;> (try omega))))))⟩
            · go_wp2_with fail
              go_big_quiet ((go_at_call 55; exact quiet_eq (l01In_any (F m 2) 1 100 _)))
              go_wp2
              (go_roundw; (case rel => exact ⟨m + 1, by omega, by go_num, (by have hbw := HB.out; first | exact below_drewN (by (repeat (first | with_reducible exact Below.refl _ _ | with_reducible refine Below.drew ?_ | (with_reducible refine Below.alloc ?_ ?hsz _; case hsz => ((try simp) <;> (try omega))) | (with_reducible refine Below.setCell ?_ ?hsz _; case hsz => ((try simp) <;> (try omega))) | (with_reducible refine below_step (by with_reducible assumption) ?hsz ?_; case hsz => ((try simp) <;> (try omega)))))) _ | (repeat (first | with_reducible exact Below.refl _ _ | with_reducible refine Below.drew ?_ | (with_reducible refine Below.alloc ?_ ?hsz _; case hsz => ((try simp) <;> (try omega))) | (with_reducible refine Below.setCell ?_ ?hsz _; case hsz => ((try simp) <;> (try omega))) | (with_reducible refine below_step (by with_reducible assumption) ?hsz ?_; case hsz => ((try simp) <;> (try omega)))))), spells_snoc hF.out (by have h1 := of_decide_eq_false k1; have h2 : decide (F (m - 1) 1 ≤ F m 0) = true := (by simp; omega); simp only [spellB, a1, a2, h2, Bool.or_true, Bool.and_self] )⟩); (case measure => simp [intOf]; omega))
        · go_wp2_with fail
          go_big_quiet ((go_at_call 55; exact quiet_eq (l01In_any (F m 2) 1 100 _)))
          go_wp2
          go_ret
          exact ⟨ret_bool (spellsB_bad hlt (by simp [spellB, a2] )).symm, (by have hbw := HB.out; first | exact below_drewN (by (repeat (first | with_reducible exact Below.refl _ _ | with_reducible refine Below.drew ?_ | (with_reducible refine Below.alloc ?_ ?hsz _; case hsz => ((try simp) <;> (try omega))) | (with_reducible refine Below.setCell ?_ ?hsz _; case hsz => ((try simp) <;> (try omega))) | (with_reducible refine below_step (by with_reducible assumption) ?hsz ?_; case hsz => ((try simp) <;> (try omega)))))) _ | (repeat (first | with_reducible exact Below.refl _ _ | with_reducible refine Below.drew ?_ | (with_reducible refine Below.alloc ?_ ?hsz _; case hsz => ((try simp) <;> (try omega))) | (with_reducible refine Below.setCell ?_ ?hsz _; case hsz => ((try simp) <;> (try omega))) | (with_reducible refine below_step (by with_reducible assumption) ?hsz ?_; case hsz => ((try simp) <;> (try omega))))))⟩
      · have r0 := spanB_false a1
        rcases Bool.eq_false_or_eq_true (decide (F m 0 < 0)) with q0 | q0
        · go_wp2_with fail
          go_big_quiet ((go_at_call 55; exact quiet_eq (l01In_any (F m 2) 1 100 _)))
          go_wp2
          go_ret
          exact ⟨ret_bool (spellsB_bad hlt (by simp [spellB, a1] )).symm, (by have hbw := HB.out; first | exact below_drewN (by (repeat (first | with_reducible exact Below.refl _ _ | with_reducible refine Below.drew ?_ | (with_reducible refine Below.alloc ?_ ?hsz _; case hsz => ((try simp) <;> (try omega))) | (with_reducible refine Below.setCell ?_ ?hsz _; case hsz => ((try simp) <;> (try omega))) | (with_reducible refine below_step (by with_reducible assumption) ?hsz ?_; case hsz => ((try simp) <;> (try omega)))))) _ | (repeat (first | with_reducible exact Below.refl _ _ | with_reducible refine Below.drew ?_ | (with_reducible refine Below.alloc ?_ ?hsz _; case hsz => ((try simp) <;> (try omega))) | (with_reducible refine Below.setCell ?_ ?hsz _; case hsz => ((try simp) <;> (try omega))) | (with_reducible refine below_step (by with_reducible assumption) ?hsz ?_; case hsz => ((try simp) <;> (try omega))))))⟩
        · rcases Bool.eq_false_or_eq_true (decide (F m 1 ≤ F m 0)) with q1 | q1
          · go_wp2_with fail
            go_big_quiet ((go_at_call 55; exact quiet_eq (l01In_any (F m 2) 1 100 _)))
            go_wp2
            go_ret
            exact ⟨ret_bool (spellsB_bad hlt (by simp [spellB, a1] )).symm, (by have hbw := HB.out; first | exact below_drewN (by (repeat (first | with_reducible exact Below.refl _ _ | with_reducible refine Below.drew ?_ | (with_reducible refine Below.alloc ?_ ?hsz _; case hsz => ((try simp) <;> (try omega))) | (with_reducible refine Below.setCell ?_ ?hsz _; case hsz => ((try simp) <;> (try omega))) | (with_reducible refine below_step (by with_reducible assumption) ?hsz ?_; case hsz => ((try simp) <;> (try omega)))))) _ | (repeat (first | with_reducible exact Below.refl _ _ | with_reducible refine Below.drew ?_ | (with_reducible refine Below.alloc ?_ ?hsz _; case hsz => ((try simp) <;> (try omega))) | (with_reducible refine Below.setCell ?_ ?hsz _; case hsz => ((try simp) <;> (try omega))) | (with_reducible refine below_step (by with_reducible assumption) ?hsz ?_; case hsz => ((try simp) <;> (try omega))))))⟩
          · have q2 : decide (3600 < F m 1) = true := by
              have := of_decide_eq_false q0
              have := of_decide_eq_false q1
              simp; omega
            go_wp2_with fail
            go_big_quiet ((go_at_call 55; exact quiet_eq (l01In_any (F m 2) 1 100 _)))
            go_wp2
            go_ret
            exact ⟨ret_bool (spellsB_bad hlt (by simp [spellB, a1] )).symm, (by have hbw := HB.out; first | exact below_drewN (by (repeat (first | with_reducible exact Below.refl _ _ | with_reducible refine Below.drew ?_ | (with_reducible refine Below.alloc ?_ ?hsz _; case hsz => ((try simp) <;> (try omega))) | (with_reducible refine Below.setCell ?_ ?hsz _; case hsz => ((try simp) <;> (try omega))) | (with_reducible refine below_step (by with_reducible assumption) ?hsz ?_; case hsz => ((try simp) <;> (try omega)))))) _ | (repeat (first | with_reducible exact Below.refl _ _ | with_reducible refine Below.drew ?_ | (with_reducible refine Below.alloc ?_ ?hsz _; case hsz => ((try simp) <;> (try omega))) | (with_reducible refine Below.setCell ?_ ?hsz _; case hsz => ((try simp) <;> (try omega))) | (with_reducible refine below_step (by with_reducible assumption) ?hsz ?_; case hsz => ((try simp) <;> (try omega))))))⟩
    · obtain rfl : m = n := by omega
      go_wp2
      go_ret
      exact ⟨ret_bool (by rw [spellsB_all hF.out]; first | rfl | (simp; done) | (simp; omega)), hbw⟩
end Go.Proofs.Ytgfcmeiffhffaaa
