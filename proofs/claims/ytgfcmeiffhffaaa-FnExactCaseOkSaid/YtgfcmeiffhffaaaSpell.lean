/- Contracts of SpellsOk, of the program and of the reference. -/
import Derived.Test.YtgfcmeiffhffaaaRecSpell
import Derived.Test.YtgfcmeiffhffaaaSpan
import Derived.BigQuiet
import Derived.Deep.QuietTactic
import Derived.Outline
namespace Go.Proofs.Ytgfcmeiffhffaaa
open Go.RowKit

/-- Is spell i right, and right behind spell i - 1? -/
def spellB (F : Nat → Nat → Int) (i : Nat) : Bool := spanB (F i 0) (F i 1) && inB (F i 2) 1 100 && (decide (i = 0) || decide (F (i - 1) 1 ≤ F i 0))
def spellsB (F : Nat → Nat → Int) (n : Nat) : Bool := allB (spellB F) n && decide (n ≤ 30)
theorem spellsB_bad {F : Nat → Nat → Int} {n m : Nat} (hm : m < n) (h : spellB F m = false) : spellsB F n = false := by
  simp [spellsB, allB_false hm h]
theorem spellsB_all {F : Nat → Nat → Int} {n : Nat} (h : ∀ i, i < n → spellB F i = true) : spellsB F n = decide (n ≤ 30) := by
  have : allB (spellB F) n = true := allB_iff.2 h
  simp [spellsB, this]
theorem spells_snoc {F : Nat → Nat → Int} {m : Nat} (h : ∀ i, i < m → spellB F i = true) (hp : spellB F m = true) : ∀ i, i < m + 1 → spellB F i = true := fun i hi => by
  rcases Nat.lt_or_ge i m with h1 | h1
  · exact h i h1
  · obtain rfl : i = m := by omega
    exact hp
set_option maxHeartbeats 4000000 in
theorem spellsOk_any (A : Option Addr) (n cap : Nat) (F : Nat → Nat → Int) (L : Nat → Bool) (w : World) (hn : n ≤ 1048576) (hr : RecV w 4 A n (spellV F L)) :
    Calls Try.prog 29 #[.slice A n cap] w fun e w' => e = .returned (.bool (spellsB F n)) ∧ Below w.heap.size w w' := by
  have HR := Lib.hid hr
  clear hr
  go_enter Try.func29, Try.ntmps29
  go_wp2_with fail
  go_loopw [7] (fun i wr => ∃ m : Nat, m ≤ n ∧ i = .int .i64 m ∧ Below w.heap.size w wr ∧ Hid (∀ i, i < m → spellB F i = true)) (fun i _ => n - (intOf i).toNat)
  case atStart => exact ⟨0, Nat.zero_le _, rfl, Below.refl _ _, fun i hi => by omega⟩
  case round =>
    obtain ⟨m, hm, rfl, hbw, hF⟩ := hrel
    by_cases hlt : m < n
    · obtain ⟨b, off, rfl, hb, c0, c1, c2, c3⟩ := HR.out.at4 hlt
      have d0 : wr.cell? ⟨b, off + m * 4, none⟩ = some (.int .i64 (F m 0)) := (hbw.cell (p := ⟨b, off + m * 4, none⟩) hb).trans c0
      have d1 : wr.cell? ⟨b, off + m * 4 + 1, none⟩ = some (.int .i64 (F m 1)) := (hbw.cell (p := ⟨b, off + m * 4 + 1, none⟩) hb).trans c1
      have d2 : wr.cell? ⟨b, off + m * 4 + 2, none⟩ = some (.int .i64 (F m 2)) := (hbw.cell (p := ⟨b, off + m * 4 + 2, none⟩) hb).trans c2
      have d3 : wr.cell? ⟨b, off + m * 4 + 3, none⟩ = some (.bool (L m)) := (hbw.cell (p := ⟨b, off + m * 4 + 3, none⟩) hb).trans c3
      have hmi : (m : Int) < (n : Int) := by omega
      have hm0 : (0 : Int) ≤ (m : Int) := by omega
      have lb : b < wr.heap.size := Nat.lt_of_lt_of_le hb hbw.size
      have HB := Lib.hid hbw
      have hbs := hbw.size
      clear c0 c1 c2 c3 hbw hb
      rcases Bool.eq_false_or_eq_true (spanB (F m 0) (F m 1)) with a1 | a1
      · skip
        rcases Bool.eq_false_or_eq_true (inB (F m 2) 1 100) with a2 | a2
        · by_cases hz : m = 0
          · have hz2 : decide (0 < m) = false := by simp; omega
            have HZ := Lib.hid hz
            clear hz
            go_wp2_with fail
            go_big_quiet (first | (go_at_call 60; exact quiet_eq (isSpan_any (F m 0) (F m 1) _)) | (go_at_call 59; exact quiet_eq (within_any (F m 2) 1 100 _)))
            go_wp2
            (go_roundw; (case rel => exact ⟨m + 1, by omega, by go_num, (by have hbw := HB.out; first | exact below_drewN (by (repeat (first | with_reducible exact Below.refl _ _ | with_reducible refine Below.drew ?_ | (with_reducible refine Below.alloc ?_ ?hsz _; case hsz => ((try simp) <;> (try omega))) | (with_reducible refine Below.setCell ?_ ?hsz _; case hsz => ((try simp) <;> (try omega))) | (with_reducible refine below_step (by with_reducible assumption) ?hsz ?_; case hsz => ((try simp) <;> (try omega)))))) _ | (repeat (first | with_reducible exact Below.refl _ _ | with_reducible refine Below.drew ?_ | (with_reducible refine Below.alloc ?_ ?hsz _; case hsz => ((try simp) <;> (try omega))) | (with_reducible refine Below.setCell ?_ ?hsz _; case hsz => ((try simp) <;> (try omega))) | (with_reducible refine below_step (by with_reducible assumption) ?hsz ?_; case hsz => ((try simp) <;> (try omega)))))), spells_snoc hF.out (by have h0 : decide (m = 0) = true := decide_eq_true HZ.out; simp only [spellB, a1, a2, h0, Bool.true_or, Bool.and_self] )⟩); (case measure => simp [intOf]; omega))
          · obtain ⟨b', off', e, hb, p0, p1, p2, p3⟩ := HR.out.at4 (show m - 1 < n by omega)
            cases e
            have g1 : wr.cell? ⟨b, off + (m - 1) * 4 + 1, none⟩ = some (.int .i64 (F (m - 1) 1)) := (HB.out.cell (p := ⟨b, off + (m - 1) * 4 + 1, none⟩) hb).trans p1
            have hz' : (0 : Int) < (m : Int) := by omega
            have hz1 : (m : Int) - 1 < (n : Int) := by omega
            have hz2 : decide (0 < m) = true := by simp; omega
            have hz4 : IntKind.i64.wrap ((m : Int) - 1) = (m : Int) - 1 := by rw [IntKind.wrap_i64]; omega
            have hz5 : ((m : Int) - 1).toNat = m - 1 := by omega
            have hz6 : (0 : Int) ≤ (m : Int) - 1 := by omega
            clear p0 p1 p2 p3 hb
            rcases Bool.eq_false_or_eq_true (decide (F m 0 < F (m - 1) 1)) with k1 | k1
            · go_wp2_with fail
              go_big_quiet (first | (go_at_call 60; exact quiet_eq (isSpan_any (F m 0) (F m 1) _)) | (go_at_call 59; exact quiet_eq (within_any (F m 2) 1 100 _)))
              go_wp2
              go_ret
              exact ⟨ret_bool (spellsB_bad hlt (by have h1 := of_decide_eq_true k1; have h2 : decide (F (m - 1) 1 ≤ F m 0) = false := (by simp; omega); simp [spellB, h2, hz] )).symm, (by have hbw := HB.out; first | exact below_drewN (by (repeat (first | with_reducible exact Below.refl _ _ | with_reducible refine Below.drew ?_ | (with_reducible refine Below.alloc ?_ ?hsz _; case hsz => ((try simp) <;> (try omega))) | (with_reducible refine Below.setCell ?_ ?hsz _; case hsz => ((try simp) <;> (try omega))) | (with_reducible refine below_step (by with_reducible assumption) ?hsz ?_; case hsz => ((try simp) <;> (try omega)))))) _ | (repeat (first | with_reducible exact Below.refl _ _ | with_reducible refine Below.drew ?_ | (with_reducible refine Below.alloc ?_ ?hsz _; case hsz => ((try simp) <;> (try omega))) | (with_reducible refine Below.setCell ?_ ?hsz _; case hsz => ((try simp) <;> (try omega))) | (with_reducible refine below_step (by with_reducible assumption) ?hsz ?_; case hsz => ((try simp) <;> (try omega))))))⟩
            · go_wp2_with fail
              go_big_quiet (first | (go_at_call 60; exact quiet_eq (isSpan_any (F m 0) (F m 1) _)) | (go_at_call 59; exact quiet_eq (within_any (F m 2) 1 100 _)))
              go_wp2
              (go_roundw; (case rel => exact ⟨m + 1, by omega, by go_num, (by have hbw := HB.out; first | exact below_drewN (by (repeat (first | with_reducible exact Below.refl _ _ | with_reducible refine Below.drew ?_ | (with_reducible refine Below.alloc ?_ ?hsz _; case hsz => ((try simp) <;> (try omega))) | (with_reducible refine Below.setCell ?_ ?hsz _; case hsz => ((try simp) <;> (try omega))) | (with_reducible refine below_step (by with_reducible assumption) ?hsz ?_; case hsz => ((try simp) <;> (try omega)))))) _ | (repeat (first | with_reducible exact Below.refl _ _ | with_reducible refine Below.drew ?_ | (with_reducible refine Below.alloc ?_ ?hsz _; case hsz => ((try simp) <;> (try omega))) | (with_reducible refine Below.setCell ?_ ?hsz _; case hsz => ((try simp) <;> (try omega))) | (with_reducible refine below_step (by with_reducible assumption) ?hsz ?_; case hsz => ((try simp) <;> (try omega)))))), spells_snoc hF.out (by have h1 := of_decide_eq_false k1; have h2 : decide (F (m - 1) 1 ≤ F m 0) = true := (by simp; omega); simp only [spellB, a1, a2, h2, Bool.or_true, Bool.and_self] )⟩); (case measure => simp [intOf]; omega))
        · go_wp2_with fail
          go_big_quiet (first | (go_at_call 60; exact quiet_eq (isSpan_any (F m 0) (F m 1) _)) | (go_at_call 59; exact quiet_eq (within_any (F m 2) 1 100 _)))
          go_wp2
          go_ret
          exact ⟨ret_bool (spellsB_bad hlt (by simp [spellB, a2] )).symm, (by have hbw := HB.out; first | exact below_drewN (by (repeat (first | with_reducible exact Below.refl _ _ | with_reducible refine Below.drew ?_ | (with_reducible refine Below.alloc ?_ ?hsz _; case hsz => ((try simp) <;> (try omega))) | (with_reducible refine Below.setCell ?_ ?hsz _; case hsz => ((try simp) <;> (try omega))) | (with_reducible refine below_step (by with_reducible assumption) ?hsz ?_; case hsz => ((try simp) <;> (try omega)))))) _ | (repeat (first | with_reducible exact Below.refl _ _ | with_reducible refine Below.drew ?_ | (with_reducible refine Below.alloc ?_ ?hsz _; case hsz => ((try simp) <;> (try omega))) | (with_reducible refine Below.setCell ?_ ?hsz _; case hsz => ((try simp) <;> (try omega))) | (with_reducible refine below_step (by with_reducible assumption) ?hsz ?_; case hsz => ((try simp) <;> (try omega))))))⟩
      · go_wp2_with fail
        go_big_quiet (first | (go_at_call 60; exact quiet_eq (isSpan_any (F m 0) (F m 1) _)) | (go_at_call 59; exact quiet_eq (within_any (F m 2) 1 100 _)))
        go_wp2
        go_ret
        exact ⟨ret_bool (spellsB_bad hlt (by simp [spellB, a1] )).symm, (by have hbw := HB.out; first | exact below_drewN (by (repeat (first | with_reducible exact Below.refl _ _ | with_reducible refine Below.drew ?_ | (with_reducible refine Below.alloc ?_ ?hsz _; case hsz => ((try simp) <;> (try omega))) | (with_reducible refine Below.setCell ?_ ?hsz _; case hsz => ((try simp) <;> (try omega))) | (with_reducible refine below_step (by with_reducible assumption) ?hsz ?_; case hsz => ((try simp) <;> (try omega)))))) _ | (repeat (first | with_reducible exact Below.refl _ _ | with_reducible refine Below.drew ?_ | (with_reducible refine Below.alloc ?_ ?hsz _; case hsz => ((try simp) <;> (try omega))) | (with_reducible refine Below.setCell ?_ ?hsz _; case hsz => ((try simp) <;> (try omega))) | (with_reducible refine below_step (by with_reducible assumption) ?hsz ?_; case hsz => ((try simp) <;> (try omega))))))⟩
    · obtain rfl : m = n := by omega
      go_wp2
      go_ret
      exact ⟨ret_bool (by rw [spellsB_all hF.out]; first | rfl | (simp; done) | (simp; omega)), hbw⟩
set_option maxHeartbeats 4000000 in
theorem sspellsOk_any (A : Option Addr) (n cap : Nat) (F : Nat → Nat → Int) (L : Nat → Bool) (w : World) (hn : n ≤ 1048576) (hr : RecV w 4 A n (spellV F L)) :
    Calls Try.prog 24 #[.slice A n cap] w fun e w' => e = .returned (.bool (spellsB F n)) ∧ Below w.heap.size w w' := by
  have HR := Lib.hid hr
  clear hr
  go_enter Try.func24, Try.ntmps24
  go_wp2_with fail
  go_loopw [3] (fun i wr => ∃ m : Nat, m ≤ n ∧ i = .int .i64 m ∧ Below w.heap.size w wr ∧ Hid (∀ i, i < m → spellB F i = true)) (fun i _ => n - (intOf i).toNat)
  case atStart => exact ⟨0, Nat.zero_le _, rfl, Below.refl _ _, fun i hi => by omega⟩
  case round =>
    obtain ⟨m, hm, rfl, hbw, hF⟩ := hrel
    by_cases hlt : m < n
    · obtain ⟨b, off, rfl, hb, c0, c1, c2, c3⟩ := HR.out.at4 hlt
      have d0 : wr.cell? ⟨b, off + m * 4, none⟩ = some (.int .i64 (F m 0)) := (hbw.cell (p := ⟨b, off + m * 4, none⟩) hb).trans c0
      have d1 : wr.cell? ⟨b, off + m * 4 + 1, none⟩ = some (.int .i64 (F m 1)) := (hbw.cell (p := ⟨b, off + m * 4 + 1, none⟩) hb).trans c1
      have d2 : wr.cell? ⟨b, off + m * 4 + 2, none⟩ = some (.int .i64 (F m 2)) := (hbw.cell (p := ⟨b, off + m * 4 + 2, none⟩) hb).trans c2
      have d3 : wr.cell? ⟨b, off + m * 4 + 3, none⟩ = some (.bool (L m)) := (hbw.cell (p := ⟨b, off + m * 4 + 3, none⟩) hb).trans c3
      have hmi : (m : Int) < (n : Int) := by omega
      have hm0 : (0 : Int) ≤ (m : Int) := by omega
      have lb : b < wr.heap.size := Nat.lt_of_lt_of_le hb hbw.size
      have HB := Lib.hid hbw
      have hbs := hbw.size
      clear c0 c1 c2 c3 hbw hb
      rcases Bool.eq_false_or_eq_true (spanB (F m 0) (F m 1)) with a1 | a1
      · obtain ⟨r0, r1, r2⟩ := spanB_true.1 a1
        have q0 : decide (F m 0 < 0) = false := by simp; omega
        have q1 : decide (F m 1 ≤ F m 0) = false := by simp; omega
        have q2 : decide (3600 < F m 1) = false := by simp; omega
        rcases Bool.eq_false_or_eq_true (inB (F m 2) 1 100) with a2 | a2
        · by_cases hz : m = 0
          · have hz2 : decide (0 < m) = false := by simp; omega
            have HZ := Lib.hid hz
            clear hz
            go_wp2_with fail
            go_big_quiet ((go_at_call 55; exact quiet_eq (l01In_any (F m 2) 1 100 _)))
            go_wp2
            (go_roundw; (case rel => exact ⟨m + 1, by omega, by go_num, (by have hbw := HB.out; first | exact below_drewN (by (repeat (first | with_reducible exact Below.refl _ _ | with_reducible refine Below.drew ?_ | (with_reducible refine Below.alloc ?_ ?hsz _; case hsz => ((try simp) <;> (try omega))) | (with_reducible refine Below.setCell ?_ ?hsz _; case hsz => ((try simp) <;> (try omega))) | (with_reducible refine below_step (by with_reducible assumption) ?hsz ?_; case hsz => ((try simp) <;> (try omega)))))) _ | (repeat (first | with_reducible exact Below.refl _ _ | with_reducible refine Below.drew ?_ | (with_reducible refine Below.alloc ?_ ?hsz _; case hsz => ((try simp) <;> (try omega))) | (with_reducible refine Below.setCell ?_ ?hsz _; case hsz => ((try simp) <;> (try omega))) | (with_reducible refine below_step (by with_reducible assumption) ?hsz ?_; case hsz => ((try simp) <;> (try omega)))))), spells_snoc hF.out (by have h0 : decide (m = 0) = true := decide_eq_true HZ.out; simp only [spellB, a1, a2, h0, Bool.true_or, Bool.and_self] )⟩); (case measure => simp [intOf]; omega))
          · obtain ⟨b', off', e, hb, p0, p1, p2, p3⟩ := HR.out.at4 (show m - 1 < n by omega)
            cases e
            have g1 : wr.cell? ⟨b, off + (m - 1) * 4 + 1, none⟩ = some (.int .i64 (F (m - 1) 1)) := (HB.out.cell (p := ⟨b, off + (m - 1) * 4 + 1, none⟩) hb).trans p1
            have hz' : (0 : Int) < (m : Int) := by omega
            have hz1 : (m : Int) - 1 < (n : Int) := by omega
            have hz2 : decide (0 < m) = true := by simp; omega
            have hz4 : IntKind.i64.wrap ((m : Int) - 1) = (m : Int) - 1 := by rw [IntKind.wrap_i64]; omega
            have hz5 : ((m : Int) - 1).toNat = m - 1 := by omega
            have hz6 : (0 : Int) ≤ (m : Int) - 1 := by omega
            clear p0 p1 p2 p3 hb
            rcases Bool.eq_false_or_eq_true (decide (F m 0 < F (m - 1) 1)) with k1 | k1
            · go_wp2_with fail
              go_big_quiet ((go_at_call 55; exact quiet_eq (l01In_any (F m 2) 1 100 _)))
              go_wp2
              go_ret
              exact ⟨ret_bool (spellsB_bad hlt (by have h1 := of_decide_eq_true k1; have h2 : decide (F (m - 1) 1 ≤ F m 0) = false := (by simp; omega); simp [spellB, h2, hz] )).symm, (by have hbw := HB.out; first | exact below_drewN (by (repeat (first | with_reducible exact Below.refl _ _ | with_reducible refine Below.drew ?_ | (with_reducible refine Below.alloc ?_ ?hsz _; case hsz => ((try simp) <;> (try omega))) | (with_reducible refine Below.setCell ?_ ?hsz _; case hsz => ((try simp) <;> (try omega))) | (with_reducible refine below_step (by with_reducible assumption) ?hsz ?_; case hsz => ((try simp) <;> (try omega)))))) _ | (repeat (first | with_reducible exact Below.refl _ _ | with_reducible refine Below.drew ?_ | (with_reducible refine Below.alloc ?_ ?hsz _; case hsz => ((try simp) <;> (try omega))) | (with_reducible refine Below.setCell ?_ ?hsz _; case hsz => ((try simp) <;> (try omega))) | (with_reducible refine below_step (by with_reducible assumption) ?hsz ?_; case hsz => ((try simp) <;> (try omega))))))⟩
            · go_wp2_with fail
              go_big_quiet ((go_at_call 55; exact quiet_eq (l01In_any (F m 2) 1 100 _)))
              go_wp2
              (go_roundw; (case rel => exact ⟨m + 1, by omega, by go_num, (by have hbw := HB.out; first | exact below_drewN (by (repeat (first | with_reducible exact Below.refl _ _ | with_reducible refine Below.drew ?_ | (with_reducible refine Below.alloc ?_ ?hsz _; case hsz => ((try simp) <;> (try omega))) | (with_reducible refine Below.setCell ?_ ?hsz _; case hsz => ((try simp) <;> (try omega))) | (with_reducible refine below_step (by with_reducible assumption) ?hsz ?_; case hsz => ((try simp) <;> (try omega)))))) _ | (repeat (first | with_reducible exact Below.refl _ _ | with_reducible refine Below.drew ?_ | (with_reducible refine Below.alloc ?_ ?hsz _; case hsz => ((try simp) <;> (try omega))) | (with_reducible refine Below.setCell ?_ ?hsz _; case hsz => ((try simp) <;> (try omega))) | (with_reducible refine below_step (by with_reducible assumption) ?hsz ?_; case hsz => ((try simp) <;> (try omega)))))), spells_snoc hF.out (by have h1 := of_decide_eq_false k1; have h2 : decide (F (m - 1) 1 ≤ F m 0) = true := (by simp; omega); simp only [spellB, a1, a2, h2, Bool.or_true, Bool.and_self] )⟩); (case measure => simp [intOf]; omega))
        · go_wp2_with fail
          go_big_quiet ((go_at_call 55; exact quiet_eq (l01In_any (F m 2) 1 100 _)))
          go_wp2
          go_ret
          exact ⟨ret_bool (spellsB_bad hlt (by simp [spellB, a2] )).symm, (by have hbw := HB.out; first | exact below_drewN (by (repeat (first | with_reducible exact Below.refl _ _ | with_reducible refine Below.drew ?_ | (with_reducible refine Below.alloc ?_ ?hsz _; case hsz => ((try simp) <;> (try omega))) | (with_reducible refine Below.setCell ?_ ?hsz _; case hsz => ((try simp) <;> (try omega))) | (with_reducible refine below_step (by with_reducible assumption) ?hsz ?_; case hsz => ((try simp) <;> (try omega)))))) _ | (repeat (first | with_reducible exact Below.refl _ _ | with_reducible refine Below.drew ?_ | (with_reducible refine Below.alloc ?_ ?hsz _; case hsz => ((try simp) <;> (try omega))) | (with_reducible refine Below.setCell ?_ ?hsz _; case hsz => ((try simp) <;> (try omega))) | (with_reducible refine below_step (by with_reducible assumption) ?hsz ?_; case hsz => ((try simp) <;> (try omega))))))⟩
      · have r0 := spanB_false a1
        rcases Bool.eq_false_or_eq_true (decide (F m 0 < 0)) with q0 | q0
        · go_wp2_with fail
          go_big_quiet ((go_at_call 55; exact quiet_eq (l01In_any (F m 2) 1 100 _)))
          go_wp2
          go_ret
          exact ⟨ret_bool (spellsB_bad hlt (by simp [spellB, a1] )).symm, (by have hbw := HB.out; first | exact below_drewN (by (repeat (first | with_reducible exact Below.refl _ _ | with_reducible refine Below.drew ?_ | (with_reducible refine Below.alloc ?_ ?hsz _; case hsz => ((try simp) <;> (try omega))) | (with_reducible refine Below.setCell ?_ ?hsz _; case hsz => ((try simp) <;> (try omega))) | (with_reducible refine below_step (by with_reducible assumption) ?hsz ?_; case hsz => ((try simp) <;> (try omega)))))) _ | (repeat (first | with_reducible exact Below.refl _ _ | with_reducible refine Below.drew ?_ | (with_reducible refine Below.alloc ?_ ?hsz _; case hsz => ((try simp) <;> (try omega))) | (with_reducible refine Below.setCell ?_ ?hsz _; case hsz => ((try simp) <;> (try omega))) | (with_reducible refine below_step (by with_reducible assumption) ?hsz ?_; case hsz => ((try simp) <;> (try omega))))))⟩
        · rcases Bool.eq_false_or_eq_true (decide (F m 1 ≤ F m 0)) with q1 | q1
          · go_wp2_with fail
            go_big_quiet ((go_at_call 55; exact quiet_eq (l01In_any (F m 2) 1 100 _)))
            go_wp2
            go_ret
            exact ⟨ret_bool (spellsB_bad hlt (by simp [spellB, a1] )).symm, (by have hbw := HB.out; first | exact below_drewN (by (repeat (first | with_reducible exact Below.refl _ _ | with_reducible refine Below.drew ?_ | (with_reducible refine Below.alloc ?_ ?hsz _; case hsz => ((try simp) <;> (try omega))) | (with_reducible refine Below.setCell ?_ ?hsz _; case hsz => ((try simp) <;> (try omega))) | (with_reducible refine below_step (by with_reducible assumption) ?hsz ?_; case hsz => ((try simp) <;> (try omega)))))) _ | (repeat (first | with_reducible exact Below.refl _ _ | with_reducible refine Below.drew ?_ | (with_reducible refine Below.alloc ?_ ?hsz _; case hsz => ((try simp) <;> (try omega))) | (with_reducible refine Below.setCell ?_ ?hsz _; case hsz => ((try simp) <;> (try omega))) | (with_reducible refine below_step (by with_reducible assumption) ?hsz ?_; case hsz => ((try simp) <;> (try omega))))))⟩
          · have q2 : decide (3600 < F m 1) = true := by
              have := of_decide_eq_false q0
              have := of_decide_eq_false q1
              simp; omega
            go_wp2_with fail
            go_big_quiet ((go_at_call 55; exact quiet_eq (l01In_any (F m 2) 1 100 _)))
            go_wp2
            go_ret
            exact ⟨ret_bool (spellsB_bad hlt (by simp [spellB, a1] )).symm, (by have hbw := HB.out; first | exact below_drewN (by (repeat (first | with_reducible exact Below.refl _ _ | with_reducible refine Below.drew ?_ | (with_reducible refine Below.alloc ?_ ?hsz _; case hsz => ((try simp) <;> (try omega))) | (with_reducible refine Below.setCell ?_ ?hsz _; case hsz => ((try simp) <;> (try omega))) | (with_reducible refine below_step (by with_reducible assumption) ?hsz ?_; case hsz => ((try simp) <;> (try omega)))))) _ | (repeat (first | with_reducible exact Below.refl _ _ | with_reducible refine Below.drew ?_ | (with_reducible refine Below.alloc ?_ ?hsz _; case hsz => ((try simp) <;> (try omega))) | (with_reducible refine Below.setCell ?_ ?hsz _; case hsz => ((try simp) <;> (try omega))) | (with_reducible refine below_step (by with_reducible assumption) ?hsz ?_; case hsz => ((try simp) <;> (try omega))))))⟩
    · obtain rfl : m = n := by omega
      go_wp2
      go_ret
      exact ⟨ret_bool (by rw [spellsB_all hF.out]; first | rfl | (simp; done) | (simp; omega)), hbw⟩
end Go.Proofs.Ytgfcmeiffhffaaa
