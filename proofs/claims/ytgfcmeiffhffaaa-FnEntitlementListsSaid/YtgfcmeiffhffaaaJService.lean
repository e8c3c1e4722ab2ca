/- Contract of the program's ServiceIn, at valid spells. -/
import Derived.Deep.RegionHeld3
import Derived.Deep.DeepCutAuto
import Derived.Test.YtgfcmeiffhffaaaJSpell
import Derived.Test.YtgfcmeiffhffaaaJAge
namespace Go.Proofs.Ytgfcmeiffhffaaa
open Go.RowKit

/-- The months of service up to month t of the first m spells, times their per cents. -/
def serI (F : Nat → Nat → Int) (L : Nat → Bool) (t : Int) : Nat → Int
  | 0 => 0
  | m + 1 => if L m = true then serI F L t m else serI F L t m + F m 2 * monI 0 t (F m 0) (F m 1)
theorem ser_leave {F : Nat → Nat → Int} {L : Nat → Bool} {t : Int} {m : Nat} (h : L m = true) : serI F L t m = serI F L t (m + 1) := by simp only [serI, if_pos h]
theorem ser_add {F : Nat → Nat → Int} {L : Nat → Bool} {t : Int} {m : Nat} (h : L m = false) : serI F L t m + F m 2 * monI 0 t (F m 0) (F m 1) = serI F L t (m + 1) := by
  simp only [serI]
  rw [if_neg (by rw [h]; decide)]
theorem spells_at {F : Nat → Nat → Int} {n i : Nat} (h : spellsB F n = true) (hi : i < n) : (0 ≤ F i 0 ∧ F i 0 ≤ 3600) ∧ (0 ≤ F i 1 ∧ F i 1 ≤ 3600) ∧ 1 ≤ F i 2 ∧ F i 2 ≤ 100 := by
  simp only [spellsB, Bool.and_eq_true] at h
  have h1 := allB_iff.1 h.1 i hi
  simp only [spellB, Bool.and_eq_true] at h1
  have h2 := inB_true.1 h1.1.2
  have h3 := h1.1.1
  simp only [spanB, Bool.and_eq_true, decide_eq_true_eq] at h3
  omega
theorem spells_len {F : Nat → Nat → Int} {n : Nat} (h : spellsB F n = true) : n ≤ 30 := by
  simp only [spellsB, Bool.and_eq_true, decide_eq_true_eq] at h
  exact h.2
theorem monI_bd {t lo hi : Int} (h2 : 0 ≤ t ∧ t ≤ 3600) (h3 : 0 ≤ lo ∧ lo ≤ 3600) : 0 ≤ monI 0 t lo hi ∧ monI 0 t lo hi ≤ 3600 := by
  simp only [monI]; omega
theorem ser_bd {F : Nat → Nat → Int} {L : Nat → Bool} {t : Int} {n : Nat} (h : spellsB F n = true) (ht : 0 ≤ t ∧ t ≤ 3600) : ∀ m, m ≤ n → 0 ≤ serI F L t m ∧ serI F L t m ≤ 360000 * m
  | 0, _ => ⟨Int.le_refl _, by simp [serI]⟩
  | m + 1, hm => by
    obtain ⟨a, b⟩ := ser_bd (L := L) h ht m (by omega)
    obtain ⟨h1, _, h3⟩ := spells_at h (show m < n by omega)
    obtain ⟨c0, c1⟩ := monI_bd (hi := F m 1) ht h1
    have p0 : 0 ≤ F m 2 * monI 0 t (F m 0) (F m 1) := Int.mul_nonneg (by omega) c0
    have p1 : F m 2 * monI 0 t (F m 0) (F m 1) ≤ 100 * monI 0 t (F m 0) (F m 1) := Int.mul_le_mul_of_nonneg_right h3.2 c0
    simp only [serI]
    split <;> omega
set_option maxRecDepth 100000 in
set_option maxHeartbeats 16000000 in
theorem serviceIn_any (A : Option Addr) (n cap : Nat) (F : Nat → Nat → Int) (L : Nat → Bool) (t : Int) (w : World) (hs : spellsB F n = true) (ht : 0 ≤ t ∧ t ≤ 3600) (hr : RecV w 4 A n (spellV F L)) :
    Calls Try.prog 88 #[.slice A n cap, .int .i64 0, .int .i64 t] w fun e w' => e = .returned (.int .i64 (serI F L t n)) ∧ Below w.heap.size w w' := by
  have HR := Lib.hid hr
  have HS := Lib.hid hs
  have hn := spells_len hs
  have e2 : inB t 0 3600 = true := inB_true.2 ht
  have HB0 := Lib.hid (fun m => ser_bd (L := L) hs ht m)
  have HO := Lib.hid (spellsOk_any A n cap F L w (by omega) hr)
  rw [hs] at HO
  clear hr hs
  go_enter Try.func88, Try.ntmps88
  go_wp2_with (first | (go_at_call 29; (with_reducible refine HO.out.mono ?_); rintro e w1 ⟨rfl, hb1⟩) | (go_at_call 51; (with_reducible refine (isEnd_any 0 _).mono ?_); rintro e w' ⟨rfl, rfl⟩) | (go_at_call 51; (with_reducible refine (isEnd_any t _).mono ?_); rintro e w' ⟨rfl, rfl⟩))
  have HB1 := Lib.hid hb1
  clear hb1 HO
  go_loopw [7, 25] (fun x i wr => ∃ m : Nat, m ≤ n ∧ i = .int .i64 m ∧ x = .int .i64 (serI F L t m) ∧ Below w.heap.size w wr) (fun _ i _ => n - (intOf i).toNat)
  case atStart => exact ⟨0, Nat.zero_le _, rfl, rfl, HB1.out⟩
  case round =>
    obtain ⟨m, hm, rfl, rfl, hbw⟩ := hrel
    have HB := Lib.hid hbw
    have zb := hbw.size
    by_cases hlt : m < n
    · obtain ⟨b, off, rfl, hb, c0, c1, c2, c3⟩ := HR.out.at4 hlt
      have d0 : wr.cell? ⟨b, off + m * 4, none⟩ = some (.int .i64 (F m 0)) := (hbw.cell (p := ⟨b, off + m * 4, none⟩) hb).trans c0
      have d1 : wr.cell? ⟨b, off + m * 4 + 1, none⟩ = some (.int .i64 (F m 1)) := (hbw.cell (p := ⟨b, off + m * 4 + 1, none⟩) hb).trans c1
      have d2 : wr.cell? ⟨b, off + m * 4 + 2, none⟩ = some (.int .i64 (F m 2)) := (hbw.cell (p := ⟨b, off + m * 4 + 2, none⟩) hb).trans c2
      have d3 : wr.cell? ⟨b, off + m * 4 + 3, none⟩ = some (.bool (L m)) := (hbw.cell (p := ⟨b, off + m * 4 + 3, none⟩) hb).trans c3
      have hmi : (m : Int) < (n : Int) := by omega
      have hm0 : (0 : Int) ≤ (m : Int) := by omega
      have lb : b < wr.heap.size := Nat.lt_of_lt_of_le hb zb
      obtain ⟨s0, s1⟩ := HB0.out m (by omega)
      obtain ⟨s2, s3⟩ := HB0.out (m + 1) (by omega)
      obtain ⟨p0, p1, p2, p3⟩ := spells_at HS.out hlt
      obtain ⟨q0, q1⟩ := monI_bd (hi := F m 1) ht p0
      clear c0 c1 c2 c3 hbw hb
      rcases Bool.eq_false_or_eq_true (L m) with k1 | k1
      · have K := Lib.hid k1
        have BX := Lib.hid (HB.out.alloc zb (.cells #[.int .i64 (F m 0), .int .i64 (F m 1), .int .i64 (F m 2), .bool true] 102))
        clear s2 s3 q0 q1
        go_wp2
        go_roundw
        case rel => exact ⟨m + 1, by omega, by go_num, by rw [ser_leave K.out], BX.out⟩
        case measure => simp [intOf]; omega
      · have K := Lib.hid k1
        have HMi := Lib.hid (monIn_any 0 t (F m 0) (F m 1) ⟨by omega, by omega⟩ ht p0 p1)
        rw [← ser_add k1] at s2 s3
        have HE := Lib.hid (ser_add (F := F) (t := t) k1)
        have HMU := Lib.hid (show IntKind.i64.wrap (F m 2 * monI 0 t (F m 0) (F m 1)) = F m 2 * monI 0 t (F m 0) (F m 1) by
          have u0 : 0 ≤ F m 2 * monI 0 t (F m 0) (F m 1) := Int.mul_nonneg (by omega) q0
          have u1 : F m 2 * monI 0 t (F m 0) (F m 1) ≤ 100 * monI 0 t (F m 0) (F m 1) := Int.mul_le_mul_of_nonneg_right p3 q0
          rw [IntKind.wrap_i64]; omega)
        have HAD := Lib.hid (show IntKind.i64.wrap (serI F L t m + F m 2 * monI 0 t (F m 0) (F m 1)) = serI F L t m + F m 2 * monI 0 t (F m 0) (F m 1) by
          rw [IntKind.wrap_i64]; omega)
        clear s0 s1 s2 s3 q0 q1 p0 p1 p2 p3
        have hmu := HMU.out
        have had := HAD.out
        generalize monI 0 t (F m 0) (F m 1) = mo at *
        generalize serI F L t m = sm at *
        generalize hsn : serI F L t (m + 1) = sn at *
        have HSN := Lib.hid hsn
        clear hsn
        generalize F m 0 = x0 at *
        generalize F m 1 = x1 at *
        generalize F m 2 = x2 at *
        have BX := Lib.hid (HB.out.alloc zb (.cells #[.int .i64 x0, .int .i64 x1, .int .i64 x2, .bool false] 102))
        go_wp2_with fail
        have W2 : Box (wr.alloc (.cells #[.int .i64 x0, .int .i64 x1, .int .i64 x2, .bool false] 102)) wr.heap.size 102 #[.int .i64 x0, .int .i64 x1, .int .i64 x2, .bool false] := Box.made _ _ _
        have zz : wr.heap.size < (wr.alloc (.cells #[.int .i64 x0, .int .i64 x1, .int .i64 x2, .bool false] 102)).heap.size := by simp
        generalize wr.alloc (.cells #[.int .i64 x0, .int .i64 x1, .int .i64 x2, .bool false] 102) = W at *
        have t0 := W2.cell 0
        have t1 := W2.cell 1
        have t2 := W2.cell 2
        simp at t0 t1 t2
        have zw : w.heap.size ≤ W.heap.size := by omega
        clear d0 d1 d2 d3
        go_region_held3 (fun w' => w'.cell? ⟨wr.heap.size, 0, none⟩ = some (.int .i64 x0) ∧ w'.cell? ⟨wr.heap.size, 1, none⟩ = some (.int .i64 x1) ∧ w'.cell? ⟨wr.heap.size, 2, none⟩ = some (.int .i64 x2)) (simp [go_sem, *])
            (first | (go_at_call 120; (with_reducible refine (HMi.out _).mono ?_); rintro e w4 ⟨rfl, hb4⟩; obtain ⟨hc4, hf4⟩ := bcell hb4; (try simp only [World.size_drew] at hc4 hf4)))
        all_goals (go_wp2_with fail; go_roundw; (case rel => exact ⟨m + 1, by omega, by go_num, congrArg (Value.int .i64) (HE.out.trans HSN.out.symm), by have hbw := BX.out; (repeat (first | with_reducible exact Below.refl _ _ | with_reducible refine Below.drew ?_ | (with_reducible refine Below.alloc ?_ ?hsz _; case hsz => ((try simp) <;> (try omega))) | (with_reducible refine Below.setCell ?_ ?hsz _; case hsz => ((try simp) <;> (try omega))) | (with_reducible refine below_step (by with_reducible assumption) ?hsz ?_; case hsz => ((try simp) <;> (try omega)))))⟩); (case measure => simp [intOf]; omega))
    · obtain rfl : m = n := by omega
      go_wp2
      go_ret
      exact ⟨rfl, HB.out⟩
end Go.Proofs.Ytgfcmeiffhffaaa
