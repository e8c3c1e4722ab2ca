/- The contract of the program's AnnuityBand. -/
import Derived.Test.YtjmibbjachgofaaAnn
namespace Go.Proofs.Ytjmibbjachgofaa
open Go.RowKit

/-- The bounds of the annuity for y years. -/
def annP (l h : Int) (S : Nat → Int) : Nat → Int × Int
  | 0 => (0, 0)
  | y + 1 => (bandAddL (annP l h S y).1 (annP l h S y).2 (valL l h (S y) y) (valH l h (S y) y), bandAddH (annP l h S y).1 (annP l h S y).2 (valL l h (S y) y) (valH l h (S y) y))
def annB (f : Int) (n : Nat) (F : Nat → Int) (age rate years : Int) : Bool := survB f n F age years 1000000000 && inB rate 0 1000
def annL (f : Int) (n : Nat) (F : Nat → Int) (age rate years : Int) : Int := if annB f n F age rate years = true then (annP (discountL rate) (discountH rate) (survP f n F age 1000000000) years.toNat).1 else 0
def annH (f : Int) (n : Nat) (F : Nat → Int) (age rate years : Int) : Int := if annB f n F age rate years = true then (annP (discountL rate) (discountH rate) (survP f n F age 1000000000) years.toNat).2 else 0
set_option maxHeartbeats 2000000 in
theorem ann_any (f : Int) (A : Option Addr) (n cap : Nat) (F : Nat → Int) (age rate years : Int) (w : World) (hn : n ≤ 1152921504606846975) (hr : Row w .i64 A n F) :
    Calls Try.prog 36 #[.agg #[.int .i64 f, .slice A n cap], .int .i64 age, .int .i64 rate, .int .i64 years] w fun e w' => e = .returned (.tuple #[.agg #[.int .i64 (annL f n F age rate years), .int .i64 (annH f n F age rate years)], .bool (annB f n F age rate years)]) ∧ Below w.heap.size w w' := by
  have HR := Lib.hid ((hr.alloc (.cells #[.int .i64 f, .slice A n cap] 39)).alloc (.cells #[.int .i64 0, .int .i64 0] 27))
  clear hr
  rcases Bool.eq_false_or_eq_true (survB f n F age years 1000000000) with c1 | c1
  · have eN : survN f n F age years 1000000000 = years.toNat + 1 := by simp [survN, c1]
    have hyr : 0 ≤ years ∧ years ≤ 120 := by
      simp only [survB, Bool.and_eq_true] at c1
      exact inB_true.1 c1.1.2
    obtain ⟨y0, y1⟩ := hyr
    obtain ⟨m, rfl⟩ := Int.eq_ofNat_of_zero_le y0
    rw [Int.toNat_natCast] at eN
    have EN := Lib.hid eN
    clear eN
    rcases Bool.eq_false_or_eq_true (inB rate 0 1000) with c2 | c2
    · obtain ⟨r0, r1⟩ := inB_true.1 c2
      have e1 : annL f n F age rate m = (annP (discountL rate) (discountH rate) (survP f n F age 1000000000) m).1 := by simp [annL, annB, c1, c2]
      have e2 : annH f n F age rate m = (annP (discountL rate) (discountH rate) (survP f n F age 1000000000) m).2 := by simp [annH, annB, c1, c2]
      have e3 : annB f n F age rate m = true := by simp [annB, c1, c2]
      rw [e1, e2, e3]
      clear e1 e2 e3 c1
      obtain ⟨d0, d1, d2, _⟩ := discount_bd r0 r1
      have C1 := Lib.hid (fun w => by have := discount_any rate w; rw [c2] at this; exact this : ∀ w, Calls Try.prog 21 #[.int .i64 rate] w fun e w' => e = .returned (.tuple #[.agg #[.int .i64 (discountL rate), .int .i64 (discountH rate)], .bool true]) ∧ Below w.heap.size w w')
      generalize discountL rate = L at *
      generalize discountH rate = U at *
      go_enter Try.func36, Try.ntmps36
      go_wp2_with fail
      with_reducible refine (surv_any f A n cap F age m 1000000000 _ hn HR.out).mono ?_
      rintro e w1 ⟨v, rfl, o1, hb1⟩
      rw [EN.out] at o1
      obtain ⟨A1, c1, rfl, _, R1, hat⟩ := own_row o1
      obtain ⟨ga, rfl, hg1, hg2, hcell, hfz⟩ := hat (by omega)
      have X1 : Box w1 (w.heap.size + 1) 27 #[.int .i64 0, .int .i64 0] := by (repeat (first | with_reducible assumption | with_reducible exact Box.made _ _ _ | (with_reducible refine Box.made_at ?hg; case hg => (simp; done)) | with_reducible refine Box.drew ?_ | with_reducible refine Box.alloc ?_ _ | (with_reducible refine Box.put2 (a := .int .i64 0) (b := .int .i64 0) ?_ _ _) | (with_reducible refine Box.far ?_ ?hg _; case hg => ((try simp) <;> (try omega))) | with_reducible refine Box.kept ?_ (by with_reducible assumption)))
      have B1 : Below w.heap.size w w1 := by (repeat (first | with_reducible exact Below.refl _ _ | with_reducible refine Below.drew ?_ | (with_reducible refine Below.alloc ?_ ?hsz _; case hsz => ((try simp) <;> (try omega))) | (with_reducible refine Below.setCell ?_ ?hsz _; case hsz => ((try simp) <;> (try omega))) | (with_reducible refine below_step (by with_reducible assumption) ?hsz ?_; case hsz => ((try simp) <;> (try omega)))))
      have s1 := B1.size
      simp only [World.size_alloc] at hg1
      have RW := Lib.hid R1
      clear hb1 o1 R1 hat hcell hfz
      go_wp2_with fail
      with_reducible refine (C1.out _).mono ?_
      rintro e w2 ⟨rfl, hb2⟩
      have X2 := X1.kept hb2
      have R2 := Lib.hid (RW.out.kept hb2)
      have B2 := B1.trans (hb2.mono s1)
      have s2 := hb2.size
      clear hb2 RW B1 X1
      have hm0 : (((m : Int) + 1) == 0) = false := by simp; omega
      go_wp2_with fail
      have WX : Box ((w2.alloc (.cells #[.int .i64 L, .int .i64 U] 27)).alloc (.cells #[.int .i64 0, .int .i64 0] 27)) (w.heap.size + 1) 27 #[.int .i64 0, .int .i64 0] := by (repeat (first | with_reducible assumption | with_reducible exact Box.made _ _ _ | (with_reducible refine Box.made_at ?hg; case hg => (simp; done)) | with_reducible refine Box.drew ?_ | with_reducible refine Box.alloc ?_ _ | (with_reducible refine Box.put2 (a := .int .i64 0) (b := .int .i64 0) ?_ _ _) | (with_reducible refine Box.far ?_ ?hg _; case hg => ((try simp) <;> (try omega))) | with_reducible refine Box.kept ?_ (by with_reducible assumption)))
      have WD : Box ((w2.alloc (.cells #[.int .i64 L, .int .i64 U] 27)).alloc (.cells #[.int .i64 0, .int .i64 0] 27)) w2.heap.size 27 #[.int .i64 L, .int .i64 U] := by (repeat (first | with_reducible assumption | with_reducible exact Box.made _ _ _ | (with_reducible refine Box.made_at ?hg; case hg => (simp; done)) | with_reducible refine Box.drew ?_ | with_reducible refine Box.alloc ?_ _ | (with_reducible refine Box.put2 (a := .int .i64 0) (b := .int .i64 0) ?_ _ _) | (with_reducible refine Box.far ?_ ?hg _; case hg => ((try simp) <;> (try omega))) | with_reducible refine Box.kept ?_ (by with_reducible assumption)))
      have WS : Box ((w2.alloc (.cells #[.int .i64 L, .int .i64 U] 27)).alloc (.cells #[.int .i64 0, .int .i64 0] 27)) (w2.heap.size + 1) 27 #[.int .i64 0, .int .i64 0] := by (repeat (first | with_reducible assumption | with_reducible exact Box.made _ _ _ | (with_reducible refine Box.made_at ?hg; case hg => (simp; done)) | with_reducible refine Box.drew ?_ | with_reducible refine Box.alloc ?_ _ | (with_reducible refine Box.put2 (a := .int .i64 0) (b := .int .i64 0) ?_ _ _) | (with_reducible refine Box.far ?_ ?hg _; case hg => ((try simp) <;> (try omega))) | with_reducible refine Box.kept ?_ (by with_reducible assumption)))
      have WR := Lib.hid ((R2.out.alloc (.cells #[.int .i64 L, .int .i64 U] 27)).alloc (.cells #[.int .i64 0, .int .i64 0] 27))
      have WB : Below w.heap.size w ((w2.alloc (.cells #[.int .i64 L, .int .i64 U] 27)).alloc (.cells #[.int .i64 0, .int .i64 0] 27)) := by (repeat (first | with_reducible exact Below.refl _ _ | with_reducible refine Below.drew ?_ | (with_reducible refine Below.alloc ?_ ?hsz _; case hsz => ((try simp) <;> (try omega))) | (with_reducible refine Below.setCell ?_ ?hsz _; case hsz => ((try simp) <;> (try omega))) | (with_reducible refine below_step (by with_reducible assumption) ?hsz ?_; case hsz => ((try simp) <;> (try omega)))))
      generalize ((w2.alloc (.cells #[.int .i64 L, .int .i64 U] 27)).alloc (.cells #[.int .i64 0, .int .i64 0] 27)) = W at *
      have l1 : w.heap.size + 1 < w2.heap.size + 1 := by omega
      have l2 : ga < w2.heap.size + 1 := by omega
      have l3 : w2.heap.size < w2.heap.size + 1 := by omega
      clear R2 X2 B2
      generalize w2.heap.size + 1 = g3 at *
      generalize w2.heap.size = g2 at *
      clear hg2 s1 s2
      clear w1 w2
      go_loopw [34] (fun i wr => ∃ k : Nat, k ≤ m ∧ i = .int .i64 k ∧ Below g3 W wr ∧ Box wr g3 27 #[.int .i64 (annP L U (survP f n F age 1000000000) k).1, .int .i64 (annP L U (survP f n F age 1000000000) k).2]) (fun i _ => m - (intOf i).toNat)
      case atStart => exact ⟨0, Nat.zero_le _, rfl, Below.refl _ _, WS⟩
      case round =>
        obtain ⟨k, hk, rfl, hbw, yS⟩ := hrel
        have lS := yS.lt
        by_cases hlt : k < m
        · have yD := WD.below hbw l3
          obtain ⟨e1, e2, e3, e4⟩ := yD.two
          obtain ⟨e5, e6, e7, e8⟩ := yS.two
          have yR := Lib.hid (show Row wr .i64 (some ⟨ga, 0, none⟩) (m + 1) (survP f n F age 1000000000) from by
            rcases WR.out with h | ⟨b, off, e, hb, hc⟩
            · omega
            · cases e
              exact .inr ⟨ga, 0, rfl, by omega, fun i hi => (hbw.cell (p := ⟨ga, 0 + i, none⟩) l2).trans (hc i hi)⟩)
          have l4 : g2 < wr.heap.size := by omega
          go_wp2_with fail
          go_region_with (first | (go_at_call 62; (with_reducible refine (valueAfter_any L U (some ⟨ga, 0, none⟩) (m + 1) c1 (survP f n F age 1000000000) k _ d0 d1 d2 (by omega) (by omega) yR.out.drew).mono ?_); rintro e w4 ⟨rfl, hb4⟩; have z1 := yS.drew.kept hb4; have s4 := hb4.size; obtain ⟨f1, f2, f3, f4⟩ := z1.two) | (go_at_call 26; (with_reducible refine (bandAdd_any (annP L U (survP f n F age 1000000000) k).1 (annP L U (survP f n F age 1000000000) k).2 (valL L U (survP f n F age 1000000000 k) k) (valH L U (survP f n F age 1000000000 k) k) _).mono ?_); rintro e w5 ⟨rfl, hb5⟩; have z2 := z1.kept hb5; have s5 := hb5.size; obtain ⟨f5, f6, f7, f8⟩ := z2.two))
          all_goals
            simp only [World.size_drew] at s4
            go_wp2_with fail
            go_roundw
            case rel => exact ⟨k + 1, by omega, by go_num, by (repeat (first | with_reducible exact Below.refl _ _ | with_reducible refine Below.drew ?_ | (with_reducible refine Below.alloc ?_ ?hsz _; case hsz => ((try simp) <;> (try omega))) | (with_reducible refine Below.setCell ?_ ?hsz _; case hsz => ((try simp) <;> (try omega))) | (with_reducible refine below_step (by with_reducible assumption) ?hsz ?_; case hsz => ((try simp) <;> (try omega))))), by first | exact z2.put2 _ _ | exact (z2.put2 _ _).drew | exact (z2.drew.put2 _ _)⟩
            case measure => simp [intOf]; omega
        · obtain rfl : k = m := by omega
          have yX := WX.below hbw l1
          obtain ⟨e1, e2, e3, e4⟩ := yX.two
          obtain ⟨e5, e6, e7, e8⟩ := yS.two
          go_wp2
          exact bodyPost_ret (v := .tuple #[.agg #[.int .i64 (annP L U (survP f n F age 1000000000) k).1, .int .i64 (annP L U (survP f n F age 1000000000) k).2], .bool true]) (by simp [results, Try.results36, go_sem, *]) rfl ⟨rfl, (WB.trans (hbw.mono (by omega))).setCell (by simp) _ |>.setCell (by simp) _⟩
    · have e1 : annL f n F age rate m = 0 := by simp [annL, annB, c2]
      have e2 : annH f n F age rate m = 0 := by simp [annH, annB, c2]
      have e3 : annB f n F age rate m = false := by simp [annB, c2]
      rw [e1, e2, e3]
      clear e1 e2 e3 c1
      have C1 := Lib.hid (fun w => by have := discount_any rate w; rw [c2] at this; exact this : ∀ w, Calls Try.prog 21 #[.int .i64 rate] w fun e w' => e = .returned (.tuple #[.agg #[.int .i64 (discountL rate), .int .i64 (discountH rate)], .bool false]) ∧ Below w.heap.size w w')
      go_enter Try.func36, Try.ntmps36
      go_wp2_with fail
      with_reducible refine (surv_any f A n cap F age m 1000000000 _ hn HR.out).mono ?_
      rintro e w1 ⟨v, rfl, o1, hb1⟩
      rw [EN.out] at o1
      obtain ⟨A1, c1, rfl, _⟩ := own_row o1
      have X1 : Box w1 (w.heap.size + 1) 27 #[.int .i64 0, .int .i64 0] := by (repeat (first | with_reducible assumption | with_reducible exact Box.made _ _ _ | (with_reducible refine Box.made_at ?hg; case hg => (simp; done)) | with_reducible refine Box.drew ?_ | with_reducible refine Box.alloc ?_ _ | (with_reducible refine Box.put2 (a := .int .i64 0) (b := .int .i64 0) ?_ _ _) | (with_reducible refine Box.far ?_ ?hg _; case hg => ((try simp) <;> (try omega))) | with_reducible refine Box.kept ?_ (by with_reducible assumption)))
      have B1 : Below w.heap.size w w1 := by (repeat (first | with_reducible exact Below.refl _ _ | with_reducible refine Below.drew ?_ | (with_reducible refine Below.alloc ?_ ?hsz _; case hsz => ((try simp) <;> (try omega))) | (with_reducible refine Below.setCell ?_ ?hsz _; case hsz => ((try simp) <;> (try omega))) | (with_reducible refine below_step (by with_reducible assumption) ?hsz ?_; case hsz => ((try simp) <;> (try omega)))))
      have s1 := B1.size
      clear hb1 o1
      go_wp2_with fail
      with_reducible refine (C1.out _).mono ?_
      rintro e w2 ⟨rfl, hb2⟩
      have X2 := X1.kept hb2
      have B2 := B1.trans (hb2.mono s1)
      have s2 := hb2.size
      clear hb2 B1 X1
      obtain ⟨e1, e2, e3, e4⟩ := X2.two
      have l2 := X2.lt
      have hm0 : (((m : Int) + 1) == 0) = false := by simp; omega
      go_wp2_with fail
      exact bodyPost_ret (v := .tuple #[.agg #[.int .i64 0, .int .i64 0], .bool false]) (by simp [results, Try.results36, go_sem, *]) rfl ⟨rfl, by (repeat (first | with_reducible exact Below.refl _ _ | with_reducible refine Below.drew ?_ | (with_reducible refine Below.alloc ?_ ?hsz _; case hsz => ((try simp) <;> (try omega))) | (with_reducible refine Below.setCell ?_ ?hsz _; case hsz => ((try simp) <;> (try omega))) | (with_reducible refine below_step (by with_reducible assumption) ?hsz ?_; case hsz => ((try simp) <;> (try omega)))))⟩
  · have eN : survN f n F age years 1000000000 = 0 := by simp [survN, c1]
    have e1 : annL f n F age rate years = 0 := by simp [annL, annB, c1]
    have e2 : annH f n F age rate years = 0 := by simp [annH, annB, c1]
    have e3 : annB f n F age rate years = false := by simp [annB, c1]
    rw [e1, e2, e3]
    have EN := Lib.hid eN
    clear e1 e2 e3 c1 eN
    go_enter Try.func36, Try.ntmps36
    go_wp2_with fail
    with_reducible refine (surv_any f A n cap F age years 1000000000 _ hn HR.out).mono ?_
    rintro e w1 ⟨v, rfl, o1, hb1⟩
    rw [EN.out] at o1
    obtain ⟨A1, c1, rfl, _⟩ := own_row o1
    have X1 : Box w1 (w.heap.size + 1) 27 #[.int .i64 0, .int .i64 0] := by (repeat (first | with_reducible assumption | with_reducible exact Box.made _ _ _ | (with_reducible refine Box.made_at ?hg; case hg => (simp; done)) | with_reducible refine Box.drew ?_ | with_reducible refine Box.alloc ?_ _ | (with_reducible refine Box.put2 (a := .int .i64 0) (b := .int .i64 0) ?_ _ _) | (with_reducible refine Box.far ?_ ?hg _; case hg => ((try simp) <;> (try omega))) | with_reducible refine Box.kept ?_ (by with_reducible assumption)))
    have B1 : Below w.heap.size w w1 := by (repeat (first | with_reducible exact Below.refl _ _ | with_reducible refine Below.drew ?_ | (with_reducible refine Below.alloc ?_ ?hsz _; case hsz => ((try simp) <;> (try omega))) | (with_reducible refine Below.setCell ?_ ?hsz _; case hsz => ((try simp) <;> (try omega))) | (with_reducible refine below_step (by with_reducible assumption) ?hsz ?_; case hsz => ((try simp) <;> (try omega)))))
    have s1 := B1.size
    clear hb1 o1
    go_wp2_with fail
    with_reducible refine (discount_any rate _).mono ?_
    rintro e w2 ⟨rfl, hb2⟩
    have X2 := X1.kept hb2
    have B2 := B1.trans (hb2.mono s1)
    have s2 := hb2.size
    clear hb2 B1 X1
    obtain ⟨e1, e2, e3, e4⟩ := X2.two
    have l2 := X2.lt
    go_wp2_with fail
    exact bodyPost_ret (v := .tuple #[.agg #[.int .i64 0, .int .i64 0], .bool false]) (by simp [results, Try.results36, go_sem, *]) rfl ⟨rfl, by (repeat (first | with_reducible exact Below.refl _ _ | with_reducible refine Below.drew ?_ | (with_reducible refine Below.alloc ?_ ?hsz _; case hsz => ((try simp) <;> (try omega))) | (with_reducible refine Below.setCell ?_ ?hsz _; case hsz => ((try simp) <;> (try omega))) | (with_reducible refine below_step (by with_reducible assumption) ?hsz ?_; case hsz => ((try simp) <;> (try omega)))))⟩
end Go.Proofs.Ytjmibbjachgofaa
