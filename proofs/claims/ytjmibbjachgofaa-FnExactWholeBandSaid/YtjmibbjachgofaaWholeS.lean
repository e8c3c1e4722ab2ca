/- Contracts of WholeBand, of the reference. -/
import Derived.Test.YtjmibbjachgofaaWhole
namespace Go.Proofs.Ytjmibbjachgofaa
open Go.RowKit

set_option maxHeartbeats 2000000 in
theorem swhole_any (f : Int) (A : Option Addr) (n cap : Nat) (F : Nat → Int) (age rate years : Int) (w : World) (hn : n ≤ 1152921504606846975) (hr : Row w .i64 A n F) :
    Calls Try.prog 51 #[.agg #[.int .i64 f, .slice A n cap], .int .i64 age, .int .i64 rate, .int .i64 years] w fun e w' => e = .returned (.tuple #[.agg #[.int .i64 (wholeL f n F age rate years), .int .i64 (wholeH f n F age rate years)], .bool (wholeB f n F age rate years)]) ∧ Below w.heap.size w w' := by
  have HR := Lib.hid ((hr.alloc (.cells #[.int .i64 f, .slice A n cap] 39)).alloc (.cells #[.int .i64 0, .int .i64 0] 27))
  have HR0 := Lib.hid hr
  clear hr
  rcases Bool.eq_false_or_eq_true (annB f n F age rate years) with c1 | c1
  · have c0 := c1
    simp only [annB, Bool.and_eq_true] at c0
    obtain ⟨c2, c3⟩ := c0
    have eN : survN f n F age years 1000000000 = years.toNat + 1 := by simp [survN, c2]
    have hyr : 0 ≤ years ∧ years ≤ 120 := by
      simp only [survB, Bool.and_eq_true] at c2
      exact inB_true.1 c2.1.2
    obtain ⟨y0, y1⟩ := hyr
    obtain ⟨m, rfl⟩ := Int.eq_ofNat_of_zero_le y0
    rw [Int.toNat_natCast] at eN
    have EN := Lib.hid eN
    obtain ⟨r0, r1⟩ := inB_true.1 c3
    obtain ⟨d0, d1, d2, _⟩ := discount_bd r0 r1
    obtain ⟨p0, p1⟩ := annH_bd f n F age rate m
    have hRH : restH f n F age rate m = bandTimesH (valL (discountL rate) (discountH rate) (survP f n F age 1000000000 m) m) (valH (discountL rate) (discountH rate) (survP f n F age 1000000000 m) m) 120 := rfl
    obtain ⟨p2, p3⟩ := timesH_bd (valL (discountL rate) (discountH rate) (survP f n F age 1000000000 m) m) (valH (discountL rate) (discountH rate) (survP f n F age 1000000000 m) m) 120
    have C1 := Lib.hid (fun w => by have := sdiscount_any rate w; rw [c3] at this; exact this : ∀ w, Calls Try.prog 67 #[.int .i64 rate] w fun e w' => e = .returned (.tuple #[.agg #[.int .i64 (discountL rate), .int .i64 (discountH rate)], .bool true]) ∧ Below w.heap.size w w')
    have C2 := Lib.hid (fun W hW => by have := sann_any f A n cap F age rate m W hn hW; rw [c1] at this; exact this : ∀ W, Row W .i64 A n F → Calls Try.prog 49 #[.agg #[.int .i64 f, .slice A n cap], .int .i64 age, .int .i64 rate, .int .i64 m] W fun e w' => e = .returned (.tuple #[.agg #[.int .i64 (annL f n F age rate m), .int .i64 (annH f n F age rate m)], .bool true]) ∧ Below W.heap.size W w')
    have e2 : wholeH f n F age rate m = annH f n F age rate m + restH f n F age rate m := by simp [wholeH, c1]
    have e3 : wholeB f n F age rate m = true := c1
    rw [e2, e3, hRH, wholeL]
    clear e2 e3 c1 c2 eN hRH
    generalize discountL rate = L at *
    generalize discountH rate = U at *
    generalize hPL : annL f n F age rate m = PL at *
    generalize hPH : annH f n F age rate m = PH at *
    generalize hRT : bandTimesH (valL L U (survP f n F age 1000000000 m) m) (valH L U (survP f n F age 1000000000 m) m) 120 = RT at *
    have HRT := Lib.hid hRT
    clear hPL hPH hRT
    go_enter Try.func51, Try.ntmps51
    go_wp2_with fail
    with_reducible refine (C2.out _ HR.out).mono ?_
    rintro e w1 ⟨rfl, hb1⟩
    have X1 : Box w1 (w.heap.size + 1) 27 #[.int .i64 0, .int .i64 0] := by (repeat (first | with_reducible assumption | with_reducible exact Box.made _ _ _ | (with_reducible refine Box.made_at ?hg; case hg => (simp; done)) | with_reducible refine Box.drew ?_ | with_reducible refine Box.alloc ?_ _ | (with_reducible refine Box.put2 (a := .int .i64 0) (b := .int .i64 0) ?_ _ _) | (with_reducible refine Box.far ?_ ?hg _; case hg => ((try simp) <;> (try omega))) | with_reducible refine Box.kept ?_ (by with_reducible assumption)))
    have T1 : Box w1 w.heap.size 39 #[.int .i64 f, .slice A n cap] := by (repeat (first | with_reducible assumption | with_reducible exact Box.made _ _ _ | (with_reducible refine Box.made_at ?hg; case hg => (simp; done)) | with_reducible refine Box.drew ?_ | with_reducible refine Box.alloc ?_ _ | (with_reducible refine Box.put2 (a := .int .i64 0) (b := .int .i64 0) ?_ _ _) | (with_reducible refine Box.far ?_ ?hg _; case hg => ((try simp) <;> (try omega))) | with_reducible refine Box.kept ?_ (by with_reducible assumption)))
    have B1 : Below w.heap.size w w1 := by (repeat (first | with_reducible exact Below.refl _ _ | with_reducible refine Below.drew ?_ | (with_reducible refine Below.alloc ?_ ?hsz _; case hsz => ((try simp) <;> (try omega))) | (with_reducible refine Below.setCell ?_ ?hsz _; case hsz => ((try simp) <;> (try omega))) | (with_reducible refine below_step (by with_reducible assumption) ?hsz ?_; case hsz => ((try simp) <;> (try omega)))))
    have s1 := B1.size
    have l1 := X1.lt
    have l10 : w.heap.size + 1 < w1.heap.size := l1
    clear hb1 HR
    obtain ⟨t1, t2, t3, t4⟩ := T1.two
    have lt1 := T1.lt
    go_wp2_with fail
    with_reducible refine (ssurv_any f A n cap F age m 1000000000 _ hn (HR0.out.kept (B1.alloc (Nat.le_trans s1 (Nat.le_refl _)) _))).mono ?_
    rintro e wz ⟨v, rfl, o, hbz⟩
    rw [EN.out] at o
    obtain ⟨A4, c4, rfl, _, R4, hat⟩ := own_row o
    obtain ⟨ga, rfl, hg1, hg2, hcell, hfz⟩ := hat (by omega)
    have sz := hbz.size
    simp only [World.size_alloc] at sz hg1
    have Xz := (X1.alloc (.cells #[.int .i64 PL, .int .i64 PH] 27)).kept hbz
    have Tz := (T1.alloc (.cells #[.int .i64 PL, .int .i64 PH] 27)).kept hbz
    have Az := (Box.made w1 27 #[.int .i64 PL, .int .i64 PH]).kept hbz
    have Bz : Below w.heap.size w wz := by (repeat (first | with_reducible exact Below.refl _ _ | with_reducible refine Below.drew ?_ | (with_reducible refine Below.alloc ?_ ?hsz _; case hsz => ((try simp) <;> (try omega))) | (with_reducible refine Below.setCell ?_ ?hsz _; case hsz => ((try simp) <;> (try omega))) | (with_reducible refine below_step (by with_reducible assumption) ?hsz ?_; case hsz => ((try simp) <;> (try omega)))))
    have cm : wz.cell? ⟨ga, m, none⟩ = some (.int .i64 (survP f n F age 1000000000 m)) := hcell m (by omega)
    clear hbz X1 T1 B1 R4 o hat hcell hfz t1 t2 t3 t4 lt1
    go_wp2_with fail
    with_reducible refine (C1.out _).mono ?_
    rintro e w2 ⟨rfl, hb2⟩
    have s2 := hb2.size
    have X2 := (Xz.kept hb2).alloc (.cells #[.int .i64 L, .int .i64 U] 27)
    have A2 := (Az.kept hb2).alloc (.cells #[.int .i64 L, .int .i64 U] 27)
    have D2 := Box.made w2 27 #[.int .i64 L, .int .i64 U]
    have B2 : Below w.heap.size w (w2.alloc (.cells #[.int .i64 L, .int .i64 U] 27)) := by (repeat (first | with_reducible exact Below.refl _ _ | with_reducible refine Below.drew ?_ | (with_reducible refine Below.alloc ?_ ?hsz _; case hsz => ((try simp) <;> (try omega))) | (with_reducible refine Below.setCell ?_ ?hsz _; case hsz => ((try simp) <;> (try omega))) | (with_reducible refine below_step (by with_reducible assumption) ?hsz ?_; case hsz => ((try simp) <;> (try omega)))))
    have cm2 : (w2.alloc (.cells #[.int .i64 L, .int .i64 U] 27)).cell? ⟨ga, m, none⟩ = some (.int .i64 (survP f n F age 1000000000 m)) := by
      exact ((hb2.alloc s2 (.cells #[.int .i64 L, .int .i64 U] 27)).cell (p := ⟨ga, m, none⟩) hg2).trans cm
    clear hb2 Xz Tz Az Bz cm
    obtain ⟨t1, t2, t3, t4⟩ := D2.two
    have hp : powB L U m = true := by
      have a1 : bandOkB L U = true := bandOkB_true.2 ⟨d0, d1, by omega⟩
      have a2 : inB m 0 120 = true := inB_true.2 ⟨by omega, by omega⟩
      simp [powB, a1, a2, d2]
    have C3 := Lib.hid (fun w => by have := spow_any L U m w; rw [show powL L U m = (powP L U m).1 by simp [powL, hp], show powH L U m = (powP L U m).2 by simp [powH, hp], hp] at this; exact this : ∀ w, Calls Try.prog 70 #[.agg #[.int .i64 L, .int .i64 U], .int .i64 m] w fun e w' => e = .returned (.tuple #[.agg #[.int .i64 (powP L U m).1, .int .i64 (powP L U m).2], .bool true]) ∧ Below w.heap.size w w')
    clear hp
    unfold valL valH at HRT
    go_wp2_with fail
    generalize w2.alloc (.cells #[.int .i64 L, .int .i64 U] 27) = W at *
    have l1 := X2.lt
    have l2 := A2.lt
    have l3 := D2.lt
    have l4 : ga < W.heap.size := by omega
    have l5 : w1.heap.size < w2.heap.size := by omega
    generalize w2.heap.size = g2 at *
    generalize w1.heap.size = g1 at *
    clear hg1 hg2 sz s2 s1
    clear w2 wz w1
    with_reducible refine (C3.out _).mono ?_
    rintro e w3 ⟨rfl, hb3⟩
    have s3 := hb3.size
    have X3 := (X2.kept hb3).alloc (.cells #[.int .i64 (powP L U m).1, .int .i64 (powP L U m).2] 27)
    have A3 := (A2.kept hb3).alloc (.cells #[.int .i64 (powP L U m).1, .int .i64 (powP L U m).2] 27)
    have P3 := Box.made w3 27 #[.int .i64 (powP L U m).1, .int .i64 (powP L U m).2]
    have B3 : Below w.heap.size w (w3.alloc (.cells #[.int .i64 (powP L U m).1, .int .i64 (powP L U m).2] 27)) := by (repeat (first | with_reducible exact Below.refl _ _ | with_reducible refine Below.drew ?_ | (with_reducible refine Below.alloc ?_ ?hsz _; case hsz => ((try simp) <;> (try omega))) | (with_reducible refine Below.setCell ?_ ?hsz _; case hsz => ((try simp) <;> (try omega))) | (with_reducible refine below_step (by with_reducible assumption) ?hsz ?_; case hsz => ((try simp) <;> (try omega)))))
    have hcm := ((hb3.alloc hb3.size (.cells #[.int .i64 (powP L U m).1, .int .i64 (powP L U m).2] 27)).cell (p := ⟨ga, m, none⟩) l4).trans cm2
    have l6 : ga < (w3.alloc (.cells #[.int .i64 (powP L U m).1, .int .i64 (powP L U m).2] 27)).heap.size := by simp; omega
    clear hb3 X2 A2 B2 D2 cm2 t1 t2 t3 t4
    obtain ⟨t1, t2, t3, t4⟩ := P3.two
    have l7 := X3.lt
    have l8 := A3.lt
    have l9 := P3.lt
    have l10 : w.heap.size + 1 < w3.heap.size := by omega
    have l11 : g1 < w3.heap.size := by omega
    have hmi : (m : Int) < (m : Int) + 1 := by omega
    have hm0 : (0 : Int) ≤ (m : Int) := by omega
    go_wp2_with fail
    generalize w3.alloc (.cells #[.int .i64 (powP L U m).1, .int .i64 (powP L U m).2] 27) = V at *
    generalize w3.heap.size = g3 at *
    clear s3
    clear w3
    go_region_held3 (fun w' => w'.cell? ⟨g3, 0, none⟩ = some (.int .i64 (powP L U m).1) ∧ w'.cell? ⟨g3, 1, none⟩ = some (.int .i64 (powP L U m).2) ∧ w'.cell? ⟨ga, m, none⟩ = some (.int .i64 (survP f n F age 1000000000 m))) (simp [go_sem, *])
      (first | (go_at_call 68; (with_reducible refine (sbandMul_any (powP L U m).1 (powP L U m).2 (survP f n F age 1000000000 m) (survP f n F age 1000000000 m) _).mono ?_); rintro e w4 ⟨rfl, hb4⟩; obtain ⟨hc4, hf4⟩ := bcell hb4; (try simp only [World.size_drew] at hc4 hf4); have s4 := hb4.size; (try simp only [World.size_drew] at s4); (try simp only [World.size_alloc] at s4); (try have u8 := Nat.lt_of_succ_le s4); have u6 : g3 < w4.heap.size := (by omega); have u7 : ga < w4.heap.size := (by omega)))
    all_goals
      go_wp2_with fail
      (with_reducible refine (sbandTimes_any (bandMulL (powP L U m).1 (powP L U m).2 (survP f n F age 1000000000 m) (survP f n F age 1000000000 m)) (bandMulH (powP L U m).1 (powP L U m).2 (survP f n F age 1000000000 m) (survP f n F age 1000000000 m)) 120 _).mono ?_)
      rintro e w6 ⟨rfl, hb6⟩
      rw [HRT.out]
      have zX : Box w6 (w.heap.size + 1) 27 #[.int .i64 0, .int .i64 0] := by (repeat (first | with_reducible assumption | with_reducible exact Box.made _ _ _ | (with_reducible refine Box.made_at ?hg; case hg => (simp; done)) | with_reducible refine Box.drew ?_ | with_reducible refine Box.alloc ?_ _ | (with_reducible refine Box.put2 (a := .int .i64 0) (b := .int .i64 0) ?_ _ _) | (with_reducible refine Box.far ?_ ?hg _; case hg => ((try simp) <;> (try omega))) | with_reducible refine Box.kept ?_ (by with_reducible assumption)))
      have zA : Box w6 g1 27 #[.int .i64 PL, .int .i64 PH] := by (repeat (first | with_reducible assumption | with_reducible exact Box.made _ _ _ | (with_reducible refine Box.made_at ?hg; case hg => (simp; done)) | with_reducible refine Box.drew ?_ | with_reducible refine Box.alloc ?_ _ | (with_reducible refine Box.put2 (a := .int .i64 0) (b := .int .i64 0) ?_ _ _) | (with_reducible refine Box.far ?_ ?hg _; case hg => ((try simp) <;> (try omega))) | with_reducible refine Box.kept ?_ (by with_reducible assumption)))
      have zB : Below w.heap.size w w6 := by (repeat (first | with_reducible exact Below.refl _ _ | with_reducible refine Below.drew ?_ | (with_reducible refine Below.alloc ?_ ?hsz _; case hsz => ((try simp) <;> (try omega))) | (with_reducible refine Below.setCell ?_ ?hsz _; case hsz => ((try simp) <;> (try omega))) | (with_reducible refine below_step (by with_reducible assumption) ?hsz ?_; case hsz => ((try simp) <;> (try omega)))))
      clear hb4 hc4 hf4 hb6
      obtain ⟨f1, f2, f3, f4⟩ := zX.two
      obtain ⟨f5, f6, f7, f8⟩ := zA.two
      have l12 := zA.lt
      have l13 := zX.lt
      go_wp2_with fail
      exact bodyPost_ret (v := .tuple #[.agg #[.int .i64 PL, .int .i64 (PH + RT)], .bool true]) (by simp [results, Try.results51, go_sem, *]) rfl ⟨rfl, by (repeat (first | with_reducible exact Below.refl _ _ | with_reducible refine Below.drew ?_ | (with_reducible refine Below.alloc ?_ ?hsz _; case hsz => ((try simp) <;> (try omega))) | (with_reducible refine Below.setCell ?_ ?hsz _; case hsz => ((try simp) <;> (try omega))) | (with_reducible refine below_step (by with_reducible assumption) ?hsz ?_; case hsz => ((try simp) <;> (try omega)))))⟩
  · have e1 : wholeL f n F age rate years = 0 := by simp [wholeL, annL, c1]
    have e2 : wholeH f n F age rate years = 0 := by simp [wholeH, c1]
    have e3 : wholeB f n F age rate years = false := c1
    have e4 : annL f n F age rate years = 0 := by simp [annL, c1]
    have e5 : annH f n F age rate years = 0 := by simp [annH, c1]
    have C2 := Lib.hid (fun W hW => by have := sann_any f A n cap F age rate years W hn hW; rw [c1, e4, e5] at this; exact this : ∀ W, Row W .i64 A n F → Calls Try.prog 49 #[.agg #[.int .i64 f, .slice A n cap], .int .i64 age, .int .i64 rate, .int .i64 years] W fun e w' => e = .returned (.tuple #[.agg #[.int .i64 0, .int .i64 0], .bool false]) ∧ Below W.heap.size W w')
    rw [e1, e2, e3]
    clear e1 e2 e3 e4 e5 c1
    go_enter Try.func51, Try.ntmps51
    go_wp2_with fail
    with_reducible refine (C2.out _ HR.out).mono ?_
    rintro e w1 ⟨rfl, hb1⟩
    have X1 : Box w1 (w.heap.size + 1) 27 #[.int .i64 0, .int .i64 0] := by (repeat (first | with_reducible assumption | with_reducible exact Box.made _ _ _ | (with_reducible refine Box.made_at ?hg; case hg => (simp; done)) | with_reducible refine Box.drew ?_ | with_reducible refine Box.alloc ?_ _ | (with_reducible refine Box.put2 (a := .int .i64 0) (b := .int .i64 0) ?_ _ _) | (with_reducible refine Box.far ?_ ?hg _; case hg => ((try simp) <;> (try omega))) | with_reducible refine Box.kept ?_ (by with_reducible assumption)))
    have B1 : Below w.heap.size w w1 := by (repeat (first | with_reducible exact Below.refl _ _ | with_reducible refine Below.drew ?_ | (with_reducible refine Below.alloc ?_ ?hsz _; case hsz => ((try simp) <;> (try omega))) | (with_reducible refine Below.setCell ?_ ?hsz _; case hsz => ((try simp) <;> (try omega))) | (with_reducible refine below_step (by with_reducible assumption) ?hsz ?_; case hsz => ((try simp) <;> (try omega)))))
    have s1 := B1.size
    have l1 := X1.lt
    clear hb1 HR
    obtain ⟨e1, e2, e3, e4⟩ := X1.two
    go_wp2
    exact bodyPost_ret (v := .tuple #[.agg #[.int .i64 0, .int .i64 0], .bool false]) (by simp [results, Try.results51, go_sem, *]) rfl ⟨rfl, by (repeat (first | with_reducible exact Below.refl _ _ | with_reducible refine Below.drew ?_ | (with_reducible refine Below.alloc ?_ ?hsz _; case hsz => ((try simp) <;> (try omega))) | (with_reducible refine Below.setCell ?_ ?hsz _; case hsz => ((try simp) <;> (try omega))) | (with_reducible refine below_step (by with_reducible assumption) ?hsz ?_; case hsz => ((try simp) <;> (try omega)))))⟩
end Go.Proofs.Ytjmibbjachgofaa
