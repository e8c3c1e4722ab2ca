/- Contracts of WholeBand, of the program and of the reference. -/
import Derived.Test.YtjmibbjachgofaaAnnS
namespace Go.Proofs.Ytjmibbjachgofaa
open Go.RowKit

def restH (f : Int) (n : Nat) (F : Nat → Int) (age rate years : Int) : Int := bandTimesH (valL (discountL rate) (discountH rate) (survP f n F age 1000000000 years.toNat) years.toNat) (valH (discountL rate) (discountH rate) (survP f n F age 1000000000 years.toNat) years.toNat) 120
def wholeB (f : Int) (n : Nat) (F : Nat → Int) (age rate years : Int) : Bool := annB f n F age rate years
def wholeL (f : Int) (n : Nat) (F : Nat → Int) (age rate years : Int) : Int := annL f n F age rate years
def wholeH (f : Int) (n : Nat) (F : Nat → Int) (age rate years : Int) : Int := if annB f n F age rate years = true then annH f n F age rate years + restH f n F age rate years else 0
theorem addH_bd (al ah bl bh : Int) : 0 ≤ bandAddH al ah bl bh ∧ bandAddH al ah bl bh ≤ 1000000000000000 := by
  unfold bandAddH
  split
  · rename_i h
    simp only [bandAddB, Bool.and_eq_true] at h
    have := bandOkB_true.1 h.2
    omega
  · omega
theorem timesH_bd (l h k : Int) : 0 ≤ bandTimesH l h k ∧ bandTimesH l h k ≤ 1000000000000000 := by
  unfold bandTimesH
  split
  · rename_i h
    simp only [bandTimesB, Bool.and_eq_true] at h
    have := bandOkB_true.1 h.2
    omega
  · omega
theorem annH_bd (f : Int) (n : Nat) (F : Nat → Int) (age rate years : Int) : 0 ≤ annH f n F age rate years ∧ annH f n F age rate years ≤ 1000000000000000 := by
  unfold annH
  split
  · cases years.toNat with
    | zero => simp [annP]
    | succ k => exact addH_bd _ _ _ _
  · omega
set_option maxHeartbeats 2000000 in
theorem whole_any (f : Int) (A : Option Addr) (n cap : Nat) (F : Nat → Int) (age rate years : Int) (w : World) (hn : n ≤ 1152921504606846975) (hr : Row w .i64 A n F) :
    Calls Try.prog 37 #[.agg #[.int .i64 f, .slice A n cap], .int .i64 age, .int .i64 rate, .int .i64 years] w fun e w' => e = .returned (.tuple #[.agg #[.int .i64 (wholeL f n F age rate years), .int .i64 (wholeH f n F age rate years)], .bool (wholeB f n F age rate years)]) ∧ Below w.heap.size w w' := by
  have HR := Lib.hid ((hr.alloc (.cells #[.int .i64 f, .slice A n cap] 39)).alloc (.cells #[.int .i64 0, .int .i64 0] 27))
  have HR0 := Lib.hid hr
  clear hr
  rcases Bool.eq_false_or_eq_true (annB f n F age rate years) with c1 | c1
  · have c0 := c1
    simp only [annB, Bool.and_eq_true] at c0
    obtain ⟨c2, c3⟩ := c0
    have eN : survN f n F age years 1000000000 = years.toNat + 1 := by simp [survN, c2]
    have hyr : 0 ≤ years ∧ years ≤ 120 := by
      simp only [survB, Bool.and_eq_true] at c2
      exact inB_true.1 c2.1.2
    obtain ⟨y0, y1⟩ := hyr
    obtain ⟨m, rfl⟩ := Int.eq_ofNat_of_zero_le y0
    rw [Int.toNat_natCast] at eN
    have EN := Lib.hid eN
    obtain ⟨r0, r1⟩ := inB_true.1 c3
    obtain ⟨d0, d1, d2, _⟩ := discount_bd r0 r1
    obtain ⟨p0, p1⟩ := annH_bd f n F age rate m
    have hRH : restH f n F age rate m = bandTimesH (valL (discountL rate) (discountH rate) (survP f n F age 1000000000 m) m) (valH (discountL rate) (discountH rate) (survP f n F age 1000000000 m) m) 120 := rfl
    obtain ⟨p2, p3⟩ := timesH_bd (valL (discountL rate) (discountH rate) (survP f n F age 1000000000 m) m) (valH (discountL rate) (discountH rate) (survP f n F age 1000000000 m) m) 120
    have C1 := Lib.hid (fun w => by have := discount_any rate w; rw [c3] at this; exact this : ∀ w, Calls Try.prog 21 #[.int .i64 rate] w fun e w' => e = .returned (.tuple #[.agg #[.int .i64 (discountL rate), .int .i64 (discountH rate)], .bool true]) ∧ Below w.heap.size w w')
    have C2 := Lib.hid (fun W hW => by have := ann_any f A n cap F age rate m W hn hW; rw [c1] at this; exact this : ∀ W, Row W .i64 A n F → Calls Try.prog 36 #[.agg #[.int .i64 f, .slice A n cap], .int .i64 age, .int .i64 rate, .int .i64 m] W fun e w' => e = .returned (.tuple #[.agg #[.int .i64 (annL f n F age rate m), .int .i64 (annH f n F age rate m)], .bool true]) ∧ Below W.heap.size W w')
    have e2 : wholeH f n F age rate m = annH f n F age rate m + restH f n F age rate m := by simp [wholeH, c1]
    have e3 : wholeB f n F age rate m = true := c1
    rw [e2, e3, hRH, wholeL]
    clear e2 e3 c1 c2 eN hRH
    generalize discountL rate = L at *
    generalize discountH rate = U at *
    generalize hPL : annL f n F age rate m = PL at *
    generalize hPH : annH f n F age rate m = PH at *
    generalize hRT : bandTimesH (valL L U (survP f n F age 1000000000 m) m) (valH L U (survP f n F age 1000000000 m) m) 120 = RT at *
    have HRT := Lib.hid hRT
    clear hPL hPH hRT
    go_enter Try.func37, Try.ntmps37
    go_wp2_with fail
    with_reducible refine (C2.out _ HR.out).mono ?_
    rintro e w1 ⟨rfl, hb1⟩
    have X1 : Box w1 (w.heap.size + 1) 27 #[.int .i64 0, .int .i64 0] := by (repeat (first | with_reducible assumption | with_reducible exact Box.made _ _ _ | (with_reducible refine Box.made_at ?hg; case hg => (simp; done)) | with_reducible refine Box.drew ?_ | with_reducible refine Box.alloc ?_ _ | (with_reducible refine Box.put2 (a := .int .i64 0) (b := .int .i64 0) ?_ _ _) | (with_reducible refine Box.far ?_ ?hg _; case hg => ((try simp) <;> (try omega))) | with_reducible refine Box.kept ?_ (by with_reducible assumption)))
    have T1 : Box w1 w.heap.size 39 #[.int .i64 f, .slice A n cap] := by (repeat (first | with_reducible assumption | with_reducible exact Box.made _ _ _ | (with_reducible refine Box.made_at ?hg; case hg => (simp; done)) | with_reducible refine Box.drew ?_ | with_reducible refine Box.alloc ?_ _ | (with_reducible refine Box.put2 (a := .int .i64 0) (b := .int .i64 0) ?_ _ _) | (with_reducible refine Box.far ?_ ?hg _; case hg => ((try simp) <;> (try omega))) | with_reducible refine Box.kept ?_ (by with_reducible assumption)))
    have B1 : Below w.heap.size w w1 := by (repeat (first | with_reducible exact Below.refl _ _ | with_reducible refine Below.drew ?_ | (with_reducible refine Below.alloc ?_ ?hsz _; case hsz => ((try simp) <;> (try omega))) | (with_reducible refine Below.setCell ?_ ?hsz _; case hsz => ((try simp) <;> (try omega))) | (with_reducible refine below_step (by with_reducible assumption) ?hsz ?_; case hsz => ((try simp) <;> (try omega)))))
    have s1 := B1.size
    have l1 := X1.lt
    have l10 : w.heap.size + 1 < w1.heap.size := l1
    clear hb1 HR
    go_wp2_with fail
    with_reducible refine (C1.out _).mono ?_
    rintro e w2 ⟨rfl, hb2⟩
    have s2 := hb2.size
    simp only [World.size_alloc] at s2
    have X2 := ((X1.alloc (.cells #[.int .i64 PL, .int .i64 PH] 27)).kept hb2).alloc (.cells #[.int .i64 L, .int .i64 U] 27)
    have T2 := ((T1.alloc (.cells #[.int .i64 PL, .int .i64 PH] 27)).kept hb2).alloc (.cells #[.int .i64 L, .int .i64 U] 27)
    have A2 := ((Box.made w1 27 #[.int .i64 PL, .int .i64 PH]).kept hb2).alloc (.cells #[.int .i64 L, .int .i64 U] 27)
    have D2 := Box.made w2 27 #[.int .i64 L, .int .i64 U]
    have B2 : Below w.heap.size w (w2.alloc (.cells #[.int .i64 L, .int .i64 U] 27)) := by (repeat (first | with_reducible exact Below.refl _ _ | with_reducible refine Below.drew ?_ | (with_reducible refine Below.alloc ?_ ?hsz _; case hsz => ((try simp) <;> (try omega))) | (with_reducible refine Below.setCell ?_ ?hsz _; case hsz => ((try simp) <;> (try omega))) | (with_reducible refine below_step (by with_reducible assumption) ?hsz ?_; case hsz => ((try simp) <;> (try omega)))))
    clear hb2 X1 T1 B1
    go_wp2_with fail
    generalize w2.alloc (.cells #[.int .i64 L, .int .i64 U] 27) = W at *
    generalize w2.heap.size = g2 at *
    generalize w1.heap.size = g1 at *
    have l2 := X2.lt
    have l3 := T2.lt
    have l4 := A2.lt
    have l5 := D2.lt
    have R2 := Lib.hid (HR0.out.kept B2)
    obtain ⟨t1, t2, t3, t4⟩ := T2.two
    obtain ⟨t5, t6, t7, t8⟩ := D2.two
    have l6 : g1 < g2 := by omega
    go_cut [14] (fun s14 wx => ∃ (g : Nat) (x : Int), s14 = .pointer (some ⟨g, 0, none⟩) ∧ Below w.heap.size w wx ∧ Box wx g1 27 #[.int .i64 PL, .int .i64 PH] ∧ Box wx (w.heap.size + 1) 27 #[.int .i64 0, .int .i64 0] ∧ Box wx g 27 #[.int .i64 x, .int .i64 RT] ∧ g1 < g)
    case first =>
      go_region_held3 (fun w' => w'.cell? ⟨w.heap.size, 0, none⟩ = some (.int .i64 f) ∧ w'.cell? ⟨w.heap.size, 1, none⟩ = some (.slice A n cap) ∧ w'.cell? ⟨g2, 0, none⟩ = some (.int .i64 L) ∧ w'.cell? ⟨g2, 1, none⟩ = some (.int .i64 U)) (simp [go_sem, *])
        (first | (go_at_call 34; (with_reducible refine (surv_any f A n cap F age m 1000000000 _ hn (by repeat (first | exact R2.out | with_reducible refine Row.drew ?_ | with_reducible refine Row.alloc ?_ _))).mono ?_); rintro e w4 ⟨v4, rfl, o4, hb4⟩; rw [EN.out] at o4; obtain ⟨A4, c4, rfl, _, R4, _⟩ := own_row o4; have RR4 := Lib.hid R4; clear R4 o4; obtain ⟨hc4, hf4⟩ := bcell hb4; (try simp only [World.size_drew] at hc4 hf4); have s4 := hb4.size; (try simp only [World.size_drew] at s4); (try simp only [World.size_alloc] at s4); (try have u8 := Nat.lt_of_succ_le s4); have u1 : w.heap.size < w4.heap.size := (by omega); have u2 : g2 < w4.heap.size := (by omega); have u3 : W.heap.size ≤ w4.heap.size := (by omega)) | (go_at_call 62; (with_reducible refine (valueAfter_any L U A4 (m + 1) c4 (survP f n F age 1000000000) m _ d0 d1 d2 (by omega) (by omega) (by repeat (first | exact RR4.out | with_reducible refine Row.drew ?_ | with_reducible refine Row.alloc ?_ _))).mono ?_); rintro e w5 ⟨rfl, hb5⟩; obtain ⟨hc5, hf5⟩ := bcell hb5; have s5 := hb5.size; (try simp only [World.size_drew] at s5); (try simp only [World.size_alloc] at s5); (try have u9 := Nat.lt_of_lt_of_le u8 s5); (try have u10 := Nat.lt_of_succ_le s5); have u4 : w.heap.size < w5.heap.size := (by omega); have u5 : g2 < w5.heap.size := (by omega)) | (go_at_call 27; (with_reducible refine (bandTimes_any (valL L U (survP f n F age 1000000000 m) m) (valH L U (survP f n F age 1000000000 m) m) 120 _).mono ?_); rintro e w6 ⟨rfl, hb6⟩; obtain ⟨hc6, hf6⟩ := bcell hb6; have s6 := hb6.size;  (try simp only [World.size_drew] at s6); (try simp only [World.size_alloc] at s6); (try have u11 := Nat.lt_of_lt_of_le u9 s6); (try have u12 := Nat.lt_of_lt_of_le u10 s6); (try have u13 := Nat.lt_of_succ_le s6);  have u6 : w.heap.size < w6.heap.size := (by omega); have u7 : g2 < w6.heap.size := (by omega)))
      all_goals go_goals
      all_goals
        go_wp2_with fail
        go_meet
        rw [HRT.out]
        refine ⟨_, bandTimesL (valL L U (survP f n F age 1000000000 m) m) (valH L U (survP f n F age 1000000000 m) m) 120, rfl, ?_, ?_, ?_, ?_, ?_⟩
      all_goals first | ((repeat (first | with_reducible assumption | with_reducible exact Box.made _ _ _ | (with_reducible refine Box.made_at ?hg; case hg => (simp; done)) | with_reducible refine Box.drew ?_ | with_reducible refine Box.alloc ?_ _ | (with_reducible refine Box.put2 (a := .int .i64 0) (b := .int .i64 0) ?_ _ _) | (with_reducible refine Box.far ?_ ?hg _; case hg => ((try simp) <;> (try omega))) | with_reducible refine Box.kept ?_ (by with_reducible assumption))); done) | ((repeat (first | with_reducible exact Below.refl _ _ | with_reducible refine Below.drew ?_ | (with_reducible refine Below.alloc ?_ ?hsz _; case hsz => ((try simp) <;> (try omega))) | (with_reducible refine Below.setCell ?_ ?hsz _; case hsz => ((try simp) <;> (try omega))) | (with_reducible refine below_step (by with_reducible assumption) ?hsz ?_; case hsz => ((try simp) <;> (try omega))))); done) | omega
    case rest =>
      obtain ⟨g, x, rfl, hbx, x1, x2, x3, lg⟩ := hcut
      obtain ⟨y1, y2, y3, y4⟩ := x1.two
      obtain ⟨z1, z2, z3, z4⟩ := x2.two
      obtain ⟨k1, k2, k3, k4⟩ := x3.two
      have lz := hbx.size
      have l7 : w.heap.size + 1 < g1 := by omega
      go_wp2
      exact bodyPost_ret (v := .tuple #[.agg #[.int .i64 PL, .int .i64 (PH + RT)], .bool true]) (by simp [results, Try.results37, go_sem, *]) rfl ⟨rfl, by (repeat (first | with_reducible exact Below.refl _ _ | with_reducible refine Below.drew ?_ | (with_reducible refine Below.alloc ?_ ?hsz _; case hsz => ((try simp) <;> (try omega))) | (with_reducible refine Below.setCell ?_ ?hsz _; case hsz => ((try simp) <;> (try omega))) | (with_reducible refine below_step (by with_reducible assumption) ?hsz ?_; case hsz => ((try simp) <;> (try omega)))))⟩
  · have e1 : wholeL f n F age rate years = 0 := by simp [wholeL, annL, c1]
    have e2 : wholeH f n F age rate years = 0 := by simp [wholeH, c1]
    have e3 : wholeB f n F age rate years = false := c1
    have e4 : annL f n F age rate years = 0 := by simp [annL, c1]
    have e5 : annH f n F age rate years = 0 := by simp [annH, c1]
    have C2 := Lib.hid (fun W hW => by have := ann_any f A n cap F age rate years W hn hW; rw [c1, e4, e5] at this; exact this : ∀ W, Row W .i64 A n F → Calls Try.prog 36 #[.agg #[.int .i64 f, .slice A n cap], .int .i64 age, .int .i64 rate, .int .i64 years] W fun e w' => e = .returned (.tuple #[.agg #[.int .i64 0, .int .i64 0], .bool false]) ∧ Below W.heap.size W w')
    rw [e1, e2, e3]
    clear e1 e2 e3 e4 e5 c1
    go_enter Try.func37, Try.ntmps37
    go_wp2_with fail
    with_reducible refine (C2.out _ HR.out).mono ?_
    rintro e w1 ⟨rfl, hb1⟩
    have X1 : Box w1 (w.heap.size + 1) 27 #[.int .i64 0, .int .i64 0] := by (repeat (first | with_reducible assumption | with_reducible exact Box.made _ _ _ | (with_reducible refine Box.made_at ?hg; case hg => (simp; done)) | with_reducible refine Box.drew ?_ | with_reducible refine Box.alloc ?_ _ | (with_reducible refine Box.put2 (a := .int .i64 0) (b := .int .i64 0) ?_ _ _) | (with_reducible refine Box.far ?_ ?hg _; case hg => ((try simp) <;> (try omega))) | with_reducible refine Box.kept ?_ (by with_reducible assumption)))
    have B1 : Below w.heap.size w w1 := by (repeat (first | with_reducible exact Below.refl _ _ | with_reducible refine Below.drew ?_ | (with_reducible refine Below.alloc ?_ ?hsz _; case hsz => ((try simp) <;> (try omega))) | (with_reducible refine Below.setCell ?_ ?hsz _; case hsz => ((try simp) <;> (try omega))) | (with_reducible refine below_step (by with_reducible assumption) ?hsz ?_; case hsz => ((try simp) <;> (try omega)))))
    have s1 := B1.size
    have l1 := X1.lt
    clear hb1 HR
    obtain ⟨e1, e2, e3, e4⟩ := X1.two
    go_wp2
    exact bodyPost_ret (v := .tuple #[.agg #[.int .i64 0, .int .i64 0], .bool false]) (by simp [results, Try.results37, go_sem, *]) rfl ⟨rfl, by (repeat (first | with_reducible exact Below.refl _ _ | with_reducible refine Below.drew ?_ | (with_reducible refine Below.alloc ?_ ?hsz _; case hsz => ((try simp) <;> (try omega))) | (with_reducible refine Below.setCell ?_ ?hsz _; case hsz => ((try simp) <;> (try omega))) | (with_reducible refine below_step (by with_reducible assumption) ?hsz ?_; case hsz => ((try simp) <;> (try omega)))))⟩
end Go.Proofs.Ytjmibbjachgofaa
