/- Contracts of FracNew and FracMul, of the program and of the reference, for fractions that are not below 0. -/
import Derived.Test.YtebgkmmmjmipnaaGcdS
namespace Go.Proofs.Ytebgkmmmjmipnaa
open Go.RowKit

theorem inB_nat {a : Nat} {b : Int} (h : (a : Int) ≤ b) (c : Int) (hc : c ≤ 0) : inB a c b = true := inB_true.2 ⟨by omega, h⟩
/-- The fraction x / y and q come back. -/
def FracV (x y : Int) (q : Bool) (w : World) (e : Ending) (w' : World) : Prop := e = .returned (.tuple #[.agg #[.int .i64 x, .int .i64 y], .bool q]) ∧ Below w.heap.size w w'
def redX (a b : Nat) : Int := if redB a b = true then (redN a b : Nat) else (0 : Int)
def redY (a b : Nat) : Int := if redB a b = true then (redD a b : Nat) else (0 : Int)
theorem fracV_of {a b : Nat} {w : World} {e : Ending} {w' : World} (h : FracQ (redB a b) (redN a b) (redD a b) w e w') : FracV (redX a b) (redY a b) (redB a b) w e w' := by
  obtain ⟨h1, h2⟩ := h
  refine ⟨?_, h2⟩
  rw [h1]
  unfold redX redY
  split <;> rfl
set_option maxHeartbeats 1000000 in
theorem fracNew_any (a b : Nat) (ha : a ≤ 1000000000000) (hb1 : 1 ≤ b) (hb : b ≤ 1000000000000) (w : World) : Calls Try.prog 44 #[.int .i64 a, .int .i64 b] w (FracV (redX a b) (redY a b) (redB a b) w) := by
  have HO := Lib.hid (reduced_any a b (by omega) (by omega) hb1)
  have I1 := Lib.hid (within_any a (-1000000000000) 1000000000000)
  have I2 := Lib.hid (within_any b (-1000000000000) 1000000000000)
  rw [inB_nat (by omega) _ (by omega)] at I1 I2
  have hz : ((b : Int) == 0) = false := by simp; omega
  go_enter Try.func44, Try.ntmps44
  go_wp2_with (first | (go_at_call 37; (with_reducible refine (I1.out _).mono ?_); rintro e w' ⟨rfl, rfl⟩) | (go_at_call 37; (with_reducible refine (I2.out _).mono ?_); rintro e w' ⟨rfl, rfl⟩))
  (with_reducible refine (HO.out _).mono ?_); rintro e w1 hq; (obtain ⟨rfl, hb1⟩ := fracV_of hq); clear hq; (have X1 := (Box.made w 40 #[.int .i64 0, .int .i64 0]).kept hb1); (have B1 : Below w.heap.size w w1 := by (repeat (first | with_reducible exact Below.refl _ _ | with_reducible refine Below.drew ?_ | (with_reducible refine Below.alloc ?_ ?hsz _; case hsz => ((try simp) <;> (try omega))) | (with_reducible refine Below.setCell ?_ ?hsz _; case hsz => ((try simp) <;> (try omega))) | (with_reducible refine below_step (by with_reducible assumption) ?hsz ?_; case hsz => ((try simp) <;> (try omega)))))); (have z1 := B1.size); (have zx := X1.lt); (obtain ⟨e1, e2, e3, e4⟩ := X1.two); clear hb1 HO
  go_wp2_with fail
  exact bodyPost_ret (v := .tuple #[.agg #[.int .i64 (redX a b), .int .i64 (redY a b)], .bool (redB a b)]) (by simp [results, Try.results44, go_sem, *]) rfl ⟨rfl, by (repeat (first | with_reducible exact Below.refl _ _ | with_reducible refine Below.drew ?_ | (with_reducible refine Below.alloc ?_ ?hsz _; case hsz => ((try simp) <;> (try omega))) | (with_reducible refine Below.setCell ?_ ?hsz _; case hsz => ((try simp) <;> (try omega))) | (with_reducible refine below_step (by with_reducible assumption) ?hsz ?_; case hsz => ((try simp) <;> (try omega)))))⟩
set_option maxHeartbeats 1000000 in
theorem sfracNew_any (a b : Nat) (ha : a ≤ 1000000000000) (hb1 : 1 ≤ b) (hb : b ≤ 1000000000000) (w : World) : Calls Try.prog 42 #[.int .i64 a, .int .i64 b] w (FracV (redX a b) (redY a b) (redB a b) w) := by
  have HO := Lib.hid (smake_any a b (by omega) (by omega) hb1)
  have I1 := Lib.hid (l01In_any a (-1000000000000) 1000000000000)
  have I2 := Lib.hid (l01In_any b (-1000000000000) 1000000000000)
  rw [inB_nat (by omega) _ (by omega)] at I1 I2
  have hz : ((b : Int) == 0) = false := by simp; omega
  go_enter Try.func42, Try.ntmps42
  go_wp2_with (first | (go_at_call 34; (with_reducible refine (I1.out _).mono ?_); rintro e w' ⟨rfl, rfl⟩) | (go_at_call 34; (with_reducible refine (I2.out _).mono ?_); rintro e w' ⟨rfl, rfl⟩))
  (with_reducible refine (HO.out _).mono ?_); rintro e w1 hq; (obtain ⟨rfl, hb1⟩ := fracV_of hq); clear hq; (have X1 := (Box.made w 40 #[.int .i64 0, .int .i64 0]).kept hb1); (have B1 : Below w.heap.size w w1 := by (repeat (first | with_reducible exact Below.refl _ _ | with_reducible refine Below.drew ?_ | (with_reducible refine Below.alloc ?_ ?hsz _; case hsz => ((try simp) <;> (try omega))) | (with_reducible refine Below.setCell ?_ ?hsz _; case hsz => ((try simp) <;> (try omega))) | (with_reducible refine below_step (by with_reducible assumption) ?hsz ?_; case hsz => ((try simp) <;> (try omega)))))); (have z1 := B1.size); (have zx := X1.lt); (obtain ⟨e1, e2, e3, e4⟩ := X1.two); clear hb1 HO
  go_wp2_with fail
  exact bodyPost_ret (v := .tuple #[.agg #[.int .i64 (redX a b), .int .i64 (redY a b)], .bool (redB a b)]) (by simp [results, Try.results42, go_sem, *]) rfl ⟨rfl, by (repeat (first | with_reducible exact Below.refl _ _ | with_reducible refine Below.drew ?_ | (with_reducible refine Below.alloc ?_ ?hsz _; case hsz => ((try simp) <;> (try omega))) | (with_reducible refine Below.setCell ?_ ?hsz _; case hsz => ((try simp) <;> (try omega))) | (with_reducible refine below_step (by with_reducible assumption) ?hsz ?_; case hsz => ((try simp) <;> (try omega)))))⟩
set_option maxHeartbeats 1000000 in
theorem areFactors_any (a b c d : Nat) (h1 : fracB a b = true) (h2 : fracB c d = true) (ha : a ≤ 1000000) (hc : c ≤ 1000000) (w : World) : Calls Try.prog 54 #[.agg #[.int .i64 a, .int .i64 b], .agg #[.int .i64 c, .int .i64 d]] w fun e w' => e = .returned (.bool true) ∧ Below w.heap.size w w' := by
  obtain ⟨b0, b1, _, _⟩ := fracB_true h1
  obtain ⟨d0, d1, _, _⟩ := fracB_true h2
  have F1 := Lib.hid (fracOk_any a b (by omega) (by omega))
  have F2 := Lib.hid (fracOk_any c d (by omega) (by omega))
  rw [h1] at F1
  rw [h2] at F2
  have I1 := Lib.hid (within_any a (-1000000) 1000000)
  have I2 := Lib.hid (within_any c (-1000000) 1000000)
  rw [inB_nat (by omega) _ (by omega)] at I1 I2
  clear h1 h2
  go_enter Try.func54, Try.ntmps54
  go_wp2_with fail
  with_reducible refine (F1.out _).mono ?_
  rintro e w1 ⟨rfl, hb1⟩
  have X1 := ((Box.made w 40 #[.int .i64 a, .int .i64 b]).alloc (.cells #[.int .i64 c, .int .i64 d] 40)).kept hb1
  have X2 := (Box.made_at (w := w.alloc (.cells #[.int .i64 a, .int .i64 b] 40)) (t := 40) (cs := #[.int .i64 c, .int .i64 d]) (g := w.heap.size + 1) (by simp)).kept hb1
  have B1 : Below w.heap.size w w1 := by (repeat (first | with_reducible exact Below.refl _ _ | with_reducible refine Below.drew ?_ | (with_reducible refine Below.alloc ?_ ?hsz _; case hsz => ((try simp) <;> (try omega))) | (with_reducible refine Below.setCell ?_ ?hsz _; case hsz => ((try simp) <;> (try omega))) | (with_reducible refine below_step (by with_reducible assumption) ?hsz ?_; case hsz => ((try simp) <;> (try omega)))))
  have z1 := B1.size
  obtain ⟨e1, e2, e3, e4⟩ := X1.two
  obtain ⟨f1, f2, f3, f4⟩ := X2.two
  clear hb1
  go_wp2_with fail
  with_reducible refine (F2.out _).mono ?_
  rintro e w2 ⟨rfl, hb2⟩
  have Y1 := X1.kept hb2
  have Y2 := X2.kept hb2
  have B2 : Below w.heap.size w w2 := B1.trans (hb2.mono z1)
  obtain ⟨g1, g2, g3, g4⟩ := Y1.two
  obtain ⟨k1, k2, k3, k4⟩ := Y2.two
  clear hb2 X1 X2 e1 e2 e3 e4 f1 f2 f3 f4
  go_wp2_with (first | (go_at_call 37; (with_reducible refine (I1.out _).mono ?_); rintro e w' ⟨rfl, rfl⟩) | (go_at_call 37; (with_reducible refine (I2.out _).mono ?_); rintro e w' ⟨rfl, rfl⟩))
  go_ret
  exact ⟨rfl, by (repeat (first | with_reducible exact Below.refl _ _ | with_reducible refine Below.drew ?_ | (with_reducible refine Below.alloc ?_ ?hsz _; case hsz => ((try simp) <;> (try omega))) | (with_reducible refine Below.setCell ?_ ?hsz _; case hsz => ((try simp) <;> (try omega))) | (with_reducible refine below_step (by with_reducible assumption) ?hsz ?_; case hsz => ((try simp) <;> (try omega)))))⟩
set_option maxHeartbeats 1000000 in
theorem small_any (a b : Nat) (h1 : fracB a b = true) (ha : a ≤ 1000000) (w : World) : Calls Try.prog 52 #[.agg #[.int .i64 a, .int .i64 b]] w fun e w' => e = .returned (.bool true) ∧ Below w.heap.size w w' := by
  obtain ⟨b0, b1, _, _⟩ := fracB_true h1
  have F1 := Lib.hid (sfracOk_any a b (by omega) (by omega))
  rw [h1] at F1
  have I1 := Lib.hid (l01In_any a (-1000000) 1000000)
  rw [inB_nat (by omega) _ (by omega)] at I1
  clear h1
  go_enter Try.func52, Try.ntmps52
  go_wp2_with fail
  with_reducible refine (F1.out _).mono ?_
  rintro e w1 ⟨rfl, hb1⟩
  have X1 := (Box.made w 40 #[.int .i64 a, .int .i64 b]).kept hb1
  have B1 : Below w.heap.size w w1 := by (repeat (first | with_reducible exact Below.refl _ _ | with_reducible refine Below.drew ?_ | (with_reducible refine Below.alloc ?_ ?hsz _; case hsz => ((try simp) <;> (try omega))) | (with_reducible refine Below.setCell ?_ ?hsz _; case hsz => ((try simp) <;> (try omega))) | (with_reducible refine below_step (by with_reducible assumption) ?hsz ?_; case hsz => ((try simp) <;> (try omega)))))
  obtain ⟨e1, e2, e3, e4⟩ := X1.two
  clear hb1
  go_wp2_with (first | (go_at_call 34; (with_reducible refine (I1.out _).mono ?_); rintro e w' ⟨rfl, rfl⟩))
  go_ret
  exact ⟨rfl, by (repeat (first | with_reducible exact Below.refl _ _ | with_reducible refine Below.drew ?_ | (with_reducible refine Below.alloc ?_ ?hsz _; case hsz => ((try simp) <;> (try omega))) | (with_reducible refine Below.setCell ?_ ?hsz _; case hsz => ((try simp) <;> (try omega))) | (with_reducible refine below_step (by with_reducible assumption) ?hsz ?_; case hsz => ((try simp) <;> (try omega)))))⟩
set_option maxHeartbeats 2000000 in
theorem fracMul_any (a b c d : Nat) (h1 : fracB a b = true) (h2 : fracB c d = true) (ha : a ≤ 1000000) (hc : c ≤ 1000000) (w : World) : Calls Try.prog 45 #[.agg #[.int .i64 a, .int .i64 b], .agg #[.int .i64 c, .int .i64 d]] w (FracV (redX (a * c) (b * d)) (redY (a * c) (b * d)) (redB (a * c) (b * d)) w) := by
  obtain ⟨b0, b1, _, _⟩ := fracB_true h1
  obtain ⟨d0, d1, _, _⟩ := fracB_true h2
  have m1 : a * c ≤ 1000000 * 1000000 := Nat.mul_le_mul ha hc
  have m2 : b * d ≤ 1000000 * 1000000 := Nat.mul_le_mul b1 d1
  have m3 : 1 ≤ b * d := Nat.mul_pos b0 d0
  have k1 : (a : Int) * (c : Int) = ((a * c : Nat) : Int) := rfl
  have k2 : (b : Int) * (d : Int) = ((b * d : Nat) : Int) := rfl
  have HO := Lib.hid (reduced_any (a * c) (b * d) (by omega) (by omega) m3)
  have AF := Lib.hid (areFactors_any a b c d h1 h2 ha hc)
  clear h1 h2
  generalize a * c = p at *
  generalize b * d = r at *
  go_enter Try.func45, Try.ntmps45
  go_wp2_with fail
  with_reducible refine (AF.out _).mono ?_
  rintro e w1 ⟨rfl, hb1⟩
  have X1 := (((Box.made w 40 #[.int .i64 a, .int .i64 b]).alloc (.cells #[.int .i64 c, .int .i64 d] 40)).alloc (.cells #[.int .i64 0, .int .i64 0] 40)).kept hb1
  have X2 := ((Box.made_at (w := w.alloc (.cells #[.int .i64 a, .int .i64 b] 40)) (t := 40) (cs := #[.int .i64 c, .int .i64 d]) (g := w.heap.size + 1) (by simp)).alloc (.cells #[.int .i64 0, .int .i64 0] 40)).kept hb1
  have X3 := (Box.made_at (w := (w.alloc (.cells #[.int .i64 a, .int .i64 b] 40)).alloc (.cells #[.int .i64 c, .int .i64 d] 40)) (t := 40) (cs := #[.int .i64 0, .int .i64 0]) (g := w.heap.size + 2) (by simp)).kept hb1
  have B1 : Below w.heap.size w w1 := by (repeat (first | with_reducible exact Below.refl _ _ | with_reducible refine Below.drew ?_ | (with_reducible refine Below.alloc ?_ ?hsz _; case hsz => ((try simp) <;> (try omega))) | (with_reducible refine Below.setCell ?_ ?hsz _; case hsz => ((try simp) <;> (try omega))) | (with_reducible refine below_step (by with_reducible assumption) ?hsz ?_; case hsz => ((try simp) <;> (try omega)))))
  have z1 := B1.size
  obtain ⟨e1, e2, e3, e4⟩ := X1.two
  obtain ⟨f1, f2, f3, f4⟩ := X2.two
  obtain ⟨g1, g2, g3, g4⟩ := X3.two
  clear hb1
  have zx := X3.lt
  go_wp2_with fail
  (with_reducible refine (HO.out _).mono ?_)
  rintro e w3 hq
  obtain ⟨rfl, hb3⟩ := fracV_of hq
  have Y3 := X3.kept hb3
  have B3 := B1.trans (hb3.mono z1)
  obtain ⟨j1, j2, j3, j4⟩ := Y3.two
  clear hb3 hq X1 X2 X3 e1 e2 e3 e4 f1 f2 f3 f4 g1 g2 g3 g4
  go_wp2_with fail
  exact bodyPost_ret (v := .tuple #[.agg #[.int .i64 (redX p r), .int .i64 (redY p r)], .bool (redB p r)]) (by simp [results, Try.results45, go_sem, *]) rfl ⟨rfl, by (repeat (first | with_reducible exact Below.refl _ _ | with_reducible refine Below.drew ?_ | (with_reducible refine Below.alloc ?_ ?hsz _; case hsz => ((try simp) <;> (try omega))) | (with_reducible refine Below.setCell ?_ ?hsz _; case hsz => ((try simp) <;> (try omega))) | (with_reducible refine below_step (by with_reducible assumption) ?hsz ?_; case hsz => ((try simp) <;> (try omega)))))⟩
set_option maxHeartbeats 2000000 in
theorem sfracMul_any (a b c d : Nat) (h1 : fracB a b = true) (h2 : fracB c d = true) (ha : a ≤ 1000000) (hc : c ≤ 1000000) (w : World) : Calls Try.prog 43 #[.agg #[.int .i64 a, .int .i64 b], .agg #[.int .i64 c, .int .i64 d]] w (FracV (redX (a * c) (b * d)) (redY (a * c) (b * d)) (redB (a * c) (b * d)) w) := by
  obtain ⟨b0, b1, _, _⟩ := fracB_true h1
  obtain ⟨d0, d1, _, _⟩ := fracB_true h2
  have m1 : a * c ≤ 1000000 * 1000000 := Nat.mul_le_mul ha hc
  have m2 : b * d ≤ 1000000 * 1000000 := Nat.mul_le_mul b1 d1
  have m3 : 1 ≤ b * d := Nat.mul_pos b0 d0
  have k1 : (a : Int) * (c : Int) = ((a * c : Nat) : Int) := rfl
  have k2 : (b : Int) * (d : Int) = ((b * d : Nat) : Int) := rfl
  have HO := Lib.hid (smake_any (a * c) (b * d) (by omega) (by omega) m3)
  have AF := Lib.hid (small_any a b h1 ha)
  have CF := Lib.hid (small_any c d h2 hc)
  clear h1 h2
  generalize a * c = p at *
  generalize b * d = r at *
  go_enter Try.func43, Try.ntmps43
  go_wp2_with fail
  with_reducible refine (AF.out _).mono ?_
  rintro e w1 ⟨rfl, hb1⟩
  have X1 := (((Box.made w 40 #[.int .i64 a, .int .i64 b]).alloc (.cells #[.int .i64 c, .int .i64 d] 40)).alloc (.cells #[.int .i64 0, .int .i64 0] 40)).kept hb1
  have X2 := ((Box.made_at (w := w.alloc (.cells #[.int .i64 a, .int .i64 b] 40)) (t := 40) (cs := #[.int .i64 c, .int .i64 d]) (g := w.heap.size + 1) (by simp)).alloc (.cells #[.int .i64 0, .int .i64 0] 40)).kept hb1
  have X3 := (Box.made_at (w := (w.alloc (.cells #[.int .i64 a, .int .i64 b] 40)).alloc (.cells #[.int .i64 c, .int .i64 d] 40)) (t := 40) (cs := #[.int .i64 0, .int .i64 0]) (g := w.heap.size + 2) (by simp)).kept hb1
  have B1 : Below w.heap.size w w1 := by (repeat (first | with_reducible exact Below.refl _ _ | with_reducible refine Below.drew ?_ | (with_reducible refine Below.alloc ?_ ?hsz _; case hsz => ((try simp) <;> (try omega))) | (with_reducible refine Below.setCell ?_ ?hsz _; case hsz => ((try simp) <;> (try omega))) | (with_reducible refine below_step (by with_reducible assumption) ?hsz ?_; case hsz => ((try simp) <;> (try omega)))))
  have z1 := B1.size
  obtain ⟨e1, e2, e3, e4⟩ := X1.two
  obtain ⟨f1, f2, f3, f4⟩ := X2.two
  obtain ⟨g1, g2, g3, g4⟩ := X3.two
  clear hb1
  go_wp2_with fail
  with_reducible refine (CF.out _).mono ?_
  rintro e w2 ⟨rfl, hb2⟩
  replace X1 := X1.kept hb2
  replace X2 := X2.kept hb2
  replace X3 := X3.kept hb2
  replace B1 := B1.trans (hb2.mono z1)
  replace z1 := B1.size
  clear e1 e2 e3 e4 f1 f2 f3 f4 g1 g2 g3 g4 hb2
  obtain ⟨e1, e2, e3, e4⟩ := X1.two
  obtain ⟨f1, f2, f3, f4⟩ := X2.two
  obtain ⟨g1, g2, g3, g4⟩ := X3.two
  have zx := X3.lt
  go_wp2_with fail
  (with_reducible refine (HO.out _).mono ?_)
  rintro e w3 hq
  obtain ⟨rfl, hb3⟩ := fracV_of hq
  have Y3 := X3.kept hb3
  have B3 := B1.trans (hb3.mono z1)
  obtain ⟨j1, j2, j3, j4⟩ := Y3.two
  clear hb3 hq X1 X2 X3 e1 e2 e3 e4 f1 f2 f3 f4 g1 g2 g3 g4
  go_wp2_with fail
  exact bodyPost_ret (v := .tuple #[.agg #[.int .i64 (redX p r), .int .i64 (redY p r)], .bool (redB p r)]) (by simp [results, Try.results43, go_sem, *]) rfl ⟨rfl, by (repeat (first | with_reducible exact Below.refl _ _ | with_reducible refine Below.drew ?_ | (with_reducible refine Below.alloc ?_ ?hsz _; case hsz => ((try simp) <;> (try omega))) | (with_reducible refine Below.setCell ?_ ?hsz _; case hsz => ((try simp) <;> (try omega))) | (with_reducible refine below_step (by with_reducible assumption) ?hsz ?_; case hsz => ((try simp) <;> (try omega)))))⟩
end Go.Proofs.Ytebgkmmmjmipnaa
