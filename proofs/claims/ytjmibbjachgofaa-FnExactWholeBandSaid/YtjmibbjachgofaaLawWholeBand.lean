/- Proved: for every table and numbers the program's WholeBand answers what the reference's answers. No condition. -/
import Derived.Test.YtjmibbjachgofaaOpen
import Derived.Test.YtjmibbjachgofaaWholeS
import Derived.Test.YtjmibbjachgofaaIntT
import Derived.Deep.RegionHeld3
namespace Go.Proofs.Ytjmibbjachgofaa
open Go.ChangeShapes Go.WideShapes Go.ChangeAt Go.RowKit

set_option maxHeartbeats 4000000 in
theorem lawWholeBand (f : Int) (A : Option Addr) (n cap : Nat) (F : Nat → Int) (age rate years : Int) (w : World) (hlc : n ≤ cap) (hm : cap ≤ maxLen) (hr : Row w .i64 A n F) :
    Calls Try.prog 14 #[.agg #[.int .i64 f, .slice A n cap], .int .i64 age, .int .i64 rate, .int .i64 years] w fun e w' => e = .returned (.bool true) ∧ Below w.heap.size w w' := by
  have hn60 : n ≤ 9223372036854775807 := by unfold maxLen at hm; omega
  by_cases hn : n ≤ 1048576
  · have hsz := Lib.hid (fun w => by have := szTable_any f A n cap 1048576 w (by omega) (by omega) (by omega); rw [if_neg (by omega)] at this; exact this : ∀ w, Calls Try.prog 38 #[.agg #[.int .i64 f, .slice A n cap], .int .i64 1048576] w fun e w' => e = .returned (.int .i64 (1048576 - n)) ∧ Below w.heap.size w w')
    have HR := Lib.hid hr
    clear hr hm hlc hn60
    go_enter Try.func14, Try.ntmps14
    go_wp2_with (go_at_call 38; (with_reducible refine (hsz.out _).mono ?_); rintro e w1 ⟨rfl, hb1⟩; obtain ⟨hc1, hf1⟩ := bcell hb1; (try simp only [World.size_drew] at hc1 hf1); have hz1 := hb1.size; (try simp at hz1); (try have q1_0 : w.heap.size < w1.heap.size := by omega); (try have q1_1 : w.heap.size + 1 < w1.heap.size := by omega); (try have q1_2 : w.heap.size + 2 < w1.heap.size := by omega); (try have q1_3 : w.heap.size + 3 < w1.heap.size := by omega); (try have q1_4 : w.heap.size + 4 < w1.heap.size := by omega); (try have q1_0_0 : w0.heap.size < w1.heap.size := by omega); (try have q1_0_1 : w0.heap.size + 1 < w1.heap.size := by omega); (try have q1_2_0 : w2.heap.size < w1.heap.size := by omega); (try have q1_2_1 : w2.heap.size + 1 < w1.heap.size := by omega); (try have q1_3_0 : w3.heap.size < w1.heap.size := by omega); (try have q1_3_1 : w3.heap.size + 1 < w1.heap.size := by omega); (try have q1_4_0 : w4.heap.size < w1.heap.size := by omega); (try have q1_4_1 : w4.heap.size + 1 < w1.heap.size := by omega); (try have q1_5_0 : w5.heap.size < w1.heap.size := by omega); (try have q1_5_1 : w5.heap.size + 1 < w1.heap.size := by omega); (try have q1_6_0 : w6.heap.size < w1.heap.size := by omega); (try have q1_6_1 : w6.heap.size + 1 < w1.heap.size := by omega); (try have u1_b : b < w1.heap.size := by omega); (try have u1_q : q < w1.heap.size := by omega); (try have u1_g : g < w1.heap.size := by omega); (try have u1_g1 : g1 < w1.heap.size := by omega); (try have u1_g2 : g2 < w1.heap.size := by omega); (try have u1_g3 : g3 < w1.heap.size := by omega); (try have u1_g4 : g4 < w1.heap.size := by omega); (try have u1_g5 : g5 < w1.heap.size := by omega))
    have T1 := (Box.made w 46 #[.int .i64 f, .slice A n cap]).kept hb1
    have B1 : Below w.heap.size w w1 := by (repeat (first | with_reducible exact Below.refl _ _ | with_reducible refine Below.drew ?_ | (with_reducible refine Below.alloc ?_ ?hsz _; case hsz => ((try simp) <;> (try omega))) | (with_reducible refine Below.setCell ?_ ?hsz _; case hsz => ((try simp) <;> (try omega))) | (with_reducible refine below_step (by with_reducible assumption) ?hsz ?_; case hsz => ((try simp) <;> (try omega)))))
    clear hb1 hc1 hf1
    have s1 := B1.size
    with_reducible refine (toTable_any f A n cap F _ hn (HR.out.kept B1)).mono ?_
    rintro e w2 ⟨A2, c2, rfl, o2, hb2⟩
    have T2 := T1.kept hb2
    have R2 := Lib.hid (own_rows o2)
    have s2 := hb2.size
    have B2 := B1.trans (hb2.mono s1)
    clear o2 T1 B1 hb2
    go_wp2_with fail
    with_reducible refine (swhole_any f A2 n c2 F age rate years _ (by omega) R2.out).mono ?_
    rintro e w3 ⟨rfl, hb3⟩
    have s3 := hb3.size
    have T3 := (T2.kept hb3).alloc (.cells #[.int .i64 (wholeL f n F age rate years), .int .i64 (wholeH f n F age rate years)] 27)
    have V3 := Box.made w3 27 #[.int .i64 (wholeL f n F age rate years), .int .i64 (wholeH f n F age rate years)]
    have B3 := (B2.trans (hb3.mono (by omega))).alloc (by omega) (.cells #[.int .i64 (wholeL f n F age rate years), .int .i64 (wholeH f n F age rate years)] 27)
    clear T2 R2 B2 hb3
    obtain ⟨w30, hw3⟩ : ∃ w30, w30 = w3.alloc (.cells #[.int .i64 (wholeL f n F age rate years), .int .i64 (wholeH f n F age rate years)] 27) := ⟨_, rfl⟩
    have s30 : w30.heap.size = w3.heap.size + 1 := by rw [hw3]; simp
    rw [← hw3] at T3 V3 B3
    obtain ⟨t1, t2, t3, t4⟩ := T3.two
    rw [hw3] at t1 t2 t3 t4
    go_wp2_with fail
    rw [← hw3]
    clear hw3 t1 t2 t3 t4
    with_reducible refine (toTable_any f A n cap F _ hn (HR.out.kept B3)).mono ?_
    rintro e w4 ⟨A4, c4, rfl, o4, hb4⟩
    have s4 := hb4.size
    have O4 := Lib.hid (o4.alloc (.cells #[.int .i64 f, .slice A4 n c4] 39))
    have T5 := (T3.kept hb4).alloc (.cells #[.int .i64 f, .slice A4 n c4] 39)
    have V5 := (V3.kept hb4).alloc (.cells #[.int .i64 f, .slice A4 n c4] 39)
    have X5 := Box.made w4 39 #[.int .i64 f, .slice A4 n c4]
    have B5 := (B3.trans (hb4.mono (by omega))).alloc (by omega) (.cells #[.int .i64 f, .slice A4 n c4] 39)
    clear o4
    go_wp2_with fail
    obtain ⟨w5, hw5⟩ : ∃ w5, w5 = w4.alloc (.cells #[.int .i64 f, .slice A4 n c4] 39) := ⟨_, rfl⟩
    have s5 : w5.heap.size = w4.heap.size + 1 := by rw [hw5]; simp
    rw [← hw5] at O4 T5 X5 B5 V5
    rw [← hw5]
    clear hw5 hb4 T3 B3 V3
    with_reducible refine (whole_any f A4 n c4 F age rate years _ (by omega) (own_rows O4.out)).mono ?_
    rintro e w6 ⟨rfl, hb6⟩
    have s6 := hb6.size
    have O6 := Lib.hid (own_below O4.out hb6)
    have T6 := T5.kept hb6
    have X6 := X5.kept hb6
    have V6 := V5.kept hb6
    have B6 := B5.trans (hb6.mono (by omega))
    clear O4 T5 X5 B5 V5 hb6
    obtain ⟨e1, e2, e3, e4⟩ := V6.two
    have lv := V6.lt
    go_wp2_with fail
    with_reducible refine (eqBand_same (wholeL f n F age rate years) (wholeH f n F age rate years) _).mono ?_
    rintro e w7 ⟨rfl, hb7⟩
    have T7 : Box w7 w.heap.size 46 #[.int .i64 f, .slice A n cap] := by (repeat (first | with_reducible assumption | with_reducible exact Box.made _ _ _ | (with_reducible refine Box.made_at ?hg; case hg => (simp; done)) | with_reducible refine Box.drew ?_ | with_reducible refine Box.alloc ?_ _ | (with_reducible refine Box.put2 (a := .int .i64 0) (b := .int .i64 0) ?_ _ _) | (with_reducible refine Box.far ?_ ?hg _; case hg => ((try simp) <;> (try omega))) | with_reducible refine Box.kept ?_ (by with_reducible assumption)))
    have X7 : Box w7 w4.heap.size 39 #[.int .i64 f, .slice A4 n c4] := by (repeat (first | with_reducible assumption | with_reducible exact Box.made _ _ _ | (with_reducible refine Box.made_at ?hg; case hg => (simp; done)) | with_reducible refine Box.drew ?_ | with_reducible refine Box.alloc ?_ _ | (with_reducible refine Box.put2 (a := .int .i64 0) (b := .int .i64 0) ?_ _ _) | (with_reducible refine Box.far ?_ ?hg _; case hg => ((try simp) <;> (try omega))) | with_reducible refine Box.kept ?_ (by with_reducible assumption)))
    have O4' := Lib.hid (own_below (O6.out.alloc _) hb7)
    have s7 := hb7.size
    simp only [World.size_alloc] at s7
    have B7 : Below w.heap.size w w7 := (B6.alloc (by omega) _).trans (hb7.mono (by simp; omega))
    have R7 := Lib.hid (HR.out.kept B7)
    clear O6 T6 X6 B6 V6 hb7 e1 e2 e3 e4 lv
    obtain ⟨t1, t2, t3, t4⟩ := T7.two
    obtain ⟨y1, y2, y3, y4⟩ := X7.two
    have lt1 := T7.lt
    have lx1 := X7.lt
    have r4 := Lib.hid (own_rows O4'.out)
    go_wp2_with fail
    -- what came in is as it was
    go_region_held3 (fun w' => w'.cell? ⟨w.heap.size, 0, none⟩ = some (.int .i64 f) ∧ w'.cell? ⟨w.heap.size, 1, none⟩ = some (.slice A n cap) ∧ w'.cell? ⟨w4.heap.size, 0, none⟩ = some (.int .i64 f) ∧ w'.cell? ⟨w4.heap.size, 1, none⟩ = some (.slice A4 n c4)) (simp [go_sem, *])
      (first | (go_at_call 40; (with_reducible refine (toTable_any f A n cap F _ hn R7.out.drew).mono ?_); rintro e w8 ⟨A8, c8, rfl, o8, hb8⟩; have r8 := Lib.hid (own_rows o8); have O8 := Lib.hid o8; clear o8; obtain ⟨hc8, hf8⟩ := bcell hb8; (try simp only [World.size_drew] at hc8 hf8); have s8 := hb8.size; (try simp only [World.size_drew] at s8); have l8a : w.heap.size < w8.heap.size := (by omega); have l8b : w4.heap.size < w8.heap.size := (by omega)) | (go_at_call 42; (with_reducible refine (eqTable_same f A4 A8 n c4 c8 F F _ (by omega) (r4.out.drew.kept hb8) r8.out (fun _ _ => rfl)).mono ?_); rintro e w9 ⟨rfl, hb9⟩; obtain ⟨hc9, hf9⟩ := bcell hb9; (try simp only [World.size_drew] at hc9 hf9)))
    go_wp2_with fail
    have s9 := hb9.size
    have hb79 : Below w7.heap.size w7 w9 := ((Below.refl w7.heap.size w7).drew.trans hb8).trans (hb9.mono s8)
    have B9 := B7.trans (hb79.mono (by omega))
    go_ret
    exact ⟨rfl, B9⟩
  · have hsz := Lib.hid (fun w => by have := szTable_any f A n cap 1048576 w (by omega) (by omega) (by omega); rw [if_pos (by omega)] at this; exact this : ∀ w, Calls Try.prog 38 #[.agg #[.int .i64 f, .slice A n cap], .int .i64 1048576] w fun e w' => e = .returned (.int .i64 (-1)) ∧ Below w.heap.size w w')
    clear hr hm hlc
    go_enter Try.func14, Try.ntmps14
    go_wp2_with (go_at_call 38; (with_reducible refine (hsz.out _).mono ?_); rintro e w1 ⟨rfl, hb1⟩; obtain ⟨hc1, hf1⟩ := bcell hb1; (try simp only [World.size_drew] at hc1 hf1); have hz1 := hb1.size; (try simp at hz1); (try have q1_0 : w.heap.size < w1.heap.size := by omega); (try have q1_1 : w.heap.size + 1 < w1.heap.size := by omega); (try have q1_2 : w.heap.size + 2 < w1.heap.size := by omega); (try have q1_3 : w.heap.size + 3 < w1.heap.size := by omega); (try have q1_4 : w.heap.size + 4 < w1.heap.size := by omega); (try have q1_0_0 : w0.heap.size < w1.heap.size := by omega); (try have q1_0_1 : w0.heap.size + 1 < w1.heap.size := by omega); (try have q1_2_0 : w2.heap.size < w1.heap.size := by omega); (try have q1_2_1 : w2.heap.size + 1 < w1.heap.size := by omega); (try have q1_3_0 : w3.heap.size < w1.heap.size := by omega); (try have q1_3_1 : w3.heap.size + 1 < w1.heap.size := by omega); (try have q1_4_0 : w4.heap.size < w1.heap.size := by omega); (try have q1_4_1 : w4.heap.size + 1 < w1.heap.size := by omega); (try have q1_5_0 : w5.heap.size < w1.heap.size := by omega); (try have q1_5_1 : w5.heap.size + 1 < w1.heap.size := by omega); (try have q1_6_0 : w6.heap.size < w1.heap.size := by omega); (try have q1_6_1 : w6.heap.size + 1 < w1.heap.size := by omega); (try have u1_b : b < w1.heap.size := by omega); (try have u1_q : q < w1.heap.size := by omega); (try have u1_g : g < w1.heap.size := by omega); (try have u1_g1 : g1 < w1.heap.size := by omega); (try have u1_g2 : g2 < w1.heap.size := by omega); (try have u1_g3 : g3 < w1.heap.size := by omega); (try have u1_g4 : g4 < w1.heap.size := by omega); (try have u1_g5 : g5 < w1.heap.size := by omega))
    go_ret
    exact ⟨rfl, by (repeat (first | with_reducible exact Below.refl _ _ | with_reducible refine Below.drew ?_ | (with_reducible refine Below.alloc ?_ ?hsz _; case hsz => ((try simp) <;> (try omega))) | (with_reducible refine Below.setCell ?_ ?hsz _; case hsz => ((try simp) <;> (try omega))) | (with_reducible refine below_step (by with_reducible assumption) ?hsz ?_; case hsz => ((try simp) <;> (try omega)))))⟩
theorem fnExactWholeBand_cells0 : Try.prog.cellsOf 46 = 2 := by kernel_rfl
set_option maxRecDepth 100000 in
theorem fnExactWholeBand_open {H : Type} {enc : TypeId × Value → H} (W : World) (base : Nat) (args : Array Value) (ds : List (DataW H)) (p : List MemPlace)
    (hval : ∀ (j : Nat) t v, Try.f14.params[j]? = some t → args[j]? = some v → Value.okWide Try.prog W .any base t v)
    (hA : DataW.TrodAll enc Try.prog W 0 (fun _ => true) true Try.f14.params.toList args.toList ds p) :
    Calls Try.prog 14 args W fun e W' => e = .returned (.bool true) ∧ Below W.heap.size W W' := by
  rw [Try.params14] at hA hval
  obtain ⟨v0, vs0, d0, ds0, p0, q0, hargs, rfl, rfl, h0, r0⟩ := trodAll_cons hA
  obtain ⟨v1, vs1, d1, ds1, p1, q1, rfl, rfl, rfl, h1, r1⟩ := trodAll_cons r0
  obtain ⟨v2, vs2, d2, ds2, p2, q2, rfl, rfl, rfl, h2, r2⟩ := trodAll_cons r1
  obtain ⟨v3, vs3, d3, ds3, p3, q3, rfl, rfl, rfl, h3, r3⟩ := trodAll_cons r2
  obtain ⟨rfl, rfl, rfl⟩ := trodAll_nil r3
  obtain rfl : args = #[v0, v1, v2, v3] := by cases args; simp_all
  obtain ⟨c0_0, c0_1, y0_0, y0_1, m0, rfl, rfl, rfl, hy0_0, hy0_1⟩ := Go.Joins.open_agg2 Try.underlying46 (by kernel_rfl) fnExactWholeBand_cells0 (hval 0 46 v0 rfl rfl) h0
  obtain ⟨f, e0_0, rfl, wf0_0⟩ := DataW.trod_int Try.underlying3 hy0_0
  simp at e0_0
  subst e0_0
  obtain ⟨A, An, Acap, AF, rfl, hl0, hm0, hr0, hw0⟩ := open_row_cells Try.underlying24 Try.underlying3 (by kernel_rfl) hy0_1
  obtain ⟨age, rfl, rfl, rfl, wf1⟩ := open_int Try.underlying3 (hval 1 3 v1 rfl rfl) h1
  obtain ⟨rate, rfl, rfl, rfl, wf2⟩ := open_int Try.underlying3 (hval 2 3 v2 rfl rfl) h2
  obtain ⟨years, rfl, rfl, rfl, wf3⟩ := open_int Try.underlying3 (hval 3 3 v3 rfl rfl) h3
  exact lawWholeBand f A An Acap AF age rate years W hl0 hm0 hr0
theorem fnExactWholeBand_lifted (os : Os) (started : os.Started) (H : Type) (enc : TypeId × Value → H) :
    ReturnsInHanded {} Try.checked os 14 .any (Rows.fnExactWholeBandSpec.pre6 enc Try.prog Try.f14 Rows.fnExactWholeBandRow.domain false) (Rows.fnExactWholeBandSpec.post enc Try.prog Try.f14 false true false false) :=
  law_lifted (C := Try.checked) (s := Rows.fnExactWholeBandSpec) (tb := 4) Tryown TrylaidOut (by kernel_rfl) Try.func14 rfl Try.underlying4 (by kernel_rfl) rfl (fun H ds h => match ds, h with | [d0, d1, d2, d3], _ => rfl) os started H enc
    (ChangeSpec.witness6 (enc := enc) (C := Try.checked) false ⟨#[], #[.agg #[.int .i64 0, .slice none 0 0], .int .i64 0, .int .i64 0, .int .i64 0], []⟩ 8 (by kernel_rfl) (by kernel_rfl) (by kernel_rfl) (by kernel_rfl))
    (fun W base args ds p hval hA _ _ => fnExactWholeBand_open W base args ds p hval hA)
theorem fnExactWholeBand_holds : Rows.FnExactWholeBandSaid :=
  OpenClaim.holds_of_wide 14 Try.f14 rfl rfl rfl rfl rfl rfl rfl ⟨rfl, rfl, rfl, rfl, rfl⟩ rfl rfl rfl rfl rfl (by kernel_rfl) Try.func14 (by kernel_rfl)
    (of_decide_eq_true (by kernel_rfl)) (by unfold Func.isWrapper; first | (rw [if_pos (by decide +kernel)]; kernel_rfl) | (rw [if_neg (by decide +kernel)]; exact ⟨rfl, rfl⟩))
    (fun os started H enc _ => fnExactWholeBand_lifted os started H enc)
#print axioms fnExactWholeBand_holds
end Go.Proofs.Ytjmibbjachgofaa
