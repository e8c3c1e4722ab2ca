/- Proved: for every table, age, number of years and start, the program's Survivors answers what the reference's answers, in memory of its own. No condition. -/
import Derived.Test.YtjmibbjachgofaaOpen
import Derived.Test.YtjmibbjachgofaaSurvS
import Derived.Test.YtjmibbjachgofaaIntT
import Derived.Deep.RegionHeld3
import Derived.Outline
namespace Go.Proofs.Ytjmibbjachgofaa
open Go.ChangeShapes Go.WideShapes Go.ChangeAt Go.RowKit

theorem survN_le (f : Int) (n : Nat) (F : Nat → Int) (age years start : Int) : survN f n F age years start ≤ 121 := by
  unfold survN
  split
  · rename_i h
    simp only [survB, Bool.and_eq_true] at h
    have := inB_true.1 h.1.2
    omega
  · omega
set_option maxHeartbeats 4000000 in
theorem lawSurvivors (f : Int) (A : Option Addr) (n cap : Nat) (F : Nat → Int) (age years start : Int) (w : World) (hlc : n ≤ cap) (hm : cap ≤ maxLen) (hr : Row w .i64 A n F) :
    Calls Try.prog 10 #[.agg #[.int .i64 f, .slice A n cap], .int .i64 age, .int .i64 years, .int .i64 start] w fun e w' => e = .returned (.bool true) ∧ Below w.heap.size w w' := by
  have hn60 : n ≤ 9223372036854775807 := by unfold maxLen at hm; omega
  by_cases hn : n ≤ 1048576
  · have hsz := Lib.hid (fun w => by have := szTable_any f A n cap 1048576 w (by omega) (by omega) (by omega); rw [if_neg (by omega)] at this; exact this : ∀ w, Calls Try.prog 38 #[.agg #[.int .i64 f, .slice A n cap], .int .i64 1048576] w fun e w' => e = .returned (.int .i64 (1048576 - n)) ∧ Below w.heap.size w w')
    have hM := survN_le f n F age years start
    have HR := Lib.hid hr
    clear hr hm hlc hn60
    go_enter Try.func10, Try.ntmps10
    go_wp2_with (go_at_call 38; (with_reducible refine (hsz.out _).mono ?_); rintro e w1 ⟨rfl, hb1⟩; obtain ⟨hc1, hf1⟩ := bcell hb1; (try simp only [World.size_drew] at hc1 hf1); have hz1 := hb1.size; (try simp at hz1); (try have q1_0 : w.heap.size < w1.heap.size := by omega); (try have q1_1 : w.heap.size + 1 < w1.heap.size := by omega); (try have q1_2 : w.heap.size + 2 < w1.heap.size := by omega); (try have q1_3 : w.heap.size + 3 < w1.heap.size := by omega); (try have q1_4 : w.heap.size + 4 < w1.heap.size := by omega); (try have q1_0_0 : w0.heap.size < w1.heap.size := by omega); (try have q1_0_1 : w0.heap.size + 1 < w1.heap.size := by omega); (try have q1_2_0 : w2.heap.size < w1.heap.size := by omega); (try have q1_2_1 : w2.heap.size + 1 < w1.heap.size := by omega); (try have q1_3_0 : w3.heap.size < w1.heap.size := by omega); (try have q1_3_1 : w3.heap.size + 1 < w1.heap.size := by omega); (try have q1_4_0 : w4.heap.size < w1.heap.size := by omega); (try have q1_4_1 : w4.heap.size + 1 < w1.heap.size := by omega); (try have q1_5_0 : w5.heap.size < w1.heap.size := by omega); (try have q1_5_1 : w5.heap.size + 1 < w1.heap.size := by omega); (try have q1_6_0 : w6.heap.size < w1.heap.size := by omega); (try have q1_6_1 : w6.heap.size + 1 < w1.heap.size := by omega); (try have u1_q : q < w1.heap.size := by omega); (try have u1_g : g < w1.heap.size := by omega); (try have u1_g1 : g1 < w1.heap.size := by omega); (try have u1_g2 : g2 < w1.heap.size := by omega); (try have u1_g3 : g3 < w1.heap.size := by omega); (try have u1_g4 : g4 < w1.heap.size := by omega); (try have u1_g5 : g5 < w1.heap.size := by omega))
    have T1 := (Box.made w 46 #[.int .i64 f, .slice A n cap]).kept hb1
    have R1 := Lib.hid ((HR.out.alloc (.cells #[.int .i64 f, .slice A n cap] 46)).kept hb1)
    have B1 : Below w.heap.size w w1 := by (repeat (first | with_reducible exact Below.refl _ _ | with_reducible refine Below.drew ?_ | (with_reducible refine Below.alloc ?_ ?hsz _; case hsz => ((try simp) <;> (try omega))) | (with_reducible refine Below.setCell ?_ ?hsz _; case hsz => ((try simp) <;> (try omega))) | (with_reducible refine below_step (by with_reducible assumption) ?hsz ?_; case hsz => ((try simp) <;> (try omega)))))
    clear hb1 hc1 hf1
    have s1 := B1.size
    -- the reference's answer
    with_reducible refine (toTable_any f A n cap F _ hn R1.out).mono ?_
    rintro e w2 ⟨A2, c2, rfl, o2, hb2⟩
    have T2 := T1.kept hb2
    have R2 := Lib.hid (own_rows o2)
    have s2 := hb2.size
    have B2 := B1.trans (hb2.mono s1)
    clear o2 T1
    go_wp2_with fail
    with_reducible refine (ssurv_any f A2 n c2 F age years start _ (by omega) R2.out).mono ?_
    rintro e w3 ⟨v3, rfl, o3, hb3⟩
    obtain ⟨A3, c3, rfl, _, R3, _⟩ := own_row o3
    have T3 := T2.kept hb3
    have s3 := hb3.size
    have B3 := B2.trans (hb3.mono (by omega))
    have O3 := Lib.hid o3
    clear o3 T2 R2
    obtain ⟨t1, t2, t3, t4⟩ := T3.two
    go_wp2_with fail
    -- the program's answer, on a copy of its own
    have R3' := Lib.hid (R1.out.kept (hb2.trans (hb3.mono s2)))
    with_reducible refine (toTable_any f A n cap F _ hn R3'.out).mono ?_
    rintro e w4 ⟨A4, c4, rfl, o4, hb4⟩
    clear R3'
    have s4 := hb4.size
    have O4 := Lib.hid (o4.alloc (.cells #[.int .i64 f, .slice A4 n c4] 39))
    have O3' := Lib.hid ((own_below O3.out hb4).alloc (.cells #[.int .i64 f, .slice A4 n c4] 39))
    have T5 := (T3.kept hb4).alloc (.cells #[.int .i64 f, .slice A4 n c4] 39)
    have X5 := Box.made w4 39 #[.int .i64 f, .slice A4 n c4]
    have B5 := (B3.trans (hb4.mono (by omega))).alloc (by omega) (.cells #[.int .i64 f, .slice A4 n c4] 39)
    have R5 := Lib.hid (((R1.out.kept (hb2.trans (hb3.mono s2))).kept hb4).alloc (.cells #[.int .i64 f, .slice A4 n c4] 39))
    have hi4 := Lib.hid (own_hi o4)
    have hi3 := Lib.hid (own_hi O3.out)
    have lo4 := Lib.hid (own_lo o4)
    clear o4 O3 t1 t2 t3 t4
    go_wp2_with fail
    obtain ⟨w5, hw5⟩ : ∃ w5, w5 = w4.alloc (.cells #[.int .i64 f, .slice A4 n c4] 39) := ⟨_, rfl⟩
    have s5 : w5.heap.size = w4.heap.size + 1 := by rw [hw5]; simp
    rw [← hw5] at O4 O3' T5 X5 B5 R5
    rw [← hw5]
    clear hw5 hb2 hb3 hb4 T3
    with_reducible refine (surv_any f A4 n c4 F age years start _ (by omega) (own_rows O4.out)).mono ?_
    rintro e w6 ⟨v6, rfl, o6, hb6⟩
    obtain ⟨A6, c6, rfl, _, R6, _⟩ := own_row o6
    have s6 := hb6.size
    have O4' := Lib.hid (own_below O4.out hb6)
    have O3 := Lib.hid (own_below O3'.out hb6)
    have T6 := T5.kept hb6
    have X6 := X5.kept hb6
    have B6 := B5.trans (hb6.mono (by omega))
    have R6' := Lib.hid (R5.out.kept hb6)
    have lo6 := Lib.hid (own_lo o6)
    have O6 := Lib.hid o6
    clear o6 O4 O3' T5 X5 R5 hb6 B5
    have e1 := Lib.hid (eqIntS_same A6 A3 (survN f n F age years start) c6 c3 (survP f n F age start) (survP f n F age start) w6 (by omega) R6 (own_rows O3.out) (fun _ _ => rfl))
    clear R6 R3
    go_wp2_with fail
    with_reducible refine e1.out.mono ?_
    rintro e w7 ⟨rfl, hb7⟩
    clear e1
    have s7 := hb7.size
    have O4 := Lib.hid (own_below O4'.out hb7)
    have O3' := Lib.hid (own_below O3.out hb7)
    have O6' := Lib.hid (own_below O6.out hb7)
    have T7 := T6.kept hb7
    have X7 := X6.kept hb7
    have B7 := B6.trans (hb7.mono (by omega))
    have R7 := Lib.hid (R6'.out.kept hb7)
    clear O4' O3 O6 T6 X6 R6' hb7
    obtain ⟨t1, t2, t3, t4⟩ := T7.two
    obtain ⟨y1, y2, y3, y4⟩ := X7.two
    have lt1 := T7.lt
    have lx1 := X7.lt
    have r4 := Lib.hid (own_rows O4.out)
    go_wp2_with fail
    -- what came in is as it was
    go_region_held3 (fun w' => w'.cell? ⟨w.heap.size, 0, none⟩ = some (.int .i64 f) ∧ w'.cell? ⟨w.heap.size, 1, none⟩ = some (.slice A n cap) ∧ w'.cell? ⟨w4.heap.size, 0, none⟩ = some (.int .i64 f) ∧ w'.cell? ⟨w4.heap.size, 1, none⟩ = some (.slice A4 n c4)) (simp [go_sem, *])
      (first | (go_at_call 40; (with_reducible refine (toTable_any f A n cap F _ hn R7.out.drew).mono ?_); rintro e w8 ⟨A8, c8, rfl, o8, hb8⟩; have r8 := Lib.hid (own_rows o8); have O8 := Lib.hid o8; clear o8; obtain ⟨hc8, hf8⟩ := bcell hb8; (try simp only [World.size_drew] at hc8 hf8); have s8 := hb8.size; (try simp only [World.size_drew] at s8); have l8a : w.heap.size < w8.heap.size := (by omega); have l8b : w4.heap.size < w8.heap.size := (by omega)) | (go_at_call 42; (with_reducible refine (eqTable_same f A4 A8 n c4 c8 F F _ (by omega) (r4.out.drew.kept hb8) r8.out (fun _ _ => rfl)).mono ?_); rintro e w9 ⟨rfl, hb9⟩; obtain ⟨hc9, hf9⟩ := bcell hb9; (try simp only [World.size_drew] at hc9 hf9)))
    have s9 := hb9.size
    have hb79 : Below w7.heap.size w7 w9 := ((Below.refl w7.heap.size w7).drew.trans hb8).trans (hb9.mono s8)
    have O4' := Lib.hid (own_below O4.out hb79)
    have O3 := Lib.hid (own_below O3'.out hb79)
    have O6 := Lib.hid (own_below O6'.out hb79)
    have T9 := T7.kept hb79
    have X9 := X7.kept hb79
    have B9 := B7.trans (hb79.mono (by omega))
    clear hc8 hf8 hc9 hf9 hb8 hb9 hb79 T7 X7 B7 R7 O4 O3' O6' t1 t2 t3 t4 y1 y2 y3 y4 r8 O8 r4
    obtain ⟨y1, y2, y3, y4⟩ := X9.two
    -- marks on what went in do not reach what came out
    go_wp2_with fail
    with_reducible refine (markTable_any w3.heap.size f A4 n c4 (ints F n) 1 _ hn (by omega) (by omega) O4'.out).mono ?_
    rintro e w10 ⟨rfl, m4, hg10⟩
    have s10 := hg10.size
    have O6' := Lib.hid (O6.out.kept hg10 (apart_gt (B := w4.heap.size) (fun b h => by have := lo6.out b h; omega) hi4.out))
    have O3' := Lib.hid (O3.out.kept hg10 (apart_lt (B := w3.heap.size) hi3.out lo4.out))
    have T10 := T9.grown hg10 (box_apart_lt (B := w3.heap.size) (by omega) lo4.out)
    have B10 := below_grown B9 hg10 (by omega) (fun b h => by have := lo4.out b h; omega)
    clear m4 hg10 O4' O6 O3 T9 X9 B9 y1 y2 y3 y4
    go_wp2_with fail
    with_reducible refine (eqIntS_same A6 A3 (survN f n F age years start) c6 c3 (survP f n F age start) (survP f n F age start) _ (by omega) (own_rows O6'.out) (own_rows O3'.out) (fun _ _ => rfl)).mono ?_
    rintro e w11 ⟨rfl, hb11⟩
    have s11 := hb11.size
    have O6 := Lib.hid (own_below O6'.out hb11)
    have O3 := Lib.hid (own_below O3'.out hb11)
    have T11 := T10.kept hb11
    have B11 := B10.trans (hb11.mono (by omega))
    clear O6' O3' T10 B10 hb11
    -- marks on what came out stay through a second call
    go_wp2_with fail
    with_reducible refine (markIntS_any w5.heap.size _ _ _ 1 _ (by omega) (by omega) (by omega) O6.out).mono ?_
    rintro e w12 ⟨rfl, m6, hg12⟩
    have s12 := hg12.size
    have O3' := Lib.hid (O3.out.kept hg12 (apart_lt (B := w3.heap.size) hi3.out (fun b h => by have := lo6.out b h; omega)))
    have T12 := T11.grown hg12 (box_apart_lt (B := w3.heap.size) (by omega) (fun b h => by have := lo6.out b h; omega))
    have B12 := below_grown B11 hg12 (by omega) (fun b h => by have := lo6.out b h; omega)
    have M6 := Lib.hid m6
    clear m6 hg12 O3 T11 B11 O6
    go_wp2_with fail
    with_reducible refine (heldIntS_any A6 (survN f n F age years start) c6 1 _ (by omega) (by omega) (by omega) (own_rows M6.out)).mono ?_
    rintro e w13 ⟨rfl, hb13⟩
    have s13 := hb13.size
    have O3 := Lib.hid (own_below O3'.out hb13)
    have M6' := Lib.hid (own_below M6.out hb13)
    have T13 := T12.kept hb13
    have B13 := B12.trans (hb13.mono (by omega))
    clear O3' M6 T12 B12 hb13
    obtain ⟨t1, t2, t3, t4⟩ := T13.two
    go_wp2_with fail
    with_reducible refine (toTable_any f A n cap F _ hn (HR.out.kept B13)).mono ?_
    rintro e w14 ⟨A9, c9, rfl, o9, hb14⟩
    have s14 := hb14.size
    have O3' := Lib.hid (own_below O3.out hb14)
    have M6 := Lib.hid (own_below M6'.out hb14)
    have B14 := B13.trans (hb14.mono (by omega))
    have R9 := Lib.hid (own_rows o9)
    clear O3 M6' T13 B13 hb14 o9 t1 t2 t3 t4
    go_wp2_with fail
    with_reducible refine (surv_any f A9 n c9 F age years start _ (by omega) R9.out).mono ?_
    rintro e w15 ⟨v10, rfl, o10, hb15⟩
    obtain ⟨A10, c10, rfl, _, R10, _⟩ := own_row o10
    have s15 := hb15.size
    have O3 := Lib.hid (own_below O3'.out hb15)
    have M6' := Lib.hid (own_below M6.out hb15)
    have B15 := B14.trans (hb15.mono (by omega))
    have R10' := Lib.hid R10
    clear O3' M6 B14 hb15 o10 R9 R10
    go_wp2_with fail
    with_reducible refine (eqIntS_same A10 A3 (survN f n F age years start) c10 c3 (survP f n F age start) (survP f n F age start) _ (by omega) R10'.out (own_rows O3.out) (fun _ _ => rfl)).mono ?_
    rintro e w16 ⟨rfl, hb16⟩
    have s16 := hb16.size
    have M6 := Lib.hid (own_below M6'.out hb16)
    have B16 := B15.trans (hb16.mono (by omega))
    clear M6' O3 B15 hb16 R10'
    go_wp2_with fail
    with_reducible refine (heldIntS_any A6 (survN f n F age years start) c6 1 _ (by omega) (by omega) (by omega) (own_rows M6.out)).mono ?_
    rintro e w17 ⟨rfl, hb17⟩
    have B17 := B16.trans (hb17.mono (by omega))
    clear M6 B16 hb17
    go_wp2_with fail
    go_ret
    exact ⟨rfl, B17⟩
  · have hsz := Lib.hid (fun w => by have := szTable_any f A n cap 1048576 w (by omega) (by omega) (by omega); rw [if_pos (by omega)] at this; exact this : ∀ w, Calls Try.prog 38 #[.agg #[.int .i64 f, .slice A n cap], .int .i64 1048576] w fun e w' => e = .returned (.int .i64 (-1)) ∧ Below w.heap.size w w')
    clear hr hm hlc
    go_enter Try.func10, Try.ntmps10
    go_wp2_with (go_at_call 38; (with_reducible refine (hsz.out _).mono ?_); rintro e w1 ⟨rfl, hb1⟩; obtain ⟨hc1, hf1⟩ := bcell hb1; (try simp only [World.size_drew] at hc1 hf1); have hz1 := hb1.size; (try simp at hz1); (try have q1_0 : w.heap.size < w1.heap.size := by omega); (try have q1_1 : w.heap.size + 1 < w1.heap.size := by omega); (try have q1_2 : w.heap.size + 2 < w1.heap.size := by omega); (try have q1_3 : w.heap.size + 3 < w1.heap.size := by omega); (try have q1_4 : w.heap.size + 4 < w1.heap.size := by omega); (try have q1_0_0 : w0.heap.size < w1.heap.size := by omega); (try have q1_0_1 : w0.heap.size + 1 < w1.heap.size := by omega); (try have q1_2_0 : w2.heap.size < w1.heap.size := by omega); (try have q1_2_1 : w2.heap.size + 1 < w1.heap.size := by omega); (try have q1_3_0 : w3.heap.size < w1.heap.size := by omega); (try have q1_3_1 : w3.heap.size + 1 < w1.heap.size := by omega); (try have q1_4_0 : w4.heap.size < w1.heap.size := by omega); (try have q1_4_1 : w4.heap.size + 1 < w1.heap.size := by omega); (try have q1_5_0 : w5.heap.size < w1.heap.size := by omega); (try have q1_5_1 : w5.heap.size + 1 < w1.heap.size := by omega); (try have q1_6_0 : w6.heap.size < w1.heap.size := by omega); (try have q1_6_1 : w6.heap.size + 1 < w1.heap.size := by omega); (try have u1_q : q < w1.heap.size := by omega); (try have u1_g : g < w1.heap.size := by omega); (try have u1_g1 : g1 < w1.heap.size := by omega); (try have u1_g2 : g2 < w1.heap.size := by omega); (try have u1_g3 : g3 < w1.heap.size := by omega); (try have u1_g4 : g4 < w1.heap.size := by omega); (try have u1_g5 : g5 < w1.heap.size := by omega))
    go_ret
    exact ⟨rfl, by (repeat (first | with_reducible exact Below.refl _ _ | with_reducible refine Below.drew ?_ | (with_reducible refine Below.alloc ?_ ?hsz _; case hsz => ((try simp) <;> (try omega))) | (with_reducible refine Below.setCell ?_ ?hsz _; case hsz => ((try simp) <;> (try omega))) | (with_reducible refine below_step (by with_reducible assumption) ?hsz ?_; case hsz => ((try simp) <;> (try omega)))))⟩
theorem fnExactSurvivors_cells0 : Try.prog.cellsOf 46 = 2 := by kernel_rfl
set_option maxRecDepth 100000 in
theorem fnExactSurvivors_open {H : Type} {enc : TypeId × Value → H} (W : World) (base : Nat) (args : Array Value) (ds : List (DataW H)) (p : List MemPlace)
    (hval : ∀ (j : Nat) t v, Try.f10.params[j]? = some t → args[j]? = some v → Value.okWide Try.prog W .any base t v)
    (hA : DataW.TrodAll enc Try.prog W 0 (fun _ => true) true Try.f10.params.toList args.toList ds p) :
    Calls Try.prog 10 args W fun e W' => e = .returned (.bool true) ∧ Below W.heap.size W W' := by
  rw [Try.params10] at hA hval
  obtain ⟨v0, vs0, d0, ds0, p0, q0, hargs, rfl, rfl, h0, r0⟩ := trodAll_cons hA
  obtain ⟨v1, vs1, d1, ds1, p1, q1, rfl, rfl, rfl, h1, r1⟩ := trodAll_cons r0
  obtain ⟨v2, vs2, d2, ds2, p2, q2, rfl, rfl, rfl, h2, r2⟩ := trodAll_cons r1
  obtain ⟨v3, vs3, d3, ds3, p3, q3, rfl, rfl, rfl, h3, r3⟩ := trodAll_cons r2
  obtain ⟨rfl, rfl, rfl⟩ := trodAll_nil r3
  obtain rfl : args = #[v0, v1, v2, v3] := by cases args; simp_all
  obtain ⟨c0_0, c0_1, y0_0, y0_1, m0, rfl, rfl, rfl, hy0_0, hy0_1⟩ := Go.Joins.open_agg2 Try.underlying46 (by kernel_rfl) fnExactSurvivors_cells0 (hval 0 46 v0 rfl rfl) h0
  obtain ⟨f, e0_0, rfl, wf0_0⟩ := DataW.trod_int Try.underlying3 hy0_0
  simp at e0_0
  subst e0_0
  obtain ⟨A, An, Acap, AF, rfl, hl0, hm0, hr0, hw0⟩ := open_row_cells Try.underlying24 Try.underlying3 (by kernel_rfl) hy0_1
  obtain ⟨age, rfl, rfl, rfl, wf1⟩ := open_int Try.underlying3 (hval 1 3 v1 rfl rfl) h1
  obtain ⟨years, rfl, rfl, rfl, wf2⟩ := open_int Try.underlying3 (hval 2 3 v2 rfl rfl) h2
  obtain ⟨start, rfl, rfl, rfl, wf3⟩ := open_int Try.underlying3 (hval 3 3 v3 rfl rfl) h3
  exact lawSurvivors f A An Acap AF age years start W hl0 hm0 hr0
theorem fnExactSurvivors_lifted (os : Os) (started : os.Started) (H : Type) (enc : TypeId × Value → H) :
    ReturnsInHanded {} Try.checked os 10 .any (Rows.fnExactSurvivorsSpec.pre6 enc Try.prog Try.f10 Rows.fnExactSurvivorsRow.domain false) (Rows.fnExactSurvivorsSpec.post enc Try.prog Try.f10 false true false false) :=
  law_lifted (C := Try.checked) (s := Rows.fnExactSurvivorsSpec) (tb := 4) Tryown TrylaidOut (by kernel_rfl) Try.func10 rfl Try.underlying4 (by kernel_rfl) rfl (fun H ds h => match ds, h with | [d0, d1, d2, d3], _ => rfl) os started H enc
    (ChangeSpec.witness6 (enc := enc) (C := Try.checked) false ⟨#[], #[.agg #[.int .i64 0, .slice none 0 0], .int .i64 0, .int .i64 0, .int .i64 0], []⟩ 8 (by kernel_rfl) (by kernel_rfl) (by kernel_rfl) (by kernel_rfl))
    (fun W base args ds p hval hA _ _ => fnExactSurvivors_open W base args ds p hval hA)
theorem fnExactSurvivors_holds : Rows.FnExactSurvivorsSaid :=
  OpenClaim.holds_of_wide 10 Try.f10 rfl rfl rfl rfl rfl rfl rfl ⟨rfl, rfl, rfl, rfl, rfl⟩ rfl rfl rfl rfl rfl (by kernel_rfl) Try.func10 (by kernel_rfl)
    (of_decide_eq_true (by kernel_rfl)) (by unfold Func.isWrapper; first | (rw [if_pos (by decide +kernel)]; kernel_rfl) | (rw [if_neg (by decide +kernel)]; exact ⟨rfl, rfl⟩))
    (fun os started H enc _ => fnExactSurvivors_lifted os started H enc)
#print axioms fnExactSurvivors_holds
end Go.Proofs.Ytjmibbjachgofaa
