/- Proved: for every byte string, more years give the annuity drawn from it a larger value, and the bounds for the whole life become narrower. No condition. -/
import Derived.Test.YtjmibbjachgofaaOpen
import Derived.Test.YtjmibbjachgofaaDrawT
import Derived.Test.YtjmibbjachgofaaPlainA
import Derived.Deep.RegionHeld3
import Derived.BigQuiet
import Derived.Outline
namespace Go.Proofs.Ytjmibbjachgofaa
open Go.ChangeShapes Go.WideShapes Go.ChangeAt Go.RowKit

set_option maxRecDepth 100000 in
set_option maxHeartbeats 8000000 in
theorem lawAnnuities (code : Option Addr) (n cap : Nat) (F : Nat → Int) (w : World) (_hl : n ≤ cap) (_hm : cap ≤ maxLen) (hr : Row w .u8 code n F) : Calls Try.prog 9 #[.slice code n cap] w fun e w' => e = .returned (.bool true) ∧ Below w.heap.size w w' := by
  by_cases hn : n ≤ 1048576
  · have hbig : decide (1048576 < n) = false := by simp; omega
    have HR := Lib.hid hr
    clear hr
    go_enter Try.func9, Try.ntmps9
    go_wp2_with (first | (go_at_call 15; (with_reducible refine (big_any code n cap _).mono ?_); rintro e w' ⟨rfl, rfl⟩))
    with_reducible refine (drawTable_any code n cap F _ hn HR.out).mono ?_
    rintro e w1 ⟨f, m, G, A1, c1, rfl, o1, hv, f0, f1, m0, m1, hb1⟩
    have O1 := Lib.hid (o1.alloc (.cells #[.int .i64 f, .slice A1 m c1] 39))
    have T1 := Box.made w1 39 #[.int .i64 f, .slice A1 m c1]
    have B1 := hb1.alloc hb1.size (.cells #[.int .i64 f, .slice A1 m c1] 39)
    have R1 := Lib.hid ((HR.out.kept hb1).alloc (.cells #[.int .i64 f, .slice A1 m c1] 39))
    have HV := Lib.hid hv
    have z1 := hb1.size
    clear hb1 o1 hv
    go_wp2_with fail
    with_reducible refine (places_any code n cap F _ hn R1.out).mono ?_
    rintro e w2 ⟨q, qc, P, rfl, hq, hq2, hb2, hP, hcell⟩
    have p0 := hcell 0 (by omega)
    have p1 := hcell 1 (by omega)
    have p2 := hcell 2 (by omega)
    obtain ⟨b0, b0'⟩ := hP 0 (by omega)
    obtain ⟨b1, b1'⟩ := hP 1 (by omega)
    obtain ⟨b2, b2'⟩ := hP 2 (by omega)
    have T2 := T1.kept hb2
    have O2 := Lib.hid (own_below O1.out hb2)
    have B2 := B1.trans (hb2.mono (by simp; omega))
    have z2 := hb2.size
    simp only [World.size_alloc] at z2 hq
    clear hP hcell hb2 T1 O1 B1 R1
    generalize P 0 = x0 at p0 b0 b0'
    generalize P 1 = x1 at p1 b1 b1'
    generalize P 2 = x2 at p2 b2 b2'
    obtain ⟨t0, t1, t2, t3⟩ := T2.two
    go_wp2_with fail
    go_big_quiet (fail)
    obtain ⟨age, hage⟩ : ∃ age, age = f + x0 % 10 := ⟨_, rfl⟩
    have ha0 : 0 ≤ age := by omega
    have ha1 : age ≤ 120 := by omega
    rw [← hage]
    have T3 := T2.drewN nq
    have O3 := Lib.hid (own_rows (own_below O2.out (below_drewN (Below.refl _ _) nq)))
    have B3 := below_drewN B2 nq
    have p1' : (w2.drewN nq).cell? ⟨q, 1, none⟩ = some (.int .i64 x1) := p1
    have p2' : (w2.drewN nq).cell? ⟨q, 2, none⟩ = some (.int .i64 x2) := p2
    have hq3 : q < (w2.drewN nq).heap.size := hq2
    have z3 : w1.heap.size + 1 ≤ (w2.drewN nq).heap.size := z2
    clear T2 O2 B2 p0 p1 p2 t0 t1 t2 t3 hage hq2 z2
    generalize w2.drewN nq = wz at *
    obtain ⟨t0, t1, t2, t3⟩ := T3.two
    have tl := T3.lt
    obtain ⟨k, hk⟩ : ∃ k : Nat, x2 % 40 = k := Int.eq_ofNat_of_zero_le (by omega)
    have hk2 : k ≤ 100 := by omega
    obtain ⟨y1, y2, y3, y4, y5, y6⟩ := annuities (rate := x1 % 80) HV.out ha0 ha1 (by omega) (by omega) k hk2
    have HA := Lib.hid (fun (j : Nat) (hj : j ≤ 120) w1 (h1 : Row w1 .i64 A1 m G) => by have := ann_any f A1 m c1 G age (x1 % 80) j w1 (by omega) h1; rw [ann_true HV.out ha0 ha1 (by omega) (by omega) j hj] at this; exact this : ∀ (j : Nat), j ≤ 120 → ∀ w1, Row w1 .i64 A1 m G → Calls Try.prog 36 #[.agg #[.int .i64 f, .slice A1 m c1], .int .i64 age, .int .i64 (x1 % 80), .int .i64 j] w1 fun e w' => e = .returned (.tuple #[.agg #[.int .i64 (annL f m G age (x1 % 80) j), .int .i64 (annH f m G age (x1 % 80) j)], .bool true]) ∧ Below w1.heap.size w1 w')
    have HWB := Lib.hid (fun w1 (h1 : Row w1 .i64 A1 m G) => by have := whole_any f A1 m c1 G age (x1 % 80) k w1 (by omega) h1; rw [show wholeB f m G age (x1 % 80) k = true from ann_true HV.out ha0 ha1 (by omega) (by omega) k (by omega)] at this; exact this : ∀ w1, Row w1 .i64 A1 m G → Calls Try.prog 37 #[.agg #[.int .i64 f, .slice A1 m c1], .int .i64 age, .int .i64 (x1 % 80), .int .i64 k] w1 fun e w' => e = .returned (.tuple #[.agg #[.int .i64 (wholeL f m G age (x1 % 80) k), .int .i64 (wholeH f m G age (x1 % 80) k)], .bool true]) ∧ Below w1.heap.size w1 w')
    have HA1 := Lib.hid (HA.out k (by omega))
    have HA2 := Lib.hid (by have := HA.out (k + 1) (by omega); simpa using this : ∀ w1, Row w1 .i64 A1 m G → Calls Try.prog 36 #[.agg #[.int .i64 f, .slice A1 m c1], .int .i64 age, .int .i64 (x1 % 80), .int .i64 (k + 1)] w1 fun e w' => e = .returned (.tuple #[.agg #[.int .i64 (annL f m G age (x1 % 80) (k + 1)), .int .i64 (annH f m G age (x1 % 80) (k + 1))], .bool true]) ∧ Below w1.heap.size w1 w')
    have HA3 : Hid (∀ w1, Row w1 .i64 A1 m G → Calls Try.prog 36 #[.agg #[.int .i64 f, .slice A1 m c1], .int .i64 age, .int .i64 (x1 % 80), .int .i64 120] w1 fun e w' => e = .returned (.tuple #[.agg #[.int .i64 (annL f m G age (x1 % 80) 120), .int .i64 (annH f m G age (x1 % 80) 120)], .bool true]) ∧ Below w1.heap.size w1 w') := HA.out 120 (by omega)
    have HBW := Lib.hid (fun w1 => by have := bandWithin_any (annL f m G age (x1 % 80) 120) (annH f m G age (x1 % 80) 120) (wholeL f m G age (x1 % 80) k) (wholeH f m G age (x1 % 80) k + 1000) w1; rw [y3] at this; exact this : ∀ w1, Calls Try.prog 29 #[.agg #[.int .i64 (annL f m G age (x1 % 80) 120), .int .i64 (annH f m G age (x1 % 80) 120)], .agg #[.int .i64 (wholeL f m G age (x1 % 80) k), .int .i64 (wholeH f m G age (x1 % 80) k + 1000)]] w1 fun e w' => e = .returned (.bool true) ∧ Below w1.heap.size w1 w')
    clear HA y3
    generalize annL f m G age (x1 % 80) k = v1 at *
    generalize annH f m G age (x1 % 80) k = v2 at *
    generalize annL f m G age (x1 % 80) (k + 1) = v3 at *
    generalize annH f m G age (x1 % 80) (k + 1) = v4 at *
    generalize annL f m G age (x1 % 80) 120 = v5 at *
    generalize annH f m G age (x1 % 80) 120 = v6 at *
    generalize wholeL f m G age (x1 % 80) k = v7 at *
    generalize wholeH f m G age (x1 % 80) k = v8 at *
    subst y4
    go_wp2_with (first | (go_at_call 36; (with_reducible refine (HA1.out _ O3.out).mono ?_); rintro e w3 ⟨rfl, hb3⟩; obtain ⟨hc3, hf3⟩ := bcell hb3; (try simp only [World.size_drew] at hc3 hf3); have hz3 := hb3.size; (try simp at hz3); (try have q3_0 : w.heap.size < w3.heap.size := by omega); (try have q3_1 : w.heap.size + 1 < w3.heap.size := by omega); (try have q3_2 : w.heap.size + 2 < w3.heap.size := by omega); (try have q3_3 : w.heap.size + 3 < w3.heap.size := by omega); (try have q3_4 : w.heap.size + 4 < w3.heap.size := by omega); (try have q3_0_0 : w0.heap.size < w3.heap.size := by omega); (try have q3_0_1 : w0.heap.size + 1 < w3.heap.size := by omega); (try have q3_1_0 : w1.heap.size < w3.heap.size := by omega); (try have q3_1_1 : w1.heap.size + 1 < w3.heap.size := by omega); (try have q3_2_0 : w2.heap.size < w3.heap.size := by omega); (try have q3_2_1 : w2.heap.size + 1 < w3.heap.size := by omega); (try have q3_4_0 : w4.heap.size < w3.heap.size := by omega); (try have q3_4_1 : w4.heap.size + 1 < w3.heap.size := by omega); (try have q3_5_0 : w5.heap.size < w3.heap.size := by omega); (try have q3_5_1 : w5.heap.size + 1 < w3.heap.size := by omega); (try have q3_6_0 : w6.heap.size < w3.heap.size := by omega); (try have q3_6_1 : w6.heap.size + 1 < w3.heap.size := by omega); (try have u3_b : b < w3.heap.size := by omega); (try have u3_q : q < w3.heap.size := by omega); (try have u3_g : g < w3.heap.size := by omega); (try have u3_g1 : g1 < w3.heap.size := by omega); (try have u3_g2 : g2 < w3.heap.size := by omega); (try have u3_g3 : g3 < w3.heap.size := by omega); (try have u3_g4 : g4 < w3.heap.size := by omega); (try have u3_g5 : g5 < w3.heap.size := by omega)) | (go_at_call 36; (with_reducible refine (HA2.out _ ((O3.out.kept hb3).alloc _)).mono ?_); rintro e w4 ⟨rfl, hb4⟩; obtain ⟨hc4, hf4⟩ := bcell hb4; (try simp only [World.size_drew] at hc4 hf4); have hz4 := hb4.size; (try simp at hz4); (try have q4_0 : w.heap.size < w4.heap.size := by omega); (try have q4_1 : w.heap.size + 1 < w4.heap.size := by omega); (try have q4_2 : w.heap.size + 2 < w4.heap.size := by omega); (try have q4_3 : w.heap.size + 3 < w4.heap.size := by omega); (try have q4_4 : w.heap.size + 4 < w4.heap.size := by omega); (try have q4_0_0 : w0.heap.size < w4.heap.size := by omega); (try have q4_0_1 : w0.heap.size + 1 < w4.heap.size := by omega); (try have q4_1_0 : w1.heap.size < w4.heap.size := by omega); (try have q4_1_1 : w1.heap.size + 1 < w4.heap.size := by omega); (try have q4_2_0 : w2.heap.size < w4.heap.size := by omega); (try have q4_2_1 : w2.heap.size + 1 < w4.heap.size := by omega); (try have q4_3_0 : w3.heap.size < w4.heap.size := by omega); (try have q4_3_1 : w3.heap.size + 1 < w4.heap.size := by omega); (try have q4_5_0 : w5.heap.size < w4.heap.size := by omega); (try have q4_5_1 : w5.heap.size + 1 < w4.heap.size := by omega); (try have q4_6_0 : w6.heap.size < w4.heap.size := by omega); (try have q4_6_1 : w6.heap.size + 1 < w4.heap.size := by omega); (try have u4_b : b < w4.heap.size := by omega); (try have u4_q : q < w4.heap.size := by omega); (try have u4_g : g < w4.heap.size := by omega); (try have u4_g1 : g1 < w4.heap.size := by omega); (try have u4_g2 : g2 < w4.heap.size := by omega); (try have u4_g3 : g3 < w4.heap.size := by omega); (try have u4_g4 : g4 < w4.heap.size := by omega); (try have u4_g5 : g5 < w4.heap.size := by omega)) | (go_at_call 37; (with_reducible refine (HWB.out _ ((((O3.out.kept hb3).alloc _).kept hb4).alloc _)).mono ?_); rintro e w5 ⟨rfl, hb5⟩; obtain ⟨hc5, hf5⟩ := bcell hb5; (try simp only [World.size_drew] at hc5 hf5); have hz5 := hb5.size; (try simp at hz5); (try have q5_0 : w.heap.size < w5.heap.size := by omega); (try have q5_1 : w.heap.size + 1 < w5.heap.size := by omega); (try have q5_2 : w.heap.size + 2 < w5.heap.size := by omega); (try have q5_3 : w.heap.size + 3 < w5.heap.size := by omega); (try have q5_4 : w.heap.size + 4 < w5.heap.size := by omega); (try have q5_0_0 : w0.heap.size < w5.heap.size := by omega); (try have q5_0_1 : w0.heap.size + 1 < w5.heap.size := by omega); (try have q5_1_0 : w1.heap.size < w5.heap.size := by omega); (try have q5_1_1 : w1.heap.size + 1 < w5.heap.size := by omega); (try have q5_2_0 : w2.heap.size < w5.heap.size := by omega); (try have q5_2_1 : w2.heap.size + 1 < w5.heap.size := by omega); (try have q5_3_0 : w3.heap.size < w5.heap.size := by omega); (try have q5_3_1 : w3.heap.size + 1 < w5.heap.size := by omega); (try have q5_4_0 : w4.heap.size < w5.heap.size := by omega); (try have q5_4_1 : w4.heap.size + 1 < w5.heap.size := by omega); (try have q5_6_0 : w6.heap.size < w5.heap.size := by omega); (try have q5_6_1 : w6.heap.size + 1 < w5.heap.size := by omega); (try have u5_b : b < w5.heap.size := by omega); (try have u5_q : q < w5.heap.size := by omega); (try have u5_g : g < w5.heap.size := by omega); (try have u5_g1 : g1 < w5.heap.size := by omega); (try have u5_g2 : g2 < w5.heap.size := by omega); (try have u5_g3 : g3 < w5.heap.size := by omega); (try have u5_g4 : g4 < w5.heap.size := by omega); (try have u5_g5 : g5 < w5.heap.size := by omega)) | (go_at_call 36; (with_reducible refine (HA3.out _ ((((((O3.out.kept hb3).alloc _).kept hb4).alloc _).kept hb5).alloc _)).mono ?_); rintro e w6 ⟨rfl, hb6⟩; obtain ⟨hc6, hf6⟩ := bcell hb6; (try simp only [World.size_drew] at hc6 hf6); have hz6 := hb6.size; (try simp at hz6); (try have q6_0 : w.heap.size < w6.heap.size := by omega); (try have q6_1 : w.heap.size + 1 < w6.heap.size := by omega); (try have q6_2 : w.heap.size + 2 < w6.heap.size := by omega); (try have q6_3 : w.heap.size + 3 < w6.heap.size := by omega); (try have q6_4 : w.heap.size + 4 < w6.heap.size := by omega); (try have q6_0_0 : w0.heap.size < w6.heap.size := by omega); (try have q6_0_1 : w0.heap.size + 1 < w6.heap.size := by omega); (try have q6_1_0 : w1.heap.size < w6.heap.size := by omega); (try have q6_1_1 : w1.heap.size + 1 < w6.heap.size := by omega); (try have q6_2_0 : w2.heap.size < w6.heap.size := by omega); (try have q6_2_1 : w2.heap.size + 1 < w6.heap.size := by omega); (try have q6_3_0 : w3.heap.size < w6.heap.size := by omega); (try have q6_3_1 : w3.heap.size + 1 < w6.heap.size := by omega); (try have q6_4_0 : w4.heap.size < w6.heap.size := by omega); (try have q6_4_1 : w4.heap.size + 1 < w6.heap.size := by omega); (try have q6_5_0 : w5.heap.size < w6.heap.size := by omega); (try have q6_5_1 : w5.heap.size + 1 < w6.heap.size := by omega); (try have u6_b : b < w6.heap.size := by omega); (try have u6_q : q < w6.heap.size := by omega); (try have u6_g : g < w6.heap.size := by omega); (try have u6_g1 : g1 < w6.heap.size := by omega); (try have u6_g2 : g2 < w6.heap.size := by omega); (try have u6_g3 : g3 < w6.heap.size := by omega); (try have u6_g4 : g4 < w6.heap.size := by omega); (try have u6_g5 : g5 < w6.heap.size := by omega)) | (go_at_call 29; (with_reducible refine (HBW.out _).mono ?_); rintro e w0 ⟨rfl, hb0⟩; obtain ⟨hc0, hf0⟩ := bcell hb0; (try simp only [World.size_drew] at hc0 hf0); have hz0 := hb0.size; (try simp at hz0); (try have q0_0 : w.heap.size < w0.heap.size := by omega); (try have q0_1 : w.heap.size + 1 < w0.heap.size := by omega); (try have q0_2 : w.heap.size + 2 < w0.heap.size := by omega); (try have q0_3 : w.heap.size + 3 < w0.heap.size := by omega); (try have q0_4 : w.heap.size + 4 < w0.heap.size := by omega); (try have q0_1_0 : w1.heap.size < w0.heap.size := by omega); (try have q0_1_1 : w1.heap.size + 1 < w0.heap.size := by omega); (try have q0_2_0 : w2.heap.size < w0.heap.size := by omega); (try have q0_2_1 : w2.heap.size + 1 < w0.heap.size := by omega); (try have q0_3_0 : w3.heap.size < w0.heap.size := by omega); (try have q0_3_1 : w3.heap.size + 1 < w0.heap.size := by omega); (try have q0_4_0 : w4.heap.size < w0.heap.size := by omega); (try have q0_4_1 : w4.heap.size + 1 < w0.heap.size := by omega); (try have q0_5_0 : w5.heap.size < w0.heap.size := by omega); (try have q0_5_1 : w5.heap.size + 1 < w0.heap.size := by omega); (try have q0_6_0 : w6.heap.size < w0.heap.size := by omega); (try have q0_6_1 : w6.heap.size + 1 < w0.heap.size := by omega); (try have u0_b : b < w0.heap.size := by omega); (try have u0_q : q < w0.heap.size := by omega); (try have u0_g : g < w0.heap.size := by omega); (try have u0_g1 : g1 < w0.heap.size := by omega); (try have u0_g2 : g2 < w0.heap.size := by omega); (try have u0_g3 : g3 < w0.heap.size := by omega); (try have u0_g4 : g4 < w0.heap.size := by omega); (try have u0_g5 : g5 < w0.heap.size := by omega)))
    go_ret
    exact ⟨rfl, by (repeat (first | with_reducible exact Below.refl _ _ | with_reducible refine Below.drew ?_ | (with_reducible refine Below.alloc ?_ ?hsz _; case hsz => ((try simp) <;> (try omega))) | (with_reducible refine Below.setCell ?_ ?hsz _; case hsz => ((try simp) <;> (try omega))) | (with_reducible refine below_step (by with_reducible assumption) ?hsz ?_; case hsz => ((try simp) <;> (try omega)))))⟩
  · have hbig : decide (1048576 < n) = true := by simp; omega
    go_enter Try.func9, Try.ntmps9
    go_wp2_with (first | (go_at_call 15; (with_reducible refine (big_any code n cap _).mono ?_); rintro e w' ⟨rfl, rfl⟩))
    go_ret
    exact ⟨rfl, Below.refl _ _⟩
set_option maxRecDepth 100000 in
theorem fnAnnuities_open {H : Type} {enc : TypeId × Value → H} (W : World) (base : Nat) (args : Array Value) (ds : List (DataW H)) (p : List MemPlace)
    (hval : ∀ (j : Nat) t v, Try.f9.params[j]? = some t → args[j]? = some v → Value.okWide Try.prog W .any base t v)
    (hA : DataW.TrodAll enc Try.prog W 0 (fun _ => true) true Try.f9.params.toList args.toList ds p) :
    Calls Try.prog 9 args W fun e W' => e = .returned (.bool true) ∧ Below W.heap.size W W' := by
  rw [Try.params9] at hA hval
  obtain ⟨v0, vs0, d0, ds0, p0, q0, hargs, rfl, rfl, h0, r0⟩ := trodAll_cons hA
  obtain ⟨rfl, rfl, rfl⟩ := trodAll_nil r0
  obtain rfl : args = #[v0] := by cases args; simp_all
  obtain ⟨code, coden, codecap, codeF, rfl, hl0, hm0, hr0, hw0⟩ := open_row Try.underlying22 Try.underlying5 (by kernel_rfl) (hval 0 22 v0 rfl rfl) h0
  exact lawAnnuities code coden codecap codeF W hl0 hm0 hr0
theorem fnAnnuities_lifted (os : Os) (started : os.Started) (H : Type) (enc : TypeId × Value → H) :
    ReturnsInHanded {} Try.checked os 9 .any (Rows.fnAnnuitiesSpec.pre6 enc Try.prog Try.f9 Rows.fnAnnuitiesRow.domain false) (Rows.fnAnnuitiesSpec.post enc Try.prog Try.f9 false true false false) :=
  law_lifted (C := Try.checked) (s := Rows.fnAnnuitiesSpec) (tb := 4) Tryown TrylaidOut (by kernel_rfl) Try.func9 rfl Try.underlying4 (by kernel_rfl) rfl (fun H ds h => match ds, h with | [d0], _ => rfl) os started H enc
    (ChangeSpec.witness6 (enc := enc) (C := Try.checked) false ⟨#[], #[.slice none 0 0], []⟩ 8 (by kernel_rfl) (by kernel_rfl) (by kernel_rfl) (by kernel_rfl))
    (fun W base args ds p hval hA _ _ => fnAnnuities_open W base args ds p hval hA)
theorem fnAnnuities_holds : Rows.FnAnnuitiesSaid :=
  OpenClaim.holds_of_wide 9 Try.f9 rfl rfl rfl rfl rfl rfl rfl ⟨rfl, rfl, rfl, rfl, rfl⟩ rfl rfl rfl rfl rfl (by kernel_rfl) Try.func9 (by kernel_rfl)
    (of_decide_eq_true (by kernel_rfl)) (by unfold Func.isWrapper; first | (rw [if_pos (by decide +kernel)]; kernel_rfl) | (rw [if_neg (by decide +kernel)]; exact ⟨rfl, rfl⟩))
    (fun os started H enc _ => fnAnnuities_lifted os started H enc)
#print axioms fnAnnuities_holds
end Go.Proofs.Ytjmibbjachgofaa
