/- Proved: for every byte string, the survivors of the table drawn from it never increase, are none at the end, and are at least as many where the table is improved. No condition. -/
import Derived.Test.YtjmibbjachgofaaOpen
import Derived.Test.YtjmibbjachgofaaDrawT
import Derived.Test.YtjmibbjachgofaaPlainS
import Derived.Deep.RegionHeld3
import Derived.BigQuiet
import Derived.Outline
namespace Go.Proofs.Ytjmibbjachgofaa
open Go.ChangeShapes Go.WideShapes Go.ChangeAt Go.RowKit

set_option maxRecDepth 100000 in
set_option maxHeartbeats 8000000 in
theorem lawSurviving (code : Option Addr) (n cap : Nat) (F : Nat → Int) (w : World) (_hl : n ≤ cap) (_hm : cap ≤ maxLen) (hr : Row w .u8 code n F) : Calls Try.prog 8 #[.slice code n cap] w fun e w' => e = .returned (.bool true) ∧ Below w.heap.size w w' := by
  by_cases hn : n ≤ 1048576
  · have hbig : decide (1048576 < n) = false := by simp; omega
    have HR := Lib.hid hr
    clear hr
    go_enter Try.func8, Try.ntmps8
    go_wp2_with (first | (go_at_call 15; (with_reducible refine (big_any code n cap _).mono ?_); rintro e w' ⟨rfl, rfl⟩))
    with_reducible refine (drawTable_any code n cap F _ hn HR.out).mono ?_
    rintro e w1 ⟨f, m, G, A1, c1, rfl, o1, hv, f0, f1, m0, m1, hb1⟩
    have O1 := Lib.hid (o1.alloc (.cells #[.int .i64 f, .slice A1 m c1] 39))
    have T1 := Box.made w1 39 #[.int .i64 f, .slice A1 m c1]
    have B1 := hb1.alloc hb1.size (.cells #[.int .i64 f, .slice A1 m c1] 39)
    have R1 := Lib.hid ((HR.out.kept hb1).alloc (.cells #[.int .i64 f, .slice A1 m c1] 39))
    have HV := Lib.hid hv
    have z1 := hb1.size
    clear hb1 o1 hv
    go_wp2_with fail
    with_reducible refine (places_any code n cap F _ hn R1.out).mono ?_
    rintro e w2 ⟨q, qc, P, rfl, hq, hq2, hb2, hP, hcell⟩
    have p0 := hcell 0 (by omega)
    have p1 := hcell 1 (by omega)
    have p2 := hcell 2 (by omega)
    obtain ⟨b0, b0'⟩ := hP 0 (by omega)
    obtain ⟨b1, b1'⟩ := hP 1 (by omega)
    obtain ⟨b2, b2'⟩ := hP 2 (by omega)
    have T2 := T1.kept hb2
    have O2 := Lib.hid (own_below O1.out hb2)
    have B2 := B1.trans (hb2.mono (by simp; omega))
    have z2 := hb2.size
    simp only [World.size_alloc] at z2 hq
    clear hP hcell hb2 T1 O1 B1 R1
    generalize P 0 = x0 at p0 b0 b0'
    generalize P 1 = x1 at p1 b1 b1'
    generalize P 2 = x2 at p2 b2 b2'
    obtain ⟨t0, t1, t2, t3⟩ := T2.two
    go_wp2_with fail
    go_big_quiet (fail)
    obtain ⟨age, hage⟩ : ∃ age, age = f + x0 % 10 := ⟨_, rfl⟩
    have ha0 : f ≤ age := by omega
    have ha1 : age ≤ 78 := by omega
    have H61 : survN f m G age 60 1000000 = 61 := surv_61 HV.out (by omega) (by omega)
    have HS := Lib.hid (fun w1 (h1 : Row w1 .i64 A1 m G) => by have := surv_any f A1 m c1 G age 60 1000000 w1 (by omega) h1; rw [H61] at this; exact this : ∀ w1, Row w1 .i64 A1 m G → Calls Try.prog 34 #[.agg #[.int .i64 f, .slice A1 m c1], .int .i64 age, .int .i64 60, .int .i64 1000000] w1 (IntsQ 61 (survP f m G age 1000000) w1))
    have H62 : survN f m (impR f m G (x1 % 40) (x2 % 20)) age 60 1000000 = 61 := surv_61 (impR_ok HV.out _ _) (by omega) (by omega)
    have HI := Lib.hid (fun (A2 : Option Addr) (c2 : Nat) w1 (h1 : Row w1 .i64 A2 m (impR f m G (x1 % 40) (x2 % 20))) => by have := surv_any f A2 m c2 _ age 60 1000000 w1 (by omega) h1; rw [H62] at this; exact this : ∀ (A2 : Option Addr) (c2 : Nat) w1, Row w1 .i64 A2 m (impR f m G (x1 % 40) (x2 % 20)) → Calls Try.prog 34 #[.agg #[.int .i64 f, .slice A2 m c2], .int .i64 age, .int .i64 60, .int .i64 1000000] w1 (IntsQ 61 (survP f m (impR f m G (x1 % 40) (x2 % 20)) age 1000000) w1))
    clear H61 H62
    rw [← hage]
    have T3 := T2.drewN nq
    have O3 := Lib.hid (own_below O2.out (below_drewN (Below.refl _ _) nq))
    have B3 := below_drewN B2 nq
    have p1' : (w2.drewN nq).cell? ⟨q, 1, none⟩ = some (.int .i64 x1) := p1
    have p2' : (w2.drewN nq).cell? ⟨q, 2, none⟩ = some (.int .i64 x2) := p2
    have hq3 : q < (w2.drewN nq).heap.size := hq2
    have z3 : w1.heap.size + 1 ≤ (w2.drewN nq).heap.size := z2
    clear T2 O2 B2 p0 p1 p2 t0 t1 t2 t3 hage hq2 z2
    generalize w2.drewN nq = w3 at *
    obtain ⟨t0, t1, t2, t3⟩ := T3.two
    have tl := T3.lt
    go_wp2_with fail
    with_reducible refine (HS.out _ (own_rows O3.out)).mono ?_
    rintro e w4 ⟨v, rfl, oa, hb4⟩
    obtain ⟨A4, c4, rfl, _⟩ := own_row oa
    have T4 := T3.kept hb4
    have O4 := Lib.hid (own_below O3.out hb4)
    have OA := Lib.hid oa
    have B4 := B3.trans (hb4.mono B3.size)
    have p1 := (hb4.cell (p := ⟨q, 1, none⟩) hq3).trans p1'
    have p2 := (hb4.cell (p := ⟨q, 2, none⟩) hq3).trans p2'
    have z4 := hb4.size
    clear T3 O3 B3 p1' p2' hb4 oa t0 t1 t2 t3
    obtain ⟨t0, t1, t2, t3⟩ := T4.two
    have hm1 : x1.tmod 40 = x1 % 40 := Int.tmod_eq_emod_of_nonneg b1
    have hm2 : x2.tmod 20 = x2 % 20 := Int.tmod_eq_emod_of_nonneg b2
    have hq4 : q < w4.heap.size := by omega
    have ht4 : w1.heap.size < w4.heap.size := by omega
    go_wp2_with fail
    go_region_held3 (fun w' => w'.cell? ⟨w1.heap.size, 0, none⟩ = some (.int .i64 f) ∧ w'.cell? ⟨w1.heap.size, 1, none⟩ = some (.slice A1 m c1) ∧ w'.cell? ⟨q, 1, none⟩ = some (.int .i64 x1) ∧ w'.cell? ⟨q, 2, none⟩ = some (.int .i64 x2)) (simp [go_sem, *])
      (first | (go_at_call 31; (with_reducible refine (improve_any f A1 m c1 G (x1 % 40) (x2 % 20) w4.drew (by omega) (own_headed O4.out) (own_rows O4.out).drew).mono ?_); rintro e w5 ⟨A5, c5, rfl, o5, hb5⟩; have R5 := Lib.hid (own_rows o5); clear o5; obtain ⟨hc5, hf5⟩ := bcell hb5; (try simp only [World.size_drew] at hc5 hf5); have s5 := hb5.size; (try simp only [World.size_drew] at s5); have u5 : w1.heap.size < w5.heap.size := (by omega); have v5 : q < w5.heap.size := (by omega)) | (go_at_call 34; (with_reducible refine (HI.out A5 c5 _ R5.out).mono ?_); rintro e w6 ⟨v, rfl, ob, hb6⟩; obtain ⟨A6, c6, rfl, _⟩ := own_row ob; have OB := Lib.hid ob; clear ob; obtain ⟨hc6, hf6⟩ := bcell hb6; have s6 := hb6.size))
    have BW := Lib.hid (((Below.refl w4.heap.size w4).drew.trans hb5).trans (hb6.mono s5))
    have T6 := T4.kept BW.out
    have O6 := Lib.hid (own_below O4.out BW.out)
    have OA6 := Lib.hid (own_below OA.out BW.out)
    have B6 := B4.trans (BW.out.mono B4.size)
    clear hc5 hf5 hb5 hc6 hf6 hb6 T4 O4 OA B4 p1 p2 t0 t1 t2 t3 HI HS BW
    obtain ⟨_, _, e1, _, _, hata⟩ := own_row OA6.out
    cases e1
    obtain ⟨ga, e1, _, la, hca, _⟩ := hata (by omega)
    cases e1
    obtain ⟨_, _, e2, _, _, hatb⟩ := own_row OB.out
    cases e2
    obtain ⟨gb, e2, _, lb, hcb, _⟩ := hatb (by omega)
    cases e2
    have CA := Lib.hid hca
    have CB := Lib.hid hcb
    have a0 := hca 0 (by omega)
    have s0 : survP f m G age 1000000 0 = 1000000 := rfl
    rw [s0] at a0
    clear hca hcb hata hatb s0
    go_wp2_with fail
    clear a0
    go_loopw [8] (fun i wr => ∃ k : Nat, 1 ≤ k ∧ k ≤ 61 ∧ i = .int .i64 k ∧ Below w6.heap.size w6 wr) (fun i _ => 61 - (intOf i).toNat)
    case atStart => exact ⟨1, Nat.le_refl _, by omega, rfl, Below.refl _ _⟩
    case round =>
      obtain ⟨k, k1, hk, rfl, hbw⟩ := hrel
      have HB := Lib.hid hbw
      have zz := hbw.size
      by_cases hlt : k < 61
      · have hki : (k : Int) < 61 := by omega
        have hk0 : (0 : Int) ≤ (k : Int) := by omega
        have hk1 : (1 : Int) ≤ (k : Int) := by omega
        have hw1 : IntKind.i64.wrap ((k : Int) - 1) = (k : Int) - 1 := by rw [IntKind.wrap_i64]; omega
        have hw2 : ((k : Int) - 1).toNat = k - 1 := by omega
        have hw3 : (0 : Int) ≤ (k : Int) - 1 := by omega
        have hw4 : (k : Int) - 1 < 61 := by omega
        have d1 : wr.cell? ⟨ga, k, none⟩ = some (.int .i64 (survP f m G age 1000000 k)) := (hbw.cell (p := ⟨ga, k, none⟩) la).trans (CA.out k hlt)
        have d2 : wr.cell? ⟨ga, k - 1, none⟩ = some (.int .i64 (survP f m G age 1000000 (k - 1))) := (hbw.cell (p := ⟨ga, k - 1, none⟩) la).trans (CA.out (k - 1) (by omega))
        have d3 : wr.cell? ⟨gb, k, none⟩ = some (.int .i64 (survP f m (impR f m G (x1 % 40) (x2 % 20)) age 1000000 k)) := (hbw.cell (p := ⟨gb, k, none⟩) lb).trans (CB.out k hlt)
        have h1 : decide (survP f m G age 1000000 (k - 1) < survP f m G age 1000000 k) = false := by
          have := surv_down (f := f) (n := m) (F := G) (age := age) (start := 1000000) (by omega) (by omega) (k - 1)
          have e : k - 1 + 1 = k := by omega
          rw [e] at this
          simp; omega
        have h2 : decide (survP f m G age 1000000 k < 0) = false := by
          have := (survP_bd (f := f) (n := m) (F := G) (age := age) (start := 1000000) (by omega) (by omega) k).1
          simp; omega
        have h3 : decide (survP f m (impR f m G (x1 % 40) (x2 % 20)) age 1000000 k < survP f m G age 1000000 k) = false := by
          have := surv_imp HV.out (x1 % 40) (x2 % 20) age (start := 1000000) (by omega) (by omega) k
          simp; omega
        generalize survP f m (impR f m G (x1 % 40) (x2 % 20)) age 1000000 k = vc at d3 h3
        generalize survP f m G age 1000000 (k - 1) = vb at d2 h1
        generalize survP f m G age 1000000 k = va at d1 h1 h2 h3
        clear hbw
        go_wp2_with fail
        go_big_quiet (fail)
        go_wp2
        go_roundw
        case rel => exact ⟨k + 1, by omega, by omega, by go_num, below_drewN HB.out _⟩
        case measure => simp [intOf]; omega
      · have hk61 : k = 61 := by omega
        subst hk61
        have d1 : wr.cell? ⟨ga, 60, none⟩ = some (.int .i64 0) := by
          have := (hbw.cell (p := ⟨ga, 60, none⟩) la).trans (CA.out 60 (by omega))
          rwa [surv_dead HV.out ha0 m1] at this
        have T7 := T6.kept hbw
        have RW := Lib.hid (own_rows (own_below O6.out hbw))
        obtain ⟨t0, t1, t2, t3⟩ := T7.two
        have tl7 := T7.lt
        have la7 : ga < wr.heap.size := by omega
        have HL := Lib.hid (life_any f A1 m c1 G age wr (by omega) RW.out)
        have hlp := life_pos f m G age
        have HT := Lib.hid (fun w1 (h1 : Row w1 .i64 A1 m G) => by have := tableOk_any f A1 m c1 _ w1 (by omega) h1; rw [HV.out] at this; exact this : ∀ w1, Row w1 .i64 A1 m G → Calls Try.prog 33 #[.agg #[.int .i64 f, .slice A1 m c1]] w1 fun e w' => e = .returned (.bool true) ∧ Below w1.heap.size w1 w')
        generalize lifeI f m G age = lf at *
        clear hbw
        go_wp2_with (first | (go_at_call 35; (with_reducible refine (HL.out).mono ?_); rintro e w8 ⟨rfl, hb8⟩; obtain ⟨hc8, hf8⟩ := bcell hb8; have s8 := hb8.size) | (go_at_call 33; (with_reducible refine (HT.out _ (RW.out.kept hb8)).mono ?_); rintro e w9 ⟨rfl, hb9⟩))
        go_ret
        exact ⟨rfl, (B6.trans (HB.out.mono B6.size)).trans ((hb8.trans (hb9.mono s8)).mono (Nat.le_trans B6.size zz))⟩
  · have hbig : decide (1048576 < n) = true := by simp; omega
    go_enter Try.func8, Try.ntmps8
    go_wp2_with (first | (go_at_call 15; (with_reducible refine (big_any code n cap _).mono ?_); rintro e w' ⟨rfl, rfl⟩))
    go_ret
    exact ⟨rfl, Below.refl _ _⟩
set_option maxRecDepth 100000 in
theorem fnSurviving_open {H : Type} {enc : TypeId × Value → H} (W : World) (base : Nat) (args : Array Value) (ds : List (DataW H)) (p : List MemPlace)
    (hval : ∀ (j : Nat) t v, Try.f8.params[j]? = some t → args[j]? = some v → Value.okWide Try.prog W .any base t v)
    (hA : DataW.TrodAll enc Try.prog W 0 (fun _ => true) true Try.f8.params.toList args.toList ds p) :
    Calls Try.prog 8 args W fun e W' => e = .returned (.bool true) ∧ Below W.heap.size W W' := by
  rw [Try.params8] at hA hval
  obtain ⟨v0, vs0, d0, ds0, p0, q0, hargs, rfl, rfl, h0, r0⟩ := trodAll_cons hA
  obtain ⟨rfl, rfl, rfl⟩ := trodAll_nil r0
  obtain rfl : args = #[v0] := by cases args; simp_all
  obtain ⟨code, coden, codecap, codeF, rfl, hl0, hm0, hr0, hw0⟩ := open_row Try.underlying22 Try.underlying5 (by kernel_rfl) (hval 0 22 v0 rfl rfl) h0
  exact lawSurviving code coden codecap codeF W hl0 hm0 hr0
theorem fnSurviving_lifted (os : Os) (started : os.Started) (H : Type) (enc : TypeId × Value → H) :
    ReturnsInHanded {} Try.checked os 8 .any (Rows.fnSurvivingSpec.pre6 enc Try.prog Try.f8 Rows.fnSurvivingRow.domain false) (Rows.fnSurvivingSpec.post enc Try.prog Try.f8 false true false false) :=
  law_lifted (C := Try.checked) (s := Rows.fnSurvivingSpec) (tb := 4) Tryown TrylaidOut (by kernel_rfl) Try.func8 rfl Try.underlying4 (by kernel_rfl) rfl (fun H ds h => match ds, h with | [d0], _ => rfl) os started H enc
    (ChangeSpec.witness6 (enc := enc) (C := Try.checked) false ⟨#[], #[.slice none 0 0], []⟩ 8 (by kernel_rfl) (by kernel_rfl) (by kernel_rfl) (by kernel_rfl))
    (fun W base args ds p hval hA _ _ => fnSurviving_open W base args ds p hval hA)
theorem fnSurviving_holds : Rows.FnSurvivingSaid :=
  OpenClaim.holds_of_wide 8 Try.f8 rfl rfl rfl rfl rfl rfl rfl ⟨rfl, rfl, rfl, rfl, rfl⟩ rfl rfl rfl rfl rfl (by kernel_rfl) Try.func8 (by kernel_rfl)
    (of_decide_eq_true (by kernel_rfl)) (by unfold Func.isWrapper; first | (rw [if_pos (by decide +kernel)]; kernel_rfl) | (rw [if_neg (by decide +kernel)]; exact ⟨rfl, rfl⟩))
    (fun os started H enc _ => fnSurviving_lifted os started H enc)
#print axioms fnSurviving_holds
end Go.Proofs.Ytjmibbjachgofaa
