/- Proved: for every byte string, drawn heirs are paid nothing behind the last month, never more than the total each, and of twice the total no less than twice as much, up to two cents. No condition. -/
import Derived.Test.YtoebibgkpmppdaaOpen
import Derived.Test.YtoebibgkpmppdaaPlainP
import Derived.Deep.RegionHeld3
import Derived.Outline
namespace Go.Proofs.Ytoebibgkpmppdaa
open Go.ChangeShapes Go.WideShapes Go.ChangeAt Go.RowKit

set_option maxRecDepth 100000 in
set_option maxHeartbeats 8000000 in
theorem lawOtherHeirs (code : Option Addr) (n cap : Nat) (F : Nat → Int) (w : World) (_hl : n ≤ cap) (_hm : cap ≤ maxLen) (hr : Row w .u8 code n F) : Calls Try.prog 9 #[.slice code n cap] w fun e w' => e = .returned (.bool true) ∧ Below w.heap.size w w' := by
  by_cases hn : n ≤ 1048576
  · have hbig : decide (1048576 < n) = false := by simp; omega
    have HR := Lib.hid hr
    clear hr
    go_enter Try.func9, Try.ntmps9
    go_wp2_with (first | (go_at_call 28; (with_reducible refine (big_any code n cap _).mono ?_); rintro e w' ⟨rfl, rfl⟩))
    with_reducible refine (drawHeirs_any code n cap F _ hn HR.out).mono ?_
    rintro e w1 ⟨m, G, A1, c1, rfl, o1, hm, hP, hb1⟩
    have R1 := Lib.hid (own_rec o1)
    have B1 := Lib.hid hb1
    have HP := Lib.hid hP
    have HR1 := Lib.hid (HR.out.kept hb1)
    have z1 := hb1.size
    clear hb1 o1 hP HR
    go_wp2_with fail
    with_reducible refine (places_any code n cap F _ hn HR1.out).mono ?_
    rintro e w2 ⟨q, qc, P, rfl, hq, hq2, hb2, hP, hcell⟩
    have p0 := hcell 0 (by omega)
    have p1 := hcell 1 (by omega)
    obtain ⟨x00, x01⟩ := hP 0 (by omega)
    obtain ⟨x10, x11⟩ := hP 1 (by omega)
    have B2 := Lib.hid (B1.out.trans (hb2.mono z1))
    have R2 := Lib.hid (R1.out.kept hb2)
    have z2 := B2.out.size
    clear hP hcell hb2 B1 R1 HR1
    generalize P 0 = x0 at *
    generalize P 1 = x1 at *
    clear P
    have m1 : x1.tmod 100 = x1 % 100 := Int.tmod_eq_emod_of_nonneg x10
    obtain ⟨hok, _⟩ := drawn_ok HP.out hm
    have HPB := Lib.hid (payB_mk (T := 1000 + x0) hok (by omega) (by omega))
    have HPC := Lib.hid (payB_mk (T := 2000 + 2 * x0) hok (by omega) (by omega))
    have hlast : -1 ≤ lastI G m ∧ lastI G m ≤ 3600 := by
      have := maxI_bd hok (Nat.le_refl m)
      unfold lastI
      rw [if_pos hok]
      omega
    obtain ⟨l0, l1⟩ := hlast
    have HL := Lib.hid (fun w hr => last_any A1 m c1 G w (by omega) hr)
    have HV := Lib.hid (fun T t w (hT : payB G m T = true) hr => by have := heirPay_any A1 m c1 G T t w (by omega) hr; rw [show payN G m T = m by simp [payN, hT]] at this; exact this : ∀ T t w, payB G m T = true → Recs w 4 A1 m G → Calls Try.prog 27 #[.slice A1 m c1, .int .i64 T, .int .i64 t] w (IntsQ m (payG G m T t) w))
    have HX := Lib.hid (fun i (hi : i < m) => pay_late (t := lastI G m + 1) HPB.out (by omega) hi)
    have HY := Lib.hid (fun i (hi : i < m) => pay_most (t := x1 % 100) HPB.out hi)
    have HY0 := Lib.hid (fun i (hi : i < m) => pay_low (t := x1 % 100) HPB.out hi)
    have HZ := Lib.hid (fun i (hi : i < m) => by
      have h2 : payB G m (2 * (1000 + x0)) = true := by have := HPC.out; rwa [show 2000 + 2 * x0 = 2 * (1000 + x0) by omega] at this
      have := pay_twice (t := x1 % 100) HPB.out h2 hi
      rwa [show 2 * (1000 + x0) = 2000 + 2 * x0 by omega] at this)
    have HZ0 := Lib.hid (fun i (hi : i < m) => pay_most (t := x1 % 100) HPC.out hi)
    clear hok HP
    go_wp2_with fail
    generalize hl : lastI G m = l at *
    with_reducible refine (HL.out _ R2.out).mono ?_
    rintro e w3 ⟨rfl, hb3⟩
    have q0 := (hb3.cell (p := ⟨q, 0, none⟩) hq2).trans p0
    have q1 := (hb3.cell (p := ⟨q, 1, none⟩) hq2).trans p1
    have B3 := Lib.hid (B2.out.trans (hb3.mono z2))
    have R3 := Lib.hid (R2.out.kept hb3)
    have z3 := B3.out.size
    have lq3 : q < w3.heap.size := Nat.lt_of_lt_of_le hq2 hb3.size
    clear hb3 B2 R2 HL p0 p1
    go_wp2_with fail
    with_reducible refine (HV.out (1000 + x0) (l + 1) _ HPB.out R3.out).mono ?_
    rintro e w4 ⟨v, rfl, o4, hb4⟩
    obtain ⟨Aa, ca, rfl, _, ra, _⟩ := own_row o4
    have RA := Lib.hid ra
    have p0 := (hb4.cell (p := ⟨q, 0, none⟩) lq3).trans q0
    have p1 := (hb4.cell (p := ⟨q, 1, none⟩) lq3).trans q1
    have B4 := Lib.hid (B3.out.trans (hb4.mono z3))
    have R4 := Lib.hid (R3.out.kept hb4)
    have z4 := B4.out.size
    have lq4 : q < w4.heap.size := Nat.lt_of_lt_of_le lq3 hb4.size
    clear hb4 B3 R3 q0 q1 o4 ra lq3
    go_wp2_with fail
    have wa : IntKind.i64.wrap (1000 + x0) = 1000 + x0 := by rw [IntKind.wrap_i64]; omega
    have wb : IntKind.i64.wrap (2 * x0) = 2 * x0 := by rw [IntKind.wrap_i64]; omega
    have wc : IntKind.i64.wrap (2000 + 2 * x0) = 2000 + 2 * x0 := by rw [IntKind.wrap_i64]; omega
    go_region_held3 (fun w' => w'.cell? ⟨q, 0, none⟩ = some (.int .i64 x0) ∧ w'.cell? ⟨q, 1, none⟩ = some (.int .i64 x1)) (simp [go_sem, *])
      (first | (go_at_call 27; (with_reducible refine (HV.out (1000 + x0) (x1 % 100) _ HPB.out (by repeat (first | exact R4.out | with_reducible refine Recs.drew ?_))).mono ?_); rintro e w5 ⟨v, rfl, o5, hb5⟩; obtain ⟨Ab, cb, rfl, _, rb, _⟩ := own_row o5; have RB := Lib.hid rb; clear o5 rb; obtain ⟨hc5, hf5⟩ := bcell hb5; (try simp only [World.size_drew] at hc5 hf5); have z5 := hb5.size; (try simp at z5)))
    have q0 := (hb5.cell (p := ⟨q, 0, none⟩) lq4).trans p0
    have q1 := (hb5.cell (p := ⟨q, 1, none⟩) lq4).trans p1
    have B5 := Lib.hid (B4.out.drew.trans (hb5.mono z4))
    have R5 := Lib.hid (R4.out.drew.kept hb5)
    have RA5 := Lib.hid (RA.out.drew.kept hb5)
    have lq5 : q < w5.heap.size := Nat.lt_of_lt_of_le lq4 z5
    have z6 := B5.out.size
    clear hb5 hc5 hf5 z5 B4 R4 RA p0 p1 lq4
    go_wp2_with fail
    go_region_held3 (fun w' => w'.cell? ⟨q, 0, none⟩ = some (.int .i64 x0) ∧ w'.cell? ⟨q, 1, none⟩ = some (.int .i64 x1)) (simp [go_sem, *])
      (first | (go_at_call 27; (with_reducible refine (HV.out (2000 + 2 * x0) (x1 % 100) _ HPC.out (by repeat (first | exact R5.out | with_reducible refine Recs.drew ?_))).mono ?_); rintro e w6 ⟨v, rfl, o6, hb6⟩; obtain ⟨Ac, cc, rfl, _, rc, _⟩ := own_row o6; have RC := Lib.hid rc; clear o6 rc; obtain ⟨hc6, hf6⟩ := bcell hb6; (try simp only [World.size_drew] at hc6 hf6); have z7 := hb6.size; (try simp at z7)))
    have p0 := (hb6.cell (p := ⟨q, 0, none⟩) lq5).trans q0
    have B6 := Lib.hid (B5.out.drew.trans (hb6.mono z6))
    have RA6 := Lib.hid (RA5.out.drew.kept hb6)
    have RB6 := Lib.hid (RB.out.drew.kept hb6)
    have lq6 : q < w6.heap.size := Nat.lt_of_lt_of_le lq5 z7
    have z8 := B6.out.size
    clear hb6 hc6 hf6 z7 B5 R5 RA5 RB q0 q1 lq5 wa wb wc m1
    go_wp2_with fail
    go_loopw [9] (fun i wr => ∃ j : Nat, j ≤ m ∧ i = .int .i64 j ∧ Below w6.heap.size w6 wr) (fun i _ => m - (intOf i).toNat)
    case atStart => exact ⟨0, Nat.zero_le _, rfl, Below.refl _ _⟩
    case round =>
      obtain ⟨j, hj, rfl, hbw⟩ := hrel
      have HB := Lib.hid hbw
      have zw := hbw.size
      by_cases hlt : j < m
      · obtain ⟨ba, oa, rfl, la, ka⟩ := RA6.out.hid hlt
        obtain ⟨bb, ob, rfl, lb, kb⟩ := RB6.out.hid hlt
        obtain ⟨bc, oc, rfl, lc, kc⟩ := RC.out.hid hlt
        have a0 := (hbw.cell (p := ⟨ba, oa + j, none⟩) la).trans ka
        have a1 := (hbw.cell (p := ⟨bb, ob + j, none⟩) lb).trans kb
        have a2 := (hbw.cell (p := ⟨bc, oc + j, none⟩) lc).trans kc
        have a3 := (hbw.cell (p := ⟨q, 0, none⟩) lq6).trans p0
        rw [HX.out j hlt] at a0
        have y0 := HY0.out j hlt
        have y1 := HY.out j hlt
        have y2 := HZ.out j hlt
        have y3 := HZ0.out j hlt
        have hji : (j : Int) < (m : Int) := by omega
        have hj0 : (0 : Int) ≤ (j : Int) := by omega
        clear ka kb kc la lb lc hbw p0
        generalize payG G m (1000 + x0) (x1 % 100) j = b at *
        generalize payG G m (2000 + 2 * x0) (x1 % 100) j = c at *
        have k1 : decide (c < 2 * b - 2) = false := by simp; omega
        have k2 : decide (1000 + x0 < b) = false := by simp; omega
        go_wp2_with fail
        go_big_quiet (fail)
        go_wp2
        go_roundw
        case rel => exact ⟨j + 1, by omega, by go_num, below_drewN HB.out _⟩
        case measure => simp [intOf]; omega
      · obtain rfl : m = j := by omega
        have BW := Lib.hid (B6.out.trans (hbw.mono z8))
        go_wp2
        go_ret
        exact ⟨rfl, BW.out⟩
  · have hbig : decide (1048576 < n) = true := by simp; omega
    go_enter Try.func9, Try.ntmps9
    go_wp2_with (first | (go_at_call 28; (with_reducible refine (big_any code n cap _).mono ?_); rintro e w' ⟨rfl, rfl⟩))
    go_ret
    exact ⟨rfl, Below.refl _ _⟩
set_option maxRecDepth 100000 in
theorem fnOtherHeirs_open {H : Type} {enc : TypeId × Value → H} (W : World) (base : Nat) (args : Array Value) (ds : List (DataW H)) (p : List MemPlace)
    (hval : ∀ (j : Nat) t v, Try.f9.params[j]? = some t → args[j]? = some v → Value.okWide Try.prog W .any base t v)
    (hA : DataW.TrodAll enc Try.prog W 0 (fun _ => true) true Try.f9.params.toList args.toList ds p) :
    Calls Try.prog 9 args W fun e W' => e = .returned (.bool true) ∧ Below W.heap.size W W' := by
  rw [Try.params9] at hA hval
  obtain ⟨v0, vs0, d0, ds0, p0, q0, hargs, rfl, rfl, h0, r0⟩ := trodAll_cons hA
  obtain ⟨rfl, rfl, rfl⟩ := trodAll_nil r0
  obtain rfl : args = #[v0] := by cases args; simp_all
  obtain ⟨code, coden, codecap, codeF, rfl, hl0, hm0, hr0, hw0⟩ := open_row Try.underlying38 Try.underlying5 (by kernel_rfl) (hval 0 38 v0 rfl rfl) h0
  exact lawOtherHeirs code coden codecap codeF W hl0 hm0 hr0
theorem fnOtherHeirs_lifted (os : Os) (started : os.Started) (H : Type) (enc : TypeId × Value → H) :
    ReturnsInHanded {} Try.checked os 9 .any (Rows.fnOtherHeirsSpec.pre6 enc Try.prog Try.f9 Rows.fnOtherHeirsRow.domain false) (Rows.fnOtherHeirsSpec.post enc Try.prog Try.f9 false true false false) :=
  law_lifted (C := Try.checked) (s := Rows.fnOtherHeirsSpec) (tb := 4) Tryown TrylaidOut (by kernel_rfl) Try.func9 rfl Try.underlying4 (by kernel_rfl) rfl (fun H ds h => match ds, h with | [d0], _ => rfl) os started H enc
    (ChangeSpec.witness6 (enc := enc) (C := Try.checked) false ⟨#[], #[.slice none 0 0], []⟩ 8 (by kernel_rfl) (by kernel_rfl) (by kernel_rfl) (by kernel_rfl))
    (fun W base args ds p hval hA _ _ => fnOtherHeirs_open W base args ds p hval hA)
theorem fnOtherHeirs_holds : Rows.FnOtherHeirsSaid :=
  OpenClaim.holds_of_wide 9 Try.f9 rfl rfl rfl rfl rfl rfl rfl ⟨rfl, rfl, rfl, rfl, rfl⟩ rfl rfl rfl rfl rfl (by kernel_rfl) Try.func9 (by kernel_rfl)
    (of_decide_eq_true (by kernel_rfl)) (by unfold Func.isWrapper; first | (rw [if_pos (by decide +kernel)]; kernel_rfl) | (rw [if_neg (by decide +kernel)]; exact ⟨rfl, rfl⟩))
    (fun os started H enc _ => fnOtherHeirs_lifted os started H enc)
#print axioms fnOtherHeirs_holds
end Go.Proofs.Ytoebibgkpmppdaa
