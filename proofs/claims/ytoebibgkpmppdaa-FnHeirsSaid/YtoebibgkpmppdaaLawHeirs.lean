/- Proved: for every byte string, drawn heirs are paid no more than the total together, and only those who are entitled are paid. No condition. -/
import Derived.Test.YtoebibgkpmppdaaOpen
import Derived.Test.YtoebibgkpmppdaaPlainP
import Derived.Outline
namespace Go.Proofs.Ytoebibgkpmppdaa
open Go.ChangeShapes Go.WideShapes Go.ChangeAt Go.RowKit

set_option maxRecDepth 100000 in
set_option maxHeartbeats 8000000 in
theorem lawHeirs (code : Option Addr) (n cap : Nat) (F : Nat → Int) (w : World) (_hl : n ≤ cap) (_hm : cap ≤ maxLen) (hr : Row w .u8 code n F) : Calls Try.prog 10 #[.slice code n cap] w fun e w' => e = .returned (.bool true) ∧ Below w.heap.size w w' := by
  by_cases hn : n ≤ 1048576
  · have hbig : decide (1048576 < n) = false := by simp; omega
    have HR := Lib.hid hr
    clear hr
    go_enter Try.func10, Try.ntmps10
    go_wp2_with (first | (go_at_call 28; (with_reducible refine (big_any code n cap _).mono ?_); rintro e w' ⟨rfl, rfl⟩))
    with_reducible refine (drawHeirs_any code n cap F _ hn HR.out).mono ?_
    rintro e w1 ⟨m, G, A1, c1, rfl, o1, hm, hP, hb1⟩
    have R1 := Lib.hid (own_rec o1)
    have B1 := Lib.hid hb1
    have HP := Lib.hid hP
    have HR1 := Lib.hid (HR.out.kept hb1)
    have z1 := hb1.size
    clear hb1 o1 hP HR
    go_wp2_with fail
    with_reducible refine (places_any code n cap F _ hn HR1.out).mono ?_
    rintro e w2 ⟨q, qc, P, rfl, hq, hq2, hb2, hP, hcell⟩
    have p0 := hcell 0 (by omega)
    have p1 := hcell 1 (by omega)
    obtain ⟨x00, x01⟩ := hP 0 (by omega)
    obtain ⟨x10, x11⟩ := hP 1 (by omega)
    have B2 := Lib.hid (B1.out.trans (hb2.mono z1))
    have R2 := Lib.hid (R1.out.kept hb2)
    have z2 := B2.out.size
    clear hP hcell hb2 B1 R1 HR1
    generalize P 0 = x0 at *
    generalize P 1 = x1 at *
    clear P
    have m0 : x0.tmod 110 = x0 % 110 := Int.tmod_eq_emod_of_nonneg x00
    obtain ⟨hok, _⟩ := drawn_ok HP.out hm
    have HPB := Lib.hid (payB_mk (T := x1 * 10) hok (by omega) (by omega))
    have HI := Lib.hid (fun id w hr => isEntitled_any A1 m c1 G id (x0 % 110) w (by omega) hr)
    have HD := Lib.hid (fun k (hk : k < m) => drawn_ent (t := x0 % 110) HP.out hm hk)
    have HO := Lib.hid (fun w hr => by have := heirsOk_any A1 m c1 G w (by omega) hr; rw [hok] at this; exact this : ∀ w, Recs w 4 A1 m G → Calls Try.prog 14 #[.slice A1 m c1] w fun e w' => e = .returned (.bool true) ∧ Below w.heap.size w w')
    have HL := Lib.hid (fun w hr => last_any A1 m c1 G w (by omega) hr)
    have HV := Lib.hid (fun w hr => by have := heirPay_any A1 m c1 G (x1 * 10) (x0 % 110) w (by omega) hr; rw [show payN G m (x1 * 10) = m by simp [payN, HPB.out]] at this; exact this : ∀ w, Recs w 4 A1 m G → Calls Try.prog 27 #[.slice A1 m c1, .int .i64 (x1 * 10), .int .i64 (x0 % 110)] w (IntsQ m (payG G m (x1 * 10) (x0 % 110)) w))
    have t0 : 0 ≤ x1 * 10 := by omega
    have t1 : x1 * 10 ≤ 99990 := by omega
    clear hok HP
    go_wp2_with fail
    generalize x0 % 110 = t at *
    generalize x1 * 10 = T at *
    with_reducible refine (HV.out _ R2.out).mono ?_
    rintro e w3 ⟨v, rfl, o3, hb3⟩
    obtain ⟨AP, cP, rfl, _, r3, _⟩ := own_row o3
    have RP := Lib.hid r3
    have B3 := Lib.hid (B2.out.trans (hb3.mono z2))
    have R3 := Lib.hid (R2.out.kept hb3)
    have z3 := B3.out.size
    clear o3 r3 hb3 B2 R2 HV p0 p1 m0 x00 x01 x10 x11 hq2
    go_wp2_with fail
    go_loopw [8, 9] (fun s i wr => ∃ j : Nat, j ≤ m ∧ i = .int .i64 j ∧ s = .int .i64 (sumI (payG G m T t) j) ∧ Below w3.heap.size w3 wr) (fun _ i _ => m - (intOf i).toNat)
    case atStart => exact ⟨0, Nat.zero_le _, rfl, rfl, Below.refl _ _⟩
    case round =>
      obtain ⟨j, hj, rfl, rfl, hbw⟩ := hrel
      have HB := Lib.hid hbw
      have zw := hbw.size
      have RW := Lib.hid (R3.out.kept hbw)
      by_cases hlt : j < m
      · obtain ⟨b, off, e, hb, d0, d1, d2, d3⟩ := RW.out.at4 hlt
        obtain ⟨b', off', rfl, hb', ck⟩ := RP.out.hid hlt
        have cg : wr.cell? ⟨b', off' + j, none⟩ = some (.int .i64 (payG G m T t j)) := (hbw.cell (p := ⟨b', off' + j, none⟩) hb').trans ck
        obtain ⟨u0, u1⟩ := pay_sum_low (t := t) HPB.out hj
        have v0 := pay_low (t := t) HPB.out hlt
        have v1 := pay_most (t := t) HPB.out hlt
        have u2 : T * (j : Int) ≤ 99990 * 5 := Int.mul_le_mul t1 (by omega) (by omega) (by omega)
        have HS := Lib.hid (show sumI (payG G m T t) (j + 1) = sumI (payG G m T t) j + payG G m T t j from rfl)
        have hji : (j : Int) < (m : Int) := by omega
        have hj0 : (0 : Int) ≤ (j : Int) := by omega
        subst e
        have k0 : decide (payG G m T t j < 0) = false := by simp; omega
        clear ck hb' d1 d2 d3 hbw
        rcases Bool.eq_false_or_eq_true (decide (0 < payG G m T t j)) with k1 | k1
        · have HE := Lib.hid (show entI G m (G j 0) t = true by
            rw [HD.out j hlt]
            rcases Bool.eq_false_or_eq_true (entB G m t (m + 1) j) with h | h
            · exact h
            · have := pay_ent (t := t) HPB.out h
              have := of_decide_eq_true k1
              omega)
          have HC := Lib.hid (fun w hr => by have := HI.out (G j 0) w hr; rw [HE.out] at this; exact this : ∀ w, Recs w 4 (some ⟨b, off, none⟩) m G → Calls Try.prog 25 #[.slice (some ⟨b, off, none⟩) m c1, .int .i64 (G j 0), .int .i64 t] w fun e w' => e = .returned (.bool true) ∧ Below w.heap.size w w')
          generalize payG G m T t j = x at *
          generalize sumI (payG G m T t) j = s at *
          go_wp2_with (go_at_call 25; (with_reducible refine (HC.out _ RW.out).mono ?_); rintro e w4 ⟨rfl, hb4⟩; obtain ⟨hc4, hf4⟩ := bcell hb4; (try simp only [World.size_drew] at hc4 hf4); have hz4 := hb4.size; (try simp at hz4); (try have q4_0 : w.heap.size < w4.heap.size := by omega); (try have q4_1 : w.heap.size + 1 < w4.heap.size := by omega); (try have q4_2 : w.heap.size + 2 < w4.heap.size := by omega); (try have q4_3 : w.heap.size + 3 < w4.heap.size := by omega); (try have q4_4 : w.heap.size + 4 < w4.heap.size := by omega); (try have q4_0_0 : w0.heap.size < w4.heap.size := by omega); (try have q4_0_1 : w0.heap.size + 1 < w4.heap.size := by omega); (try have q4_1_0 : w1.heap.size < w4.heap.size := by omega); (try have q4_1_1 : w1.heap.size + 1 < w4.heap.size := by omega); (try have q4_2_0 : w2.heap.size < w4.heap.size := by omega); (try have q4_2_1 : w2.heap.size + 1 < w4.heap.size := by omega); (try have q4_3_0 : w3.heap.size < w4.heap.size := by omega); (try have q4_3_1 : w3.heap.size + 1 < w4.heap.size := by omega); (try have q4_5_0 : w5.heap.size < w4.heap.size := by omega); (try have q4_5_1 : w5.heap.size + 1 < w4.heap.size := by omega); (try have q4_6_0 : w6.heap.size < w4.heap.size := by omega); (try have q4_6_1 : w6.heap.size + 1 < w4.heap.size := by omega); (try have u4_b : b < w4.heap.size := by omega); (try have u4_q : q < w4.heap.size := by omega); (try have u4_g : g < w4.heap.size := by omega); (try have u4_g1 : g1 < w4.heap.size := by omega); (try have u4_g2 : g2 < w4.heap.size := by omega); (try have u4_g3 : g3 < w4.heap.size := by omega); (try have u4_g4 : g4 < w4.heap.size := by omega); (try have u4_g5 : g5 < w4.heap.size := by omega))
          go_roundw
          case rel => exact ⟨j + 1, by omega, by go_num, by rw [HS.out], HB.out.trans (hb4.mono zw)⟩
          case measure => simp [intOf]; omega
        · generalize payG G m T t j = x at *
          generalize sumI (payG G m T t) j = s at *
          go_wp2_with fail
          go_roundw
          case rel => exact ⟨j + 1, by omega, by go_num, by rw [HS.out], HB.out⟩
          case measure => simp [intOf]; omega
      · obtain rfl : m = j := by omega
        have BW := Lib.hid (B3.out.trans (hbw.mono z3))
        have zb := BW.out.size
        have k1 : decide (sumI (payG G m T t) m ≤ T) = true := decide_eq_true (pay_sum HPB.out)
        have HZ := Lib.hid (fun (h : ¬ t ≤ lastI G m) => show sumI (payG G m T t) m = 0 from (sumI_congr (g := fun _ => 0) (fun i hi => pay_late HPB.out (by omega) hi)).trans (by
          have : ∀ k, sumI (fun _ => (0 : Int)) k = 0 := fun k => by induction k with
            | zero => rfl
            | succ k ih => simp [sumI, ih]
          exact this m))
        clear hbw HB RP
        generalize sumI (payG G m T t) m = s at *
        generalize hla : lastI G m = l at *
        rcases Bool.eq_false_or_eq_true (decide (t ≤ l)) with k2 | k2
        · go_wp2_with (first | (go_at_call 14; (with_reducible refine (HO.out _ RW.out).mono ?_); rintro e w4 ⟨rfl, hb4⟩; obtain ⟨hc4, hf4⟩ := bcell hb4; (try simp only [World.size_drew] at hc4 hf4); have hz4 := hb4.size; (try simp at hz4); (try have q4_0 : w.heap.size < w4.heap.size := by omega); (try have q4_1 : w.heap.size + 1 < w4.heap.size := by omega); (try have q4_2 : w.heap.size + 2 < w4.heap.size := by omega); (try have q4_3 : w.heap.size + 3 < w4.heap.size := by omega); (try have q4_4 : w.heap.size + 4 < w4.heap.size := by omega); (try have q4_0_0 : w0.heap.size < w4.heap.size := by omega); (try have q4_0_1 : w0.heap.size + 1 < w4.heap.size := by omega); (try have q4_1_0 : w1.heap.size < w4.heap.size := by omega); (try have q4_1_1 : w1.heap.size + 1 < w4.heap.size := by omega); (try have q4_2_0 : w2.heap.size < w4.heap.size := by omega); (try have q4_2_1 : w2.heap.size + 1 < w4.heap.size := by omega); (try have q4_3_0 : w3.heap.size < w4.heap.size := by omega); (try have q4_3_1 : w3.heap.size + 1 < w4.heap.size := by omega); (try have q4_5_0 : w5.heap.size < w4.heap.size := by omega); (try have q4_5_1 : w5.heap.size + 1 < w4.heap.size := by omega); (try have q4_6_0 : w6.heap.size < w4.heap.size := by omega); (try have q4_6_1 : w6.heap.size + 1 < w4.heap.size := by omega); (try have u4_b : b < w4.heap.size := by omega); (try have u4_q : q < w4.heap.size := by omega); (try have u4_g : g < w4.heap.size := by omega); (try have u4_g1 : g1 < w4.heap.size := by omega); (try have u4_g2 : g2 < w4.heap.size := by omega); (try have u4_g3 : g3 < w4.heap.size := by omega); (try have u4_g4 : g4 < w4.heap.size := by omega); (try have u4_g5 : g5 < w4.heap.size := by omega)) | (go_at_call 23; (with_reducible refine (HL.out _ (RW.out.kept hb4)).mono ?_); rintro e w5 ⟨rfl, hb5⟩; obtain ⟨hc5, hf5⟩ := bcell hb5; (try simp only [World.size_drew] at hc5 hf5); have hz5 := hb5.size; (try simp at hz5); (try have q5_0 : w.heap.size < w5.heap.size := by omega); (try have q5_1 : w.heap.size + 1 < w5.heap.size := by omega); (try have q5_2 : w.heap.size + 2 < w5.heap.size := by omega); (try have q5_3 : w.heap.size + 3 < w5.heap.size := by omega); (try have q5_4 : w.heap.size + 4 < w5.heap.size := by omega); (try have q5_0_0 : w0.heap.size < w5.heap.size := by omega); (try have q5_0_1 : w0.heap.size + 1 < w5.heap.size := by omega); (try have q5_1_0 : w1.heap.size < w5.heap.size := by omega); (try have q5_1_1 : w1.heap.size + 1 < w5.heap.size := by omega); (try have q5_2_0 : w2.heap.size < w5.heap.size := by omega); (try have q5_2_1 : w2.heap.size + 1 < w5.heap.size := by omega); (try have q5_3_0 : w3.heap.size < w5.heap.size := by omega); (try have q5_3_1 : w3.heap.size + 1 < w5.heap.size := by omega); (try have q5_4_0 : w4.heap.size < w5.heap.size := by omega); (try have q5_4_1 : w4.heap.size + 1 < w5.heap.size := by omega); (try have q5_6_0 : w6.heap.size < w5.heap.size := by omega); (try have q5_6_1 : w6.heap.size + 1 < w5.heap.size := by omega); (try have u5_b : b < w5.heap.size := by omega); (try have u5_q : q < w5.heap.size := by omega); (try have u5_g : g < w5.heap.size := by omega); (try have u5_g1 : g1 < w5.heap.size := by omega); (try have u5_g2 : g2 < w5.heap.size := by omega); (try have u5_g3 : g3 < w5.heap.size := by omega); (try have u5_g4 : g4 < w5.heap.size := by omega); (try have u5_g5 : g5 < w5.heap.size := by omega)))
          go_ret
          exact ⟨rfl, BW.out.trans ((hb4.mono zb).trans (hb5.mono (by omega)))⟩
        · obtain rfl : s = 0 := HZ.out (of_decide_eq_false k2)
          go_wp2_with (first | (go_at_call 14; (with_reducible refine (HO.out _ RW.out).mono ?_); rintro e w4 ⟨rfl, hb4⟩; obtain ⟨hc4, hf4⟩ := bcell hb4; (try simp only [World.size_drew] at hc4 hf4); have hz4 := hb4.size; (try simp at hz4); (try have q4_0 : w.heap.size < w4.heap.size := by omega); (try have q4_1 : w.heap.size + 1 < w4.heap.size := by omega); (try have q4_2 : w.heap.size + 2 < w4.heap.size := by omega); (try have q4_3 : w.heap.size + 3 < w4.heap.size := by omega); (try have q4_4 : w.heap.size + 4 < w4.heap.size := by omega); (try have q4_0_0 : w0.heap.size < w4.heap.size := by omega); (try have q4_0_1 : w0.heap.size + 1 < w4.heap.size := by omega); (try have q4_1_0 : w1.heap.size < w4.heap.size := by omega); (try have q4_1_1 : w1.heap.size + 1 < w4.heap.size := by omega); (try have q4_2_0 : w2.heap.size < w4.heap.size := by omega); (try have q4_2_1 : w2.heap.size + 1 < w4.heap.size := by omega); (try have q4_3_0 : w3.heap.size < w4.heap.size := by omega); (try have q4_3_1 : w3.heap.size + 1 < w4.heap.size := by omega); (try have q4_5_0 : w5.heap.size < w4.heap.size := by omega); (try have q4_5_1 : w5.heap.size + 1 < w4.heap.size := by omega); (try have q4_6_0 : w6.heap.size < w4.heap.size := by omega); (try have q4_6_1 : w6.heap.size + 1 < w4.heap.size := by omega); (try have u4_b : b < w4.heap.size := by omega); (try have u4_q : q < w4.heap.size := by omega); (try have u4_g : g < w4.heap.size := by omega); (try have u4_g1 : g1 < w4.heap.size := by omega); (try have u4_g2 : g2 < w4.heap.size := by omega); (try have u4_g3 : g3 < w4.heap.size := by omega); (try have u4_g4 : g4 < w4.heap.size := by omega); (try have u4_g5 : g5 < w4.heap.size := by omega)) | (go_at_call 23; (with_reducible refine (HL.out _ (RW.out.kept hb4)).mono ?_); rintro e w5 ⟨rfl, hb5⟩; obtain ⟨hc5, hf5⟩ := bcell hb5; (try simp only [World.size_drew] at hc5 hf5); have hz5 := hb5.size; (try simp at hz5); (try have q5_0 : w.heap.size < w5.heap.size := by omega); (try have q5_1 : w.heap.size + 1 < w5.heap.size := by omega); (try have q5_2 : w.heap.size + 2 < w5.heap.size := by omega); (try have q5_3 : w.heap.size + 3 < w5.heap.size := by omega); (try have q5_4 : w.heap.size + 4 < w5.heap.size := by omega); (try have q5_0_0 : w0.heap.size < w5.heap.size := by omega); (try have q5_0_1 : w0.heap.size + 1 < w5.heap.size := by omega); (try have q5_1_0 : w1.heap.size < w5.heap.size := by omega); (try have q5_1_1 : w1.heap.size + 1 < w5.heap.size := by omega); (try have q5_2_0 : w2.heap.size < w5.heap.size := by omega); (try have q5_2_1 : w2.heap.size + 1 < w5.heap.size := by omega); (try have q5_3_0 : w3.heap.size < w5.heap.size := by omega); (try have q5_3_1 : w3.heap.size + 1 < w5.heap.size := by omega); (try have q5_4_0 : w4.heap.size < w5.heap.size := by omega); (try have q5_4_1 : w4.heap.size + 1 < w5.heap.size := by omega); (try have q5_6_0 : w6.heap.size < w5.heap.size := by omega); (try have q5_6_1 : w6.heap.size + 1 < w5.heap.size := by omega); (try have u5_b : b < w5.heap.size := by omega); (try have u5_q : q < w5.heap.size := by omega); (try have u5_g : g < w5.heap.size := by omega); (try have u5_g1 : g1 < w5.heap.size := by omega); (try have u5_g2 : g2 < w5.heap.size := by omega); (try have u5_g3 : g3 < w5.heap.size := by omega); (try have u5_g4 : g4 < w5.heap.size := by omega); (try have u5_g5 : g5 < w5.heap.size := by omega)))
          go_ret
          exact ⟨rfl, BW.out.trans ((hb4.mono zb).trans (hb5.mono (by omega)))⟩
  · have hbig : decide (1048576 < n) = true := by simp; omega
    go_enter Try.func10, Try.ntmps10
    go_wp2_with (first | (go_at_call 28; (with_reducible refine (big_any code n cap _).mono ?_); rintro e w' ⟨rfl, rfl⟩))
    go_ret
    exact ⟨rfl, Below.refl _ _⟩
set_option maxRecDepth 100000 in
theorem fnHeirs_open {H : Type} {enc : TypeId × Value → H} (W : World) (base : Nat) (args : Array Value) (ds : List (DataW H)) (p : List MemPlace)
    (hval : ∀ (j : Nat) t v, Try.f10.params[j]? = some t → args[j]? = some v → Value.okWide Try.prog W .any base t v)
    (hA : DataW.TrodAll enc Try.prog W 0 (fun _ => true) true Try.f10.params.toList args.toList ds p) :
    Calls Try.prog 10 args W fun e W' => e = .returned (.bool true) ∧ Below W.heap.size W W' := by
  rw [Try.params10] at hA hval
  obtain ⟨v0, vs0, d0, ds0, p0, q0, hargs, rfl, rfl, h0, r0⟩ := trodAll_cons hA
  obtain ⟨rfl, rfl, rfl⟩ := trodAll_nil r0
  obtain rfl : args = #[v0] := by cases args; simp_all
  obtain ⟨code, coden, codecap, codeF, rfl, hl0, hm0, hr0, hw0⟩ := open_row Try.underlying38 Try.underlying5 (by kernel_rfl) (hval 0 38 v0 rfl rfl) h0
  exact lawHeirs code coden codecap codeF W hl0 hm0 hr0
theorem fnHeirs_lifted (os : Os) (started : os.Started) (H : Type) (enc : TypeId × Value → H) :
    ReturnsInHanded {} Try.checked os 10 .any (Rows.fnHeirsSpec.pre6 enc Try.prog Try.f10 Rows.fnHeirsRow.domain false) (Rows.fnHeirsSpec.post enc Try.prog Try.f10 false true false false) :=
  law_lifted (C := Try.checked) (s := Rows.fnHeirsSpec) (tb := 4) Tryown TrylaidOut (by kernel_rfl) Try.func10 rfl Try.underlying4 (by kernel_rfl) rfl (fun H ds h => match ds, h with | [d0], _ => rfl) os started H enc
    (ChangeSpec.witness6 (enc := enc) (C := Try.checked) false ⟨#[], #[.slice none 0 0], []⟩ 8 (by kernel_rfl) (by kernel_rfl) (by kernel_rfl) (by kernel_rfl))
    (fun W base args ds p hval hA _ _ => fnHeirs_open W base args ds p hval hA)
theorem fnHeirs_holds : Rows.FnHeirsSaid :=
  OpenClaim.holds_of_wide 10 Try.f10 rfl rfl rfl rfl rfl rfl rfl ⟨rfl, rfl, rfl, rfl, rfl⟩ rfl rfl rfl rfl rfl (by kernel_rfl) Try.func10 (by kernel_rfl)
    (of_decide_eq_true (by kernel_rfl)) (by unfold Func.isWrapper; first | (rw [if_pos (by decide +kernel)]; kernel_rfl) | (rw [if_neg (by decide +kernel)]; exact ⟨rfl, rfl⟩))
    (fun os started H enc _ => fnHeirs_lifted os started H enc)
#print axioms fnHeirs_holds
end Go.Proofs.Ytoebibgkpmppdaa
