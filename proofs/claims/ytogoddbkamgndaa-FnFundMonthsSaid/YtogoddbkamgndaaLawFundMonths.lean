/- Proved: for every byte string, the months in all nine funds of the stays drawn from it are the months in which there is a fund. No condition. -/
import Derived.Test.YtogoddbkamgndaaOpen
import Derived.Test.YtogoddbkamgndaaDrawS
import Derived.Test.YtogoddbkamgndaaPlainStays
import Derived.Outline
namespace Go.Proofs.Ytogoddbkamgndaa
open Go.ChangeShapes Go.WideShapes Go.ChangeAt Go.RowKit

set_option maxRecDepth 100000 in
set_option maxHeartbeats 4000000 in
theorem lawFundMonths (code : Option Addr) (n cap : Nat) (F : Nat → Int) (w : World) (_hl : n ≤ cap) (_hm : cap ≤ maxLen) (hr : Row w .u8 code n F) : Calls Try.prog 6 #[.slice code n cap] w fun e w' => e = .returned (.bool true) ∧ Below w.heap.size w w' := by
  by_cases hn : n ≤ 1048576
  · have hbig : decide (1048576 < n) = false := by simp; omega
    have HR := Lib.hid hr
    clear hr
    go_enter Try.func6, Try.ntmps6
    go_wp2_with (first | (go_at_call 25; (with_reducible refine (big_any code n cap _).mono ?_); rintro e w' ⟨rfl, rfl⟩))
    with_reducible refine (drawStays_any code n cap F _ hn HR.out).mono ?_
    rintro e w1 ⟨m, G, A1, c1, rfl, o1, hv, hm, hT, hb1⟩
    have R1 := Lib.hid (own_rec o1)
    have B1 := Lib.hid hb1
    have HV := Lib.hid hv
    have z1 := hb1.size
    have HE := Lib.hid (fund_months hv 250 (fun i hi => by have := hT i hi; omega))
    have HM := Lib.hid (fun (f : Int) => months_bd (fund := f) hv (Nat.le_refl m))
    clear hb1 o1 hv hT
    go_wp2_with fail
    go_loopw [4, 5] (fun x f wr => ∃ k : Nat, k ≤ 9 ∧ f = .int .i64 (1 + k) ∧ x = .int .i64 (sumI (fun f => monthsI G m (1 + f)) k) ∧ 0 ≤ sumI (fun f => monthsI G m (1 + f)) k ∧ sumI (fun f => monthsI G m (1 + f)) k ≤ 72000 * k ∧ Below w1.heap.size w1 wr) (fun _ f _ => 10 - (intOf f).toNat)
    case atStart => exact ⟨0, by omega, rfl, rfl, by simp [sumI], by simp [sumI], Below.refl _ _⟩
    case round =>
      obtain ⟨k, hk, rfl, rfl, s0, s1, hbw⟩ := hrel
      have HB := Lib.hid hbw
      have zz := hbw.size
      clear hbw
      by_cases hlt : k < 9
      · have hki : 1 + (k : Int) ≤ 9 := by omega
        have hb := HM.out (1 + k)
        have HS := Lib.hid (show sumI (fun f => monthsI G m (1 + f)) k + monthsI G m (1 + k) = sumI (fun f => monthsI G m (1 + f)) (k + 1) from rfl)
        have hq : monthsI G m (1 + k) = sumI (monthsF G (1 + k)) m := by unfold monthsI; rw [if_pos HV.out]
        rw [← hq] at hb
        clear hq
        go_wp2_with fail
        with_reducible refine (months_any A1 m c1 G (1 + k) _ (by omega) (R1.out.kept HB.out)).mono ?_
        rintro e w2 ⟨rfl, hb2⟩
        have HB2 := Lib.hid (HB.out.trans (hb2.mono zz))
        clear hb2
        generalize monthsI G m (1 + k) = y at *
        generalize sumI (fun f => monthsI G m (1 + f)) k = s at *
        go_wp2
        go_roundw
        case rel => exact ⟨k + 1, by omega, by go_num, by rw [HS.out], by rw [← HS.out]; omega, by rw [← HS.out]; omega, HB2.out⟩
        case measure => simp [intOf]; omega
      · obtain rfl : k = 9 := by omega
        rw [HE.out, show (1 : Int) + ((9 : Nat) : Int) = 10 from rfl]
        clear s0 s1 HM HE
        have B2 := Lib.hid (B1.out.trans (HB.out.mono z1))
        have R2 := Lib.hid (R1.out.kept HB.out)
        clear R1 B1 HB
        have zo := B2.out.size
        obtain ⟨wo, rfl⟩ : ∃ wo : World, wo = wr := ⟨_, rfl⟩
        go_wp2_with fail
        go_loopw [6, 7] (fun x t wr => ∃ k : Nat, k ≤ 250 ∧ t = .int .i64 k ∧ x = .int .i64 (sumI (fun t => if 0 < fundI G m t then 1 else 0) k) ∧ 0 ≤ sumI (fun t => if 0 < fundI G m t then 1 else 0) k ∧ sumI (fun t => if 0 < fundI G m t then 1 else 0) k ≤ k ∧ Below wo.heap.size wo wr) (fun _ t _ => 250 - (intOf t).toNat)
        case atStart => exact ⟨0, by omega, rfl, rfl, by simp [sumI], by simp [sumI], Below.refl _ _⟩
        case round =>
          obtain ⟨k, hk, rfl, rfl, s0, s1, hbw⟩ := hrel
          have HB := Lib.hid hbw
          have zz2 := hbw.size
          clear hbw
          by_cases hlt : k < 250
          · have hki : (k : Int) < 250 := by omega
            have HS := Lib.hid (show sumI (fun t => if 0 < fundI G m t then 1 else 0) (k + 1) = sumI (fun t => if 0 < fundI G m t then 1 else 0) k + (if 0 < fundI G m k then 1 else 0) from rfl)
            go_wp2_with fail
            with_reducible refine (fund_any A1 m c1 G k _ (by omega) (R2.out.kept HB.out)).mono ?_
            rintro e w2 ⟨rfl, hb2⟩
            have HB2 := Lib.hid (HB.out.trans (hb2.mono zz2))
            clear hb2
            generalize sumI (fun t => if 0 < fundI G m t then 1 else 0) k = s at *
            rcases Bool.eq_false_or_eq_true (decide (0 < fundI G m k)) with q1 | q1
            · have HS2 := Lib.hid (show sumI (fun t => if 0 < fundI G m t then 1 else 0) (k + 1) = s + 1 by rw [HS.out, if_pos (of_decide_eq_true q1)])
              clear HS
              go_wp2
              go_roundw
              case rel => exact ⟨k + 1, by omega, by go_num, by rw [HS2.out], by rw [HS2.out]; omega, by rw [HS2.out]; omega, HB2.out⟩
              case measure => simp [intOf]; omega
            · have HS2 := Lib.hid (show sumI (fun t => if 0 < fundI G m t then 1 else 0) (k + 1) = s by rw [HS.out, if_neg (of_decide_eq_false q1), Int.add_zero])
              clear HS
              go_wp2
              go_roundw
              case rel => exact ⟨k + 1, by omega, by go_num, by rw [HS2.out], by rw [HS2.out]; omega, by rw [HS2.out]; omega, HB2.out⟩
              case measure => simp [intOf]; omega
          · obtain rfl : k = 250 := by omega
            have HT := Lib.hid (fun w1 hr => by have := staysOk_any A1 m c1 G w1 (by omega) hr; rw [HV.out] at this; exact this : ∀ w1, Recs w1 3 A1 m G → Calls Try.prog 19 #[.slice A1 m c1] w1 fun e w' => e = .returned (.bool true) ∧ Below w1.heap.size w1 w')
            have R3 := Lib.hid (R2.out.kept HB.out)
            go_wp2_with (go_at_call 19; (with_reducible refine (HT.out _ R3.out).mono ?_); rintro e w5 ⟨rfl, hb5⟩; obtain ⟨hc5, hf5⟩ := bcell hb5; (try simp only [World.size_drew] at hc5 hf5); have hz5 := hb5.size; (try simp at hz5); (try have q5_0 : w.heap.size < w5.heap.size := by omega); (try have q5_1 : w.heap.size + 1 < w5.heap.size := by omega); (try have q5_2 : w.heap.size + 2 < w5.heap.size := by omega); (try have q5_3 : w.heap.size + 3 < w5.heap.size := by omega); (try have q5_4 : w.heap.size + 4 < w5.heap.size := by omega); (try have q5_0_0 : w0.heap.size < w5.heap.size := by omega); (try have q5_0_1 : w0.heap.size + 1 < w5.heap.size := by omega); (try have q5_1_0 : w1.heap.size < w5.heap.size := by omega); (try have q5_1_1 : w1.heap.size + 1 < w5.heap.size := by omega); (try have q5_2_0 : w2.heap.size < w5.heap.size := by omega); (try have q5_2_1 : w2.heap.size + 1 < w5.heap.size := by omega); (try have q5_3_0 : w3.heap.size < w5.heap.size := by omega); (try have q5_3_1 : w3.heap.size + 1 < w5.heap.size := by omega); (try have q5_4_0 : w4.heap.size < w5.heap.size := by omega); (try have q5_4_1 : w4.heap.size + 1 < w5.heap.size := by omega); (try have q5_6_0 : w6.heap.size < w5.heap.size := by omega); (try have q5_6_1 : w6.heap.size + 1 < w5.heap.size := by omega); (try have u5_b : b < w5.heap.size := by omega); (try have u5_q : q < w5.heap.size := by omega); (try have u5_g : g < w5.heap.size := by omega); (try have u5_g1 : g1 < w5.heap.size := by omega); (try have u5_g2 : g2 < w5.heap.size := by omega); (try have u5_g3 : g3 < w5.heap.size := by omega); (try have u5_g4 : g4 < w5.heap.size := by omega); (try have u5_g5 : g5 < w5.heap.size := by omega))
            go_ret
            exact ⟨rfl, (B2.out.trans (HB.out.mono zo)).trans (hb5.mono (Nat.le_trans zo zz2))⟩
  · have hbig : decide (1048576 < n) = true := by simp; omega
    go_enter Try.func6, Try.ntmps6
    go_wp2_with (first | (go_at_call 25; (with_reducible refine (big_any code n cap _).mono ?_); rintro e w' ⟨rfl, rfl⟩))
    go_ret
    exact ⟨rfl, Below.refl _ _⟩
set_option maxRecDepth 100000 in
theorem fnFundMonths_open {H : Type} {enc : TypeId × Value → H} (W : World) (base : Nat) (args : Array Value) (ds : List (DataW H)) (p : List MemPlace)
    (hval : ∀ (j : Nat) t v, Try.f6.params[j]? = some t → args[j]? = some v → Value.okWide Try.prog W .any base t v)
    (hA : DataW.TrodAll enc Try.prog W 0 (fun _ => true) true Try.f6.params.toList args.toList ds p) :
    Calls Try.prog 6 args W fun e W' => e = .returned (.bool true) ∧ Below W.heap.size W W' := by
  rw [Try.params6] at hA hval
  obtain ⟨v0, vs0, d0, ds0, p0, q0, hargs, rfl, rfl, h0, r0⟩ := trodAll_cons hA
  obtain ⟨rfl, rfl, rfl⟩ := trodAll_nil r0
  obtain rfl : args = #[v0] := by cases args; simp_all
  obtain ⟨code, coden, codecap, codeF, rfl, hl0, hm0, hr0, hw0⟩ := open_row Try.underlying31 Try.underlying5 (by kernel_rfl) (hval 0 31 v0 rfl rfl) h0
  exact lawFundMonths code coden codecap codeF W hl0 hm0 hr0
theorem fnFundMonths_lifted (os : Os) (started : os.Started) (H : Type) (enc : TypeId × Value → H) :
    ReturnsInHanded {} Try.checked os 6 .any (Rows.fnFundMonthsSpec.pre6 enc Try.prog Try.f6 Rows.fnFundMonthsRow.domain false) (Rows.fnFundMonthsSpec.post enc Try.prog Try.f6 false true false false) :=
  law_lifted (C := Try.checked) (s := Rows.fnFundMonthsSpec) (tb := 4) Tryown TrylaidOut (by kernel_rfl) Try.func6 rfl Try.underlying4 (by kernel_rfl) rfl (fun H ds h => match ds, h with | [d0], _ => rfl) os started H enc
    (ChangeSpec.witness6 (enc := enc) (C := Try.checked) false ⟨#[], #[.slice none 0 0], []⟩ 8 (by kernel_rfl) (by kernel_rfl) (by kernel_rfl) (by kernel_rfl))
    (fun W base args ds p hval hA _ _ => fnFundMonths_open W base args ds p hval hA)
theorem fnFundMonths_holds : Rows.FnFundMonthsSaid :=
  OpenClaim.holds_of_wide 6 Try.f6 rfl rfl rfl rfl rfl rfl rfl ⟨rfl, rfl, rfl, rfl, rfl⟩ rfl rfl rfl rfl rfl (by kernel_rfl) Try.func6 (by kernel_rfl)
    (of_decide_eq_true (by kernel_rfl)) (by unfold Func.isWrapper; first | (rw [if_pos (by decide +kernel)]; kernel_rfl) | (rw [if_neg (by decide +kernel)]; exact ⟨rfl, rfl⟩))
    (fun os started H enc _ => fnFundMonths_lifted os started H enc)
#print axioms fnFundMonths_holds
end Go.Proofs.Ytogoddbkamgndaa
