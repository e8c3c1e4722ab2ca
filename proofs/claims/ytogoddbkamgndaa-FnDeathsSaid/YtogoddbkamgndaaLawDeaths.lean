/- Proved: for every byte string, an event is added to those drawn from it just where the status allows it, and after a death there are no further events. No condition. -/
import Derived.Test.YtogoddbkamgndaaOpen
import Derived.Test.YtogoddbkamgndaaDrawE
import Derived.Test.YtogoddbkamgndaaAddI
import Derived.Test.YtogoddbkamgndaaPlainD
import Derived.Outline
namespace Go.Proofs.Ytogoddbkamgndaa
open Go.ChangeShapes Go.WideShapes Go.ChangeAt Go.RowKit

set_option maxRecDepth 100000 in
set_option maxHeartbeats 8000000 in
theorem lawDeaths (code : Option Addr) (n cap : Nat) (F : Nat → Int) (w : World) (_hl : n ≤ cap) (_hm : cap ≤ maxLen) (hr : Row w .u8 code n F) : Calls Try.prog 15 #[.slice code n cap] w fun e w' => e = .returned (.bool true) ∧ Below w.heap.size w w' := by
  by_cases hn : n ≤ 1048576
  · have hbig : decide (1048576 < n) = false := by simp; omega
    have HR := Lib.hid hr
    clear hr
    go_enter Try.func15, Try.ntmps15
    go_wp2_with (first | (go_at_call 25; (with_reducible refine (big_any code n cap _).mono ?_); rintro e w' ⟨rfl, rfl⟩))
    with_reducible refine (drawEvents_any code n cap F _ hn HR.out).mono ?_
    rintro e w1 ⟨m, G, A1, c1, rfl, o1, hv, hm, hT, hb1⟩
    have R1 := Lib.hid (own_rec o1)
    have HH := Lib.hid (own_hd o1)
    have HA := Lib.hid (own_anyA o1)
    have B1 := Lib.hid hb1
    have HV := Lib.hid hv
    have HT := Lib.hid hT
    have z1 := hb1.size
    have HD := Lib.hid (deaths hv)
    have HADD := Lib.hid (fun k => add_last (k := k) (t := 1000) hv hm (fun i hi => by have := hT i hi; omega) (by omega) (by omega))
    have HPOS := Lib.hid (posE_all (F := G) (t := 1000) (n := m) (fun i hi => by have := hT i hi; omega))
    have HS9 := Lib.hid (status_last (t := 999) hv (fun i hi => by have := hT i hi; omega))
    have HS3 := Lib.hid (status_last (t := 3599) hv (fun i hi => by have := hT i hi; omega))
    clear hb1 o1 hv hT
    go_wp2_with fail
    with_reducible refine (monthH_any A1 m c1 G 4 _ (by omega) HH.out R1.out).mono ?_
    rintro e w2 ⟨rfl, hb2⟩
    have R2 := Lib.hid (R1.out.kept hb2)
    have B2 := Lib.hid (B1.out.trans (hb2.mono z1))
    have z2 := B2.out.size
    clear hb2 R1 B1
    generalize hmo : monthI G m 4 = mo at *
    generalize hst : stN G m = st at *
    go_wp2_with fail
    go_loopw [5] (fun i wr => ∃ j : Nat, j ≤ 4 ∧ i = .int .i64 (1 + (j : Int)) ∧ Below w2.heap.size w2 wr) (fun i _ => (5 - intOf i).toNat)
    case atStart => exact ⟨0, by omega, rfl, Below.refl _ _⟩
    case round =>
      obtain ⟨j, hj, rfl, hbw⟩ := hrel
      have HB := Lib.hid hbw
      have RW := Lib.hid (R2.out.kept hbw)
      have zw := hbw.size
      by_cases hlt : j < 4
      · have hle : decide (1 + (j : Int) ≤ 4) = true := by simp; omega
        obtain ⟨k, hk⟩ : ∃ k : Int, k = 1 + (j : Int) := ⟨_, rfl⟩
        have hkb : 1 ≤ k ∧ k ≤ 4 := by omega
        have HK := Lib.hid (HADD.out k)
        clear hbw
        go_wp2_with fail
        with_reducible refine (add_any A1 m c1 G (1 + (j : Int)) 1000 _ (by omega) HA.out RW.out).mono ?_
        rintro e w3 ⟨v3, rfl, o3, hb3⟩
        rw [← hk] at o3 ⊢
        have B3 := Lib.hid (HB.out.trans (hb3.mono zw))
        have R3 := Lib.hid (RW.out.kept hb3)
        have O3 := Lib.hid o3
        have z3 := B3.out.size
        clear hb3 o3 RW HB
        obtain ⟨A3, c3, rfl, _, _⟩ := own_recs O3.out
        rw [HK.out]
        go_wp2_with fail
        with_reducible refine (sstatusAt_any A1 m c1 G 999 _ (by omega) R3.out).mono ?_
        rintro e w4 ⟨rfl, hb4⟩
        rw [HS9.out]
        have B4 := Lib.hid (B3.out.trans (hb4.mono z3))
        have O4 := Lib.hid (own_below O3.out hb4)
        have z4 := B4.out.size
        clear hb4 B3 R3 O3
        go_wp2_with fail
        with_reducible refine (sstatusAfter_any st (1 + (j : Int)) _).mono ?_
        rintro e w5 ⟨rfl, rfl⟩
        rw [← hk]
        have HKI := Lib.hid hk
        clear hk
        rcases Bool.eq_false_or_eq_true (stB st k) with q | q
        · have hN : addN G m k 1000 = m + 1 := by simp [addN, HK.out, q]
          have hG : addG G m k 1000 = insF G m (pair k 1000) := by simp [addG, HK.out, q, HPOS.out]
          rw [hN, hG] at O4
          rw [hN, q]
          have hok : eventsB (insF G m (pair k 1000)) (m + 1) = true := by
            have h := HK.out
            rw [q] at h
            simp only [addB, Bool.and_eq_true, HPOS.out] at h
            exact h.2
          have HX := Lib.hid (show statusI (insF G m (pair k 1000)) (m + 1) 1000 = stI st k by
            rw [status_last hok (fun i hi => ?_), ins_last.2, hst]
            rcases Nat.lt_or_ge i m with h | h
            · rw [insF_lt h]; have := HT.out i h; omega
            · obtain rfl : i = m := by omega
              rw [insF_at]
              simp [pair])
          clear hok hN hG
          go_wp2_with fail
          with_reducible refine (statusAt_any A3 (m + 1) c3 (insF G m (pair k 1000)) 1000 _ (by omega) (own_rec O4.out)).mono ?_
          rintro e w6 ⟨rfl, hb6⟩
          rw [HX.out]
          have B6 := Lib.hid (B4.out.trans (hb6.mono z4))
          clear hb6
          go_wp2_with fail
          go_roundw
          case rel => exact ⟨j + 1, by omega, by have := HKI.out; go_num, B6.out⟩
          case measure => have hx := HKI.out; simp [intOf]; omega
        · have hN : addN G m k 1000 = m := by simp [addN, HK.out, q]
          rw [hN, q]
          go_wp2_with fail
          go_roundw
          case rel => exact ⟨j + 1, by omega, by have := HKI.out; go_num, B4.out⟩
          case measure => have hx := HKI.out; simp [intOf]; omega
      · obtain rfl : j = 4 := by omega
        clear hbw
        rcases Bool.eq_false_or_eq_true (decide (mo < 0)) with q | q
        · go_wp2_with fail
          go_ret
          exact ⟨rfl, B2.out.trans (HB.out.mono z2)⟩
        · have h4 : st = 4 := by
            rcases HD.out with h | h
            · have := of_decide_eq_false q; omega
            · exact h
          go_wp2_with fail
          with_reducible refine (statusAt_any A1 m c1 G 3599 _ (by omega) RW.out).mono ?_
          rintro e w6 ⟨rfl, hb6⟩
          rw [HS3.out, h4]
          go_wp2_with fail
          go_ret
          exact ⟨rfl, (B2.out.trans (HB.out.mono z2)).trans (hb6.mono (by omega))⟩
  · have hbig : decide (1048576 < n) = true := by simp; omega
    go_enter Try.func15, Try.ntmps15
    go_wp2_with (first | (go_at_call 25; (with_reducible refine (big_any code n cap _).mono ?_); rintro e w' ⟨rfl, rfl⟩))
    go_ret
    exact ⟨rfl, Below.refl _ _⟩
set_option maxRecDepth 100000 in
theorem fnDeaths_open {H : Type} {enc : TypeId × Value → H} (W : World) (base : Nat) (args : Array Value) (ds : List (DataW H)) (p : List MemPlace)
    (hval : ∀ (j : Nat) t v, Try.f15.params[j]? = some t → args[j]? = some v → Value.okWide Try.prog W .any base t v)
    (hA : DataW.TrodAll enc Try.prog W 0 (fun _ => true) true Try.f15.params.toList args.toList ds p) :
    Calls Try.prog 15 args W fun e W' => e = .returned (.bool true) ∧ Below W.heap.size W W' := by
  rw [Try.params15] at hA hval
  obtain ⟨v0, vs0, d0, ds0, p0, q0, hargs, rfl, rfl, h0, r0⟩ := trodAll_cons hA
  obtain ⟨rfl, rfl, rfl⟩ := trodAll_nil r0
  obtain rfl : args = #[v0] := by cases args; simp_all
  obtain ⟨code, coden, codecap, codeF, rfl, hl0, hm0, hr0, hw0⟩ := open_row Try.underlying31 Try.underlying5 (by kernel_rfl) (hval 0 31 v0 rfl rfl) h0
  exact lawDeaths code coden codecap codeF W hl0 hm0 hr0
theorem fnDeaths_lifted (os : Os) (started : os.Started) (H : Type) (enc : TypeId × Value → H) :
    ReturnsInHanded {} Try.checked os 15 .any (Rows.fnDeathsSpec.pre6 enc Try.prog Try.f15 Rows.fnDeathsRow.domain false) (Rows.fnDeathsSpec.post enc Try.prog Try.f15 false true false false) :=
  law_lifted (C := Try.checked) (s := Rows.fnDeathsSpec) (tb := 4) Tryown TrylaidOut (by kernel_rfl) Try.func15 rfl Try.underlying4 (by kernel_rfl) rfl (fun H ds h => match ds, h with | [d0], _ => rfl) os started H enc
    (ChangeSpec.witness6 (enc := enc) (C := Try.checked) false ⟨#[], #[.slice none 0 0], []⟩ 8 (by kernel_rfl) (by kernel_rfl) (by kernel_rfl) (by kernel_rfl))
    (fun W base args ds p hval hA _ _ => fnDeaths_open W base args ds p hval hA)
theorem fnDeaths_holds : Rows.FnDeathsSaid :=
  OpenClaim.holds_of_wide 15 Try.f15 rfl rfl rfl rfl rfl rfl rfl ⟨rfl, rfl, rfl, rfl, rfl⟩ rfl rfl rfl rfl rfl (by kernel_rfl) Try.func15 (by kernel_rfl)
    (of_decide_eq_true (by kernel_rfl)) (by unfold Func.isWrapper; first | (rw [if_pos (by decide +kernel)]; kernel_rfl) | (rw [if_neg (by decide +kernel)]; exact ⟨rfl, rfl⟩))
    (fun os started H enc _ => fnDeaths_lifted os started H enc)
#print axioms fnDeaths_holds
end Go.Proofs.Ytogoddbkamgndaa
