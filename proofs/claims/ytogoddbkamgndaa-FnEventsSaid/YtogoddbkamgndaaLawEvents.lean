/- Proved: for every byte string, the status at every month of an event drawn from it is that behind the events up to it. No condition. -/
import Derived.Test.YtogoddbkamgndaaOpen
import Derived.Test.YtogoddbkamgndaaDrawE
import Derived.Test.YtogoddbkamgndaaPlainEv
import Derived.Outline
namespace Go.Proofs.Ytogoddbkamgndaa
open Go.ChangeShapes Go.WideShapes Go.ChangeAt Go.RowKit

set_option maxRecDepth 100000 in
set_option maxHeartbeats 4000000 in
theorem lawEvents (code : Option Addr) (n cap : Nat) (F : Nat → Int) (w : World) (_hl : n ≤ cap) (_hm : cap ≤ maxLen) (hr : Row w .u8 code n F) : Calls Try.prog 13 #[.slice code n cap] w fun e w' => e = .returned (.bool true) ∧ Below w.heap.size w w' := by
  by_cases hn : n ≤ 1048576
  · have hbig : decide (1048576 < n) = false := by simp; omega
    have HR := Lib.hid hr
    clear hr
    go_enter Try.func13, Try.ntmps13
    go_wp2_with (first | (go_at_call 25; (with_reducible refine (big_any code n cap _).mono ?_); rintro e w' ⟨rfl, rfl⟩))
    with_reducible refine (drawEvents_any code n cap F _ hn HR.out).mono ?_
    rintro e w1 ⟨m, G, A1, c1, rfl, o1, hv, hm, hT, hb1⟩
    have R1 := Lib.hid (own_rec o1)
    have B1 := Lib.hid hb1
    have HV := Lib.hid hv
    have z1 := hb1.size
    have HS := Lib.hid (fun (t v : Int) (h : statusI G m t = v) w1 hr => by have := statusAt_any A1 m c1 G t w1 (by omega) hr; rw [h] at this; exact this : ∀ (t v : Int), statusI G m t = v → ∀ w1, Recs w1 2 A1 m G → Calls Try.prog 44 #[.slice A1 m c1, .int .i64 t] w1 fun e w' => e = .returned (.int .i64 v) ∧ Below w1.heap.size w1 w')
    clear hb1 o1 hv hT
    go_wp2_with fail
    with_reducible refine (HS.out (-1) 0 (status_first HV.out) _ R1.out).mono ?_
    rintro e w2 ⟨rfl, hb2⟩
    have R2 := Lib.hid (R1.out.kept hb2)
    have B2 := Lib.hid (B1.out.trans (hb2.mono z1))
    have z2 := B2.out.size
    clear hb2 R1 B1
    go_wp2_with fail
    go_loopw [4, 5] (fun x i wr => ∃ k : Nat, k ≤ m ∧ i = .int .i64 k ∧ x = .int .i64 (stN G k) ∧ Below w2.heap.size w2 wr) (fun _ i _ => m - (intOf i).toNat)
    case atStart => exact ⟨0, by omega, rfl, rfl, Below.refl _ _⟩
    case round =>
      obtain ⟨k, hk, rfl, rfl, hbw⟩ := hrel
      have HB := Lib.hid hbw
      have zz := hbw.size
      by_cases hlt : k < m
      · have hki : (k : Int) < (m : Int) := by omega
        have hk0 : (0 : Int) ≤ (k : Int) := by omega
        obtain ⟨b, off, e, hbl, d0, d1⟩ := (R2.out.kept hbw).at2 hlt
        have D0 := Lib.hid d0
        have D1 := Lib.hid d1
        obtain ⟨m0, m1⟩ := ev_months HV.out hlt
        have HM := Lib.hid (show stI (stN G k) (G k 0) = stN G (k + 1) from rfl)
        have HE := Lib.hid e
        clear hbw e
        have HQ := Lib.hid (ev_step HV.out hlt)
        obtain rfl := HE.out
        go_wp2_with fail
        with_reducible refine (statusAfter_any (stN G k) (G k 0) _).mono ?_
        rintro e w3 ⟨rfl, rfl⟩
        rw [HM.out, HQ.out]
        clear HM HQ
        go_wp2_with fail
        with_reducible refine (HS.out (G k 1) _ (status_at HV.out hlt) _ (R2.out.kept HB.out)).mono ?_
        rintro e w3 ⟨rfl, hb3⟩
        have HB3 := Lib.hid (HB.out.trans (hb3.mono zz))
        have z3 := HB3.out.size
        have d1 := (hb3.cell (p := ⟨b, off + k * 2 + 1, none⟩) hbl).trans D1.out
        clear hb3 d0
        go_wp2_with fail
        with_reducible refine (HS.out (G k 1 - 1) _ (status_before HV.out hlt) _ (R2.out.kept HB3.out)).mono ?_
        rintro e w4 ⟨rfl, hb4⟩
        have HB4 := Lib.hid (HB3.out.trans (hb4.mono z3))
        clear hb4 d1
        go_wp2
        go_roundw
        case rel => exact ⟨k + 1, by omega, by go_num, rfl, HB4.out⟩
        case measure => simp [intOf]; omega
      · obtain rfl : k = m := by omega
        have HT := Lib.hid (fun w1 hr => by have := eventsOk_any A1 k c1 G w1 (by omega) hr; rw [HV.out] at this; exact this : ∀ w1, Recs w1 2 A1 k G → Calls Try.prog 41 #[.slice A1 k c1] w1 fun e w' => e = .returned (.bool true) ∧ Below w1.heap.size w1 w')
        have R3 := Lib.hid (R2.out.kept HB.out)
        clear hbw
        go_wp2_with (go_at_call 41; (with_reducible refine (HT.out _ R3.out).mono ?_); rintro e w5 ⟨rfl, hb5⟩; obtain ⟨hc5, hf5⟩ := bcell hb5; (try simp only [World.size_drew] at hc5 hf5); have hz5 := hb5.size; (try simp at hz5); (try have q5_0 : w.heap.size < w5.heap.size := by omega); (try have q5_1 : w.heap.size + 1 < w5.heap.size := by omega); (try have q5_2 : w.heap.size + 2 < w5.heap.size := by omega); (try have q5_3 : w.heap.size + 3 < w5.heap.size := by omega); (try have q5_4 : w.heap.size + 4 < w5.heap.size := by omega); (try have q5_0_0 : w0.heap.size < w5.heap.size := by omega); (try have q5_0_1 : w0.heap.size + 1 < w5.heap.size := by omega); (try have q5_1_0 : w1.heap.size < w5.heap.size := by omega); (try have q5_1_1 : w1.heap.size + 1 < w5.heap.size := by omega); (try have q5_2_0 : w2.heap.size < w5.heap.size := by omega); (try have q5_2_1 : w2.heap.size + 1 < w5.heap.size := by omega); (try have q5_3_0 : w3.heap.size < w5.heap.size := by omega); (try have q5_3_1 : w3.heap.size + 1 < w5.heap.size := by omega); (try have q5_4_0 : w4.heap.size < w5.heap.size := by omega); (try have q5_4_1 : w4.heap.size + 1 < w5.heap.size := by omega); (try have q5_6_0 : w6.heap.size < w5.heap.size := by omega); (try have q5_6_1 : w6.heap.size + 1 < w5.heap.size := by omega); (try have u5_b : b < w5.heap.size := by omega); (try have u5_q : q < w5.heap.size := by omega); (try have u5_g : g < w5.heap.size := by omega); (try have u5_g1 : g1 < w5.heap.size := by omega); (try have u5_g2 : g2 < w5.heap.size := by omega); (try have u5_g3 : g3 < w5.heap.size := by omega); (try have u5_g4 : g4 < w5.heap.size := by omega); (try have u5_g5 : g5 < w5.heap.size := by omega))
        go_ret
        exact ⟨rfl, (B2.out.trans (HB.out.mono z2)).trans (hb5.mono (Nat.le_trans z2 zz))⟩
  · have hbig : decide (1048576 < n) = true := by simp; omega
    go_enter Try.func13, Try.ntmps13
    go_wp2_with (first | (go_at_call 25; (with_reducible refine (big_any code n cap _).mono ?_); rintro e w' ⟨rfl, rfl⟩))
    go_ret
    exact ⟨rfl, Below.refl _ _⟩
set_option maxRecDepth 100000 in
theorem fnEvents_open {H : Type} {enc : TypeId × Value → H} (W : World) (base : Nat) (args : Array Value) (ds : List (DataW H)) (p : List MemPlace)
    (hval : ∀ (j : Nat) t v, Try.f13.params[j]? = some t → args[j]? = some v → Value.okWide Try.prog W .any base t v)
    (hA : DataW.TrodAll enc Try.prog W 0 (fun _ => true) true Try.f13.params.toList args.toList ds p) :
    Calls Try.prog 13 args W fun e W' => e = .returned (.bool true) ∧ Below W.heap.size W W' := by
  rw [Try.params13] at hA hval
  obtain ⟨v0, vs0, d0, ds0, p0, q0, hargs, rfl, rfl, h0, r0⟩ := trodAll_cons hA
  obtain ⟨rfl, rfl, rfl⟩ := trodAll_nil r0
  obtain rfl : args = #[v0] := by cases args; simp_all
  obtain ⟨code, coden, codecap, codeF, rfl, hl0, hm0, hr0, hw0⟩ := open_row Try.underlying31 Try.underlying5 (by kernel_rfl) (hval 0 31 v0 rfl rfl) h0
  exact lawEvents code coden codecap codeF W hl0 hm0 hr0
theorem fnEvents_lifted (os : Os) (started : os.Started) (H : Type) (enc : TypeId × Value → H) :
    ReturnsInHanded {} Try.checked os 13 .any (Rows.fnEventsSpec.pre6 enc Try.prog Try.f13 Rows.fnEventsRow.domain false) (Rows.fnEventsSpec.post enc Try.prog Try.f13 false true false false) :=
  law_lifted (C := Try.checked) (s := Rows.fnEventsSpec) (tb := 4) Tryown TrylaidOut (by kernel_rfl) Try.func13 rfl Try.underlying4 (by kernel_rfl) rfl (fun H ds h => match ds, h with | [d0], _ => rfl) os started H enc
    (ChangeSpec.witness6 (enc := enc) (C := Try.checked) false ⟨#[], #[.slice none 0 0], []⟩ 8 (by kernel_rfl) (by kernel_rfl) (by kernel_rfl) (by kernel_rfl))
    (fun W base args ds p hval hA _ _ => fnEvents_open W base args ds p hval hA)
theorem fnEvents_holds : Rows.FnEventsSaid :=
  OpenClaim.holds_of_wide 13 Try.f13 rfl rfl rfl rfl rfl rfl rfl ⟨rfl, rfl, rfl, rfl, rfl⟩ rfl rfl rfl rfl rfl (by kernel_rfl) Try.func13 (by kernel_rfl)
    (of_decide_eq_true (by kernel_rfl)) (by unfold Func.isWrapper; first | (rw [if_pos (by decide +kernel)]; kernel_rfl) | (rw [if_neg (by decide +kernel)]; exact ⟨rfl, rfl⟩))
    (fun os started H enc _ => fnEvents_lifted os started H enc)
#print axioms fnEvents_holds
end Go.Proofs.Ytogoddbkamgndaa
