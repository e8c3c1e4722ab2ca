/- Proved: for every list of events and every kind, the program's MonthOfKind answers what the reference's MonthOfKind answers, and leaves its argument as it was. No condition. -/
import Derived.Test.YtogoddbkamgndaaOpenR
import Derived.Test.YtogoddbkamgndaaRecEvent
import Derived.Test.YtogoddbkamgndaaBackS
import Derived.Outline
namespace Go.Proofs.Ytogoddbkamgndaa
open Go.ChangeShapes Go.WideShapes Go.ChangeAt Go.RowKit

set_option maxHeartbeats 2000000 in
theorem lawMonthOfKind (A : Option Addr) (n cap : Nat) (F : Nat → Nat → Int) (kind : Int) (w : World) (hlc : n ≤ cap) (hm : cap ≤ maxLen) (hr : Recs w 2 A n F) :
    Calls Try.prog 12 #[.slice A n cap, .int .i64 kind] w fun e w' => e = .returned (.bool true) ∧ Below w.heap.size w w' := by
  have hn60 : n ≤ 9223372036854775807 := by unfold maxLen at hm; omega
  by_cases hn : n ≤ 1048576
  · have hsz := Lib.hid (fun w => by have := szEventS_any A n cap 1048576 w (by omega) (by omega) (by omega); rw [if_neg (by omega)] at this; exact this : ∀ w, Calls Try.prog 38 #[.slice A n cap, .int .i64 1048576] w fun e w' => e = .returned (.int .i64 (1048576 - n)) ∧ w = w')
    have HR := Lib.hid hr
    clear hr hm hlc hn60
    go_enter Try.func12, Try.ntmps12
    go_wp2_with (go_at_call 38; (with_reducible refine (hsz.out _).mono ?_); rintro e w' ⟨rfl, rfl⟩)
    with_reducible refine (toEventS_any A n cap F _ hn HR.out).mono ?_
    rintro e w1 ⟨v1, rfl, o1, hb1⟩
    obtain ⟨A1, c1, rfl, _, r1⟩ := own_recs o1
    have R1 := Lib.hid r1
    clear o1 r1
    go_wp2_with fail
    with_reducible refine (smonth_any A1 n c1 F kind _ hn R1.out).mono ?_
    rintro e w2 ⟨rfl, hb2⟩
    have B2 := hb1.trans (hb2.mono hb1.size)
    clear hb1 hb2 R1
    go_wp2_with fail
    with_reducible refine (toEventS_any A n cap F _ hn (HR.out.kept B2)).mono ?_
    rintro e w3 ⟨v3, rfl, o3, hb3⟩
    obtain ⟨A3, c3, rfl, _, r3⟩ := own_recs o3
    have R3 := Lib.hid r3
    have H3 := Lib.hid (own_hd o3)
    clear o3 r3
    have B3 := B2.trans (hb3.mono B2.size)
    clear hb3 B2
    go_wp2_with fail
    with_reducible refine (monthH_any A3 n c3 F kind _ hn H3.out R3.out).mono ?_
    rintro e w4 ⟨rfl, hb4⟩
    have R4 := Lib.hid (R3.out.kept hb4)
    have B4 := B3.trans (hb4.mono B3.size)
    clear hb4 B3 R3
    go_wp2_with fail
    with_reducible refine (toEventS_any A n cap F _ hn (HR.out.kept B4)).mono ?_
    rintro e w5 ⟨v5, rfl, o5, hb5⟩
    obtain ⟨A5, c5, rfl, _, r5⟩ := own_recs o5
    have R5 := Lib.hid r5
    clear o5 r5
    have R6 := Lib.hid (R4.out.kept hb5)
    have B5 := B4.trans (hb5.mono B4.size)
    clear hb5 B4 R4
    go_wp2_with fail
    with_reducible refine (eqEventS_same A3 A5 n c3 c5 F F _ hn R6.out R5.out (fun _ _ _ _ => rfl)).mono ?_
    rintro e w7 ⟨rfl, hb7⟩
    have B7 := B5.trans (hb7.mono B5.size)
    clear hb7 B5 R5 R6
    go_wp2_with fail
    go_ret
    exact ⟨rfl, B7⟩
  · have hsz := Lib.hid (fun w => by have := szEventS_any A n cap 1048576 w (by omega) (by omega) (by omega); rw [if_pos (by omega)] at this; exact this : ∀ w, Calls Try.prog 38 #[.slice A n cap, .int .i64 1048576] w fun e w' => e = .returned (.int .i64 (-1)) ∧ w = w')
    clear hr hm hlc
    go_enter Try.func12, Try.ntmps12
    go_wp2_with (go_at_call 38; (with_reducible refine (hsz.out _).mono ?_); rintro e w' ⟨rfl, rfl⟩)
    go_ret
    exact ⟨rfl, Below.refl _ _⟩
set_option maxRecDepth 100000 in
theorem fnExactMonthOfKind_open {H : Type} {enc : TypeId × Value → H} (W : World) (base : Nat) (args : Array Value) (ds : List (DataW H)) (p : List MemPlace)
    (hval : ∀ (j : Nat) t v, Try.f12.params[j]? = some t → args[j]? = some v → Value.okWide Try.prog W .any base t v)
    (hA : DataW.TrodAll enc Try.prog W 0 (fun _ => true) true Try.f12.params.toList args.toList ds p) :
    Calls Try.prog 12 args W fun e W' => e = .returned (.bool true) ∧ Below W.heap.size W W' := by
  rw [Try.params12] at hA hval
  obtain ⟨v0, vs0, d0, ds0, p0, q0, hargs, rfl, rfl, h0, r0⟩ := trodAll_cons hA
  obtain ⟨v1, vs1, d1, ds1, p1, q1, rfl, rfl, rfl, h1, r1⟩ := trodAll_cons r0
  obtain ⟨rfl, rfl, rfl⟩ := trodAll_nil r1
  obtain rfl : args = #[v0, v1] := by cases args; simp_all
  obtain ⟨A, An, Acap, AF, rfl, hl0, hm0, hr0, hw0⟩ := open_recs 2 (by decide) Try.underlying45 Try.underlying59 (by kernel_rfl) (by kernel_rfl) rfl (by kernel_rfl) (hval 0 45 v0 rfl rfl) h0
  obtain ⟨kind, rfl, rfl, rfl, wf1⟩ := open_int Try.underlying3 (hval 1 3 v1 rfl rfl) h1
  exact lawMonthOfKind A An Acap AF kind W hl0 hm0 hr0
theorem fnExactMonthOfKind_lifted (os : Os) (started : os.Started) (H : Type) (enc : TypeId × Value → H) :
    ReturnsInHanded {} Try.checked os 12 .any (Rows.fnExactMonthOfKindSpec.pre6 enc Try.prog Try.f12 Rows.fnExactMonthOfKindRow.domain false) (Rows.fnExactMonthOfKindSpec.post enc Try.prog Try.f12 false true false false) :=
  law_lifted (C := Try.checked) (s := Rows.fnExactMonthOfKindSpec) (tb := 4) Tryown TrylaidOut (by kernel_rfl) Try.func12 rfl Try.underlying4 (by kernel_rfl) rfl (fun H ds h => match ds, h with | [d0, d1], _ => rfl) os started H enc
    (ChangeSpec.witness6 (enc := enc) (C := Try.checked) false ⟨#[], #[.slice none 0 0, .int .i64 0], []⟩ 8 (by kernel_rfl) (by kernel_rfl) (by kernel_rfl) (by kernel_rfl))
    (fun W base args ds p hval hA _ _ => fnExactMonthOfKind_open W base args ds p hval hA)
theorem fnExactMonthOfKind_holds : Rows.FnExactMonthOfKindSaid :=
  OpenClaim.holds_of_wide 12 Try.f12 rfl rfl rfl rfl rfl rfl rfl ⟨rfl, rfl, rfl, rfl, rfl⟩ rfl rfl rfl rfl rfl (by kernel_rfl) Try.func12 (by kernel_rfl)
    (of_decide_eq_true (by kernel_rfl)) (by unfold Func.isWrapper; first | (rw [if_pos (by decide +kernel)]; kernel_rfl) | (rw [if_neg (by decide +kernel)]; exact ⟨rfl, rfl⟩))
    (fun os started H enc _ => fnExactMonthOfKind_lifted os started H enc)
#print axioms fnExactMonthOfKind_holds
end Go.Proofs.Ytogoddbkamgndaa
