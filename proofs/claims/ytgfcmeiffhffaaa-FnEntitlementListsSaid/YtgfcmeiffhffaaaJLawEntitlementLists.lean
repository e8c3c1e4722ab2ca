/- Proved: for every byte string, the list of entitlements of a drawn case has one amount for each month: that which EntitlementAt gives for the month, and never below 0. No condition. -/
import Derived.Outline
import Derived.Test.YtgfcmeiffhffaaaJOpen
import Derived.Test.YtgfcmeiffhffaaaJDrawD
import Derived.Test.YtgfcmeiffhffaaaJEnts
namespace Go.Proofs.Ytgfcmeiffhffaaa
open Go.ChangeShapes Go.WideShapes Go.ChangeAt Go.RowKit

set_option maxRecDepth 100000 in
set_option maxHeartbeats 16000000 in
theorem lawLists (code : Option Addr) (n cap : Nat) (F : Nat → Int) (w : World) (_hl : n ≤ cap) (_hm : cap ≤ maxLen) (hr : Row w .u8 code n F) : Calls Try.prog 5 #[.slice code n cap] w fun e w' => e = .returned (.bool true) ∧ Below w.heap.size w w' := by
  by_cases hn : n ≤ 1048576
  · have hbig : decide (1048576 < n) = false := by simp; omega
    have HR := Lib.hid hr
    clear hr
    go_enter Try.func5, Try.ntmps5
    go_wp2_with (first | (go_at_call 16; (with_reducible refine (big_any code n cap _).mono ?_); rintro e w' ⟨rfl, rfl⟩))
    with_reducible refine (drawCase_any code n cap F _ hn HR.out).mono ?_
    rintro e w1 ⟨c, rfl, hG, hA, hb1⟩
    have HG := Lib.hid hG
    have A1 := Lib.hid (hA.kept ((Below.refl w1.heap.size w1).alloc (Nat.le_refl _) (.cells #[.slice c.RA c.rn c.rc, .slice c.FA c.fn c.fc, .slice c.PA c.pn c.pc, .int .i64 c.b, .int .i64 c.j, .slice c.SA c.sn c.sc, .slice c.EA c.en c.ec] 58)))
    have z1 := hb1.size
    have B1 := Lib.hid (hb1.alloc z1 (.cells #[.slice c.RA c.rn c.rc, .slice c.FA c.fn c.fc, .slice c.PA c.pn c.pc, .int .i64 c.b, .int .i64 c.j, .slice c.SA c.sn c.sc, .slice c.EA c.en c.ec] 58))
    have X1 := Lib.hid (Box.made w1 58 #[.slice c.RA c.rn c.rc, .slice c.FA c.fn c.fc, .slice c.PA c.pn c.pc, .int .i64 c.b, .int .i64 c.j, .slice c.SA c.sn c.sc, .slice c.EA c.en c.ec])
    have HR1 := Lib.hid ((HR.out.kept hb1).alloc (.cells #[.slice c.RA c.rn c.rc, .slice c.FA c.fn c.fc, .slice c.PA c.pn c.pc, .int .i64 c.b, .int .i64 c.j, .slice c.SA c.sn c.sc, .slice c.EA c.en c.ec] 58))
    have zg : w.heap.size ≤ w1.heap.size := z1
    clear hb1 hA hG HR
    go_wp2_with fail
    generalize w1.alloc (.cells #[.slice c.RA c.rn c.rc, .slice c.FA c.fn c.fc, .slice c.PA c.pn c.pc, .int .i64 c.b, .int .i64 c.j, .slice c.SA c.sn c.sc, .slice c.EA c.en c.ec] 58) = W1 at *
    generalize w1.heap.size = g1 at *
    with_reducible refine (places_any code n cap F _ hn HR1.out).mono ?_
    rintro e w2 ⟨q, qc, P, rfl, hq, hq2, hb2, hP, hcell⟩
    have p0 := hcell 0 (by omega)
    have p1 := hcell 1 (by omega)
    have p2 := hcell 2 (by omega)
    obtain ⟨x00, x01⟩ := hP 0 (by omega)
    obtain ⟨x10, x11⟩ := hP 1 (by omega)
    obtain ⟨x20, x21⟩ := hP 2 (by omega)
    have zw1 := B1.out.size
    have B2 := Lib.hid (B1.out.trans (hb2.mono zw1))
    have A2 := Lib.hid (A1.out.kept hb2)
    have X2 := Lib.hid (X1.out.kept hb2)
    have z2 := B2.out.size
    clear hP hcell hb2 B1 A1 X1 HR1
    generalize P 0 = x0 at *
    generalize P 1 = x1 at *
    generalize P 2 = x2 at *
    clear P
    have m0 : x0.tmod 60 = x0 % 60 := Int.tmod_eq_emod_of_nonneg x00
    have m1 : x1.tmod 40 = x1 % 40 := Int.tmod_eq_emod_of_nonneg x10
    have m2 : x2.tmod 100 = x2 % 100 := Int.tmod_eq_emod_of_nonneg x20
    obtain ⟨f, hf⟩ := Int.eq_ofNat_of_zero_le (show 0 ≤ x0 % 60 by omega)
    obtain ⟨d, hd⟩ := Int.eq_ofNat_of_zero_le (show 0 ≤ x1 % 40 by omega)
    have f1 : f < 60 := by omega
    have d1 : d < 40 := by omega
    rw [hf] at m0
    rw [hd] at m1
    have k0 : 0 ≤ x2 % 100 := by omega
    have k1 : x2 % 100 ≤ 3599 := by omega
    generalize x2 % 100 = kn at *
    have HL := Lib.hid (fun w h => ents_any c HG.out f d kn (by omega) (by omega) k0 k1 w h)
    have HV := Lib.hid (fun (i : Nat) (hi : i < d) w h => by have := entAt_any c HG.out (f + i) kn (by omega) k0 k1 w h; rw [Int.natCast_add] at this; exact this : ∀ i : Nat, i < d → ∀ w, c.At w → Calls Try.prog 20 #[.agg #[.slice c.RA c.rn c.rc, .slice c.FA c.fn c.fc, .slice c.PA c.pn c.pc, .int .i64 c.b, .int .i64 c.j, .slice c.SA c.sn c.sc, .slice c.EA c.en c.ec], .int .i64 ((f : Int) + (i : Int)), .int .i64 kn] w fun e w' => e = .returned (.int .i64 (c.ent (f + i) kn)) ∧ Below w.heap.size w w')
    have HN := Lib.hid (fun i => c.ent_nonneg i kn)
    have tc := X2.out
    obtain ⟨s0, s1, s2, s3, s4, s5, s6⟩ := (show _ ∧ _ ∧ _ ∧ _ ∧ _ ∧ _ ∧ _ from ⟨tc.cell 0, tc.cell 1, tc.cell 2, tc.cell 3, tc.cell 4, tc.cell 5, tc.cell 6⟩)
    simp at s0 s1 s2 s3 s4 s5 s6
    have l2 := tc.lt
    clear tc
    go_wp2_with fail
    with_reducible refine (HL.out _ A2.out).mono ?_
    rintro e w3 ⟨v, rfl, o3, hb3⟩
    obtain ⟨AP, cP, rfl, _, r3, _⟩ := own_row o3
    have RP := Lib.hid r3
    have B3 := Lib.hid (B2.out.trans (hb3.mono z2))
    have A3 := Lib.hid (A2.out.kept hb3)
    have X3 := Lib.hid (X2.out.kept hb3)
    have z3 := B3.out.size
    clear o3 r3 hb3 B2 A2 X2 HL p0 p1 p2 m0 m1 m2 hf hd s0 s1 s2 s3 s4 s5 s6 l2 x00 x01 x10 x11 x20 x21 hq2
    have hne : ((d : Int) != (f : Int) + (d : Int) - (f : Int)) = false := by
      rw [show (f : Int) + (d : Int) - (f : Int) = d by omega]
      simp
    go_wp2_with fail
    go_loopw [9] (fun i wr => ∃ j : Nat, j ≤ d ∧ i = .int .i64 j ∧ Below w3.heap.size w3 wr) (fun i _ => d - (intOf i).toNat)
    case atStart => exact ⟨0, Nat.zero_le _, rfl, Below.refl _ _⟩
    case round =>
      obtain ⟨j, hj, rfl, hbw⟩ := hrel
      have HB := Lib.hid hbw.drew
      have zw := hbw.size
      by_cases hlt : j < d
      · obtain ⟨b', off', eA, hb', ck'⟩ := RP.out.resolve_left (show ¬ d = 0 by omega)
        have ck := ck' j hlt
        subst eA
        clear ck'
        have hbl : b' < wr.heap.size := by omega
        have cg : wr.cell? ⟨b', off' + j, none⟩ = some (.int .i64 (c.ent (f + j) kn)) := (hbw.cell (p := ⟨b', off' + j, none⟩) hb').trans ck
        have CD := Lib.hid (show wr.drew.cell? ⟨b', off' + j, none⟩ = some (.int .i64 (c.ent (f + j) kn)) from cg)
        have x3 := X3.out.kept hbw
        obtain ⟨s0, s1, s2, s3, s4, s5, s6⟩ := (show _ ∧ _ ∧ _ ∧ _ ∧ _ ∧ _ ∧ _ from ⟨x3.cell 0, x3.cell 1, x3.cell 2, x3.cell 3, x3.cell 4, x3.cell 5, x3.cell 6⟩)
        simp at s0 s1 s2 s3 s4 s5 s6
        have l3 := x3.lt
        have EV := Lib.hid (HV.out j hlt wr.drew (A3.out.kept hbw.drew))
        have x00 := HN.out (f + j)
        have hji : (j : Int) < (d : Int) := by omega
        have hj0 : (0 : Int) ≤ (j : Int) := by omega
        generalize c.ent (f + j) kn = x at *
        have k2 : decide (x < 0) = false := by simp; omega
        have k3 : (x != x) = false := by simp
        have hw : IntKind.i64.wrap ((f : Int) + (j : Int)) = (f : Int) + (j : Int) := by rw [IntKind.wrap_i64]; omega
        clear ck hbw x3
        go_wp2_with fail
        go_region_law (first | (go_simp; go_at_call 20; (with_reducible refine EV.out.mono ?_); rintro e w4 ⟨rfl, hb4⟩; have c4 := (hb4.cell (p := ⟨b', off' + j, none⟩) hbl).trans CD.out; have z4 : b' < w4.heap.size := (Nat.lt_of_lt_of_le hbl hb4.size)))
        all_goals
          have HB4 := Lib.hid (HB.out.trans (hb4.mono HB.out.size))
          clear hb4
          go_wp2
          go_roundw
          case rel => exact ⟨j + 1, by omega, by go_num, HB4.out⟩
          case measure => simp [intOf]; omega
      · obtain rfl : d = j := by omega
        have BW := Lib.hid (B3.out.trans (hbw.mono z3))
        go_wp2
        go_ret
        exact ⟨rfl, BW.out⟩
  · have hbig : decide (1048576 < n) = true := by simp; omega
    go_enter Try.func5, Try.ntmps5
    go_wp2_with (first | (go_at_call 16; (with_reducible refine (big_any code n cap _).mono ?_); rintro e w' ⟨rfl, rfl⟩))
    go_ret
    exact ⟨rfl, Below.refl _ _⟩
set_option maxRecDepth 100000 in
theorem fnEntitlementLists_open {H : Type} {enc : TypeId × Value → H} (W : World) (base : Nat) (args : Array Value) (ds : List (DataW H)) (p : List MemPlace)
    (hval : ∀ (j : Nat) t v, Try.f5.params[j]? = some t → args[j]? = some v → Value.okWide Try.prog W .any base t v)
    (hA : DataW.TrodAll enc Try.prog W 0 (fun _ => true) true Try.f5.params.toList args.toList ds p) :
    Calls Try.prog 5 args W fun e W' => e = .returned (.bool true) ∧ Below W.heap.size W W' := by
  rw [Try.params5] at hA hval
  obtain ⟨v0, vs0, d0, ds0, p0, q0, hargs, rfl, rfl, h0, r0⟩ := trodAll_cons hA
  obtain ⟨rfl, rfl, rfl⟩ := trodAll_nil r0
  obtain rfl : args = #[v0] := by cases args; simp_all
  obtain ⟨code, coden, codecap, codeF, rfl, hl0, hm0, hr0, hw0⟩ := open_row Try.underlying62 Try.underlying5 (by kernel_rfl) (hval 0 62 v0 rfl rfl) h0
  exact lawLists code coden codecap codeF W hl0 hm0 hr0
set_option maxRecDepth 100000 in
theorem fnEntitlementLists_lifted (os : Os) (started : os.Started) (H : Type) (enc : TypeId × Value → H) :
    ReturnsInHanded {} Try.checked os 5 .any (Rows.fnEntitlementListsSpec.pre6 enc Try.prog Try.f5 Rows.fnEntitlementListsRow.domain false) (Rows.fnEntitlementListsSpec.post enc Try.prog Try.f5 false true false false) :=
  law_lifted (C := Try.checked) (s := Rows.fnEntitlementListsSpec) (tb := 4) Tryown TrylaidOut (by kernel_rfl) Try.func5 rfl Try.underlying4 (by kernel_rfl) rfl (fun H ds h => match ds, h with | [d0], _ => rfl) os started H enc
    (ChangeSpec.witness6 (enc := enc) (C := Try.checked) false ⟨#[], #[.slice none 0 0], []⟩ 8 (by kernel_rfl) (by kernel_rfl) (by kernel_rfl) (by kernel_rfl))
    (fun W base args ds p hval hA _ _ => fnEntitlementLists_open W base args ds p hval hA)
theorem fnEntitlementLists_holds : Rows.FnEntitlementListsSaid :=
  OpenClaim.holds_of_wide 5 Try.f5 rfl rfl rfl rfl rfl rfl rfl ⟨rfl, rfl, rfl, rfl, rfl⟩ rfl rfl rfl rfl rfl (by kernel_rfl) Try.func5 (by kernel_rfl)
    (of_decide_eq_true (by kernel_rfl)) (by unfold Func.isWrapper; first | (rw [if_pos (by decide +kernel)]; kernel_rfl) | (rw [if_neg (by decide +kernel)]; exact ⟨rfl, rfl⟩))
    (fun os started H enc _ => fnEntitlementLists_lifted os started H enc)
#print axioms fnEntitlementLists_holds
end Go.Proofs.Ytgfcmeiffhffaaa
