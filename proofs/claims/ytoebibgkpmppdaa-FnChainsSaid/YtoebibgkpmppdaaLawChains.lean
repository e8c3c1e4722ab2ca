/- Proved: for every byte string, a drawn heir is entitled just while the one whom he comes after is not; drawn heirs are in no circle, and a circle is found. No condition. -/
import Derived.Test.YtoebibgkpmppdaaOpen
import Derived.Test.YtoebibgkpmppdaaPlainH
import Derived.Test.YtoebibgkpmppdaaSame
import Derived.Outline
namespace Go.Proofs.Ytoebibgkpmppdaa
open Go.ChangeShapes Go.WideShapes Go.ChangeAt Go.RowKit

set_option maxRecDepth 100000 in
set_option maxHeartbeats 8000000 in
theorem lawChains (code : Option Addr) (n cap : Nat) (F : Nat → Int) (w : World) (_hl : n ≤ cap) (_hm : cap ≤ maxLen) (hr : Row w .u8 code n F) : Calls Try.prog 8 #[.slice code n cap] w fun e w' => e = .returned (.bool true) ∧ Below w.heap.size w w' := by
  by_cases hn : n ≤ 1048576
  · have hbig : decide (1048576 < n) = false := by simp; omega
    have HR := Lib.hid hr
    clear hr
    go_enter Try.func8, Try.ntmps8
    go_wp2_with (first | (go_at_call 28; (with_reducible refine (big_any code n cap _).mono ?_); rintro e w' ⟨rfl, rfl⟩))
    with_reducible refine (drawHeirs_any code n cap F _ hn HR.out).mono ?_
    rintro e w1 ⟨m, G, A1, c1, rfl, o1, hm, hP, hb1⟩
    have R1 := Lib.hid (own_rec o1)
    have B1 := Lib.hid hb1
    have HP := Lib.hid hP
    have HR1 := Lib.hid (HR.out.kept hb1)
    have z1 := hb1.size
    clear hb1 o1 hP HR
    go_wp2_with fail
    with_reducible refine (places_any code n cap F _ hn HR1.out).mono ?_
    rintro e w2 ⟨q, qc, P, rfl, hq, hq2, hb2, hP, hcell⟩
    have p0 := hcell 0 (by omega)
    obtain ⟨x00, x01⟩ := hP 0 (by omega)
    have B2 := Lib.hid (B1.out.trans (hb2.mono z1))
    have R2 := Lib.hid (R1.out.kept hb2)
    have z2 := B2.out.size
    clear hP hcell hb2 B1 R1 HR1
    generalize P 0 = x0 at *
    clear P
    have m0 : x0.tmod 110 = x0 % 110 := Int.tmod_eq_emod_of_nonneg x00
    have HOK := Lib.hid (drawn_ok HP.out hm)
    have HCH := Lib.hid (fun k (hk : k < m) => chains (t := x0 % 110) HP.out hm (by omega) hk)
    have HI := Lib.hid (fun id w hr => isEntitled_any A1 m c1 G id (x0 % 110) w (by omega) hr)
    go_wp2_with fail
    generalize x0 % 110 = t at *
    go_loopw [6] (fun i wr => ∃ j : Nat, j ≤ m ∧ i = .int .i64 j ∧ Below w2.heap.size w2 wr) (fun i _ => m - (intOf i).toNat)
    case atStart => exact ⟨0, Nat.zero_le _, rfl, Below.refl _ _⟩
    case round =>
      obtain ⟨j, hj, rfl, hbw⟩ := hrel
      have HB := Lib.hid hbw
      by_cases hlt : j < m
      · have RW := Lib.hid (R2.out.kept hbw)
        obtain ⟨b, off, e, hb, d0, d1, d2, d3⟩ := RW.out.at4 hlt
        have HC := Lib.hid (HCH.out j hlt)
        have hji : (j : Int) < (m : Int) := by omega
        have hj0 : (0 : Int) ≤ (j : Int) := by omega
        have zw := hbw.size
        generalize G j 0 = g0 at *
        generalize G j 1 = g1 at *
        generalize G j 2 = g2 at *
        generalize G j 3 = g3 at *
        have X0 := Box.made wr 43 #[.int .i64 g0, .int .i64 g1, .int .i64 g2, .int .i64 g3]
        have R0 := Lib.hid (RW.out.alloc (.cells #[.int .i64 g0, .int .i64 g1, .int .i64 g2, .int .i64 g3] 43))
        have B0 := Lib.hid (hbw.alloc zw (.cells #[.int .i64 g0, .int .i64 g1, .int .i64 g2, .int .i64 g3] 43))
        subst e
        clear hbw RW hb
        rcases Bool.eq_false_or_eq_true (decide (t < g2)) with k1 | k1
        · rcases Bool.eq_false_or_eq_true (g3 == 0) with k2 | k2
          · have HV := Lib.hid (show entI G m g0 t = true by rw [HC.out, k1, k2]; rfl)
            go_wp2_with fail
            with_reducible refine (HI.out g0 _ R0.out).mono ?_
            rintro e w9 ⟨rfl, hb9⟩
            rw [HV.out]
            go_wp2
            go_roundw
            case rel => exact ⟨j + 1, by omega, by go_num, B0.out.trans (hb9.mono (by (try simp only [World.size_alloc] at *); omega))⟩
            case measure => simp [intOf]; omega
          · have HV := Lib.hid (show entI G m g0 t = !entI G m g3 t by rw [HC.out, k1, k2]; simp)
            go_wp2_with fail
            with_reducible refine (HI.out g3 _ R0.out).mono ?_
            rintro e w3 ⟨rfl, hb3⟩
            have X3 := X0.kept hb3
            obtain ⟨h1, h2, h3, h4, h5⟩ := X3.all4
            have lx := X3.lt
            have R3 := Lib.hid (R0.out.kept hb3)
            have B3 := Lib.hid (B0.out.trans (hb3.mono (by simp; omega)))
            have z3 := B3.out.size
            clear hb3 R0 B0
            generalize entI G m g3 t = en at *
            go_wp2_with fail
            with_reducible refine (HI.out g0 _ R3.out).mono ?_
            rintro e w9 ⟨rfl, hb9⟩
            rw [HV.out]
            cases en
            all_goals (go_wp2_with fail; go_wp2; go_roundw; (case rel => exact ⟨j + 1, by omega, by go_num, B3.out.trans (hb9.mono (by (try simp only [World.size_alloc] at *); omega))⟩); (case measure => simp [intOf]; omega))
        · have HV := Lib.hid (show entI G m g0 t = false by rw [HC.out, k1]; rfl)
          go_wp2_with fail
          with_reducible refine (HI.out g0 _ R0.out).mono ?_
          rintro e w9 ⟨rfl, hb9⟩
          rw [HV.out]
          go_wp2
          go_roundw
          case rel => exact ⟨j + 1, by omega, by go_num, B0.out.trans (hb9.mono (by (try simp only [World.size_alloc] at *); omega))⟩
          case measure => simp [intOf]; omega
      · obtain rfl : j = m := by omega
        obtain ⟨hv, hc⟩ := HOK.out
        have RW := Lib.hid (R2.out.kept hbw)
        have BW := Lib.hid (B2.out.trans (hbw.mono z2))
        have zw := BW.out.size
        clear hbw HB
        have R3 := Lib.hid (show Recs (wr.alloc (.cells #[.int .i64 5, .int .i64 10, .int .i64 9, .int .i64 7, .int .i64 6, .int .i64 10, .int .i64 9, .int .i64 0, .int .i64 7, .int .i64 10, .int .i64 9, .int .i64 5] 43)) 4 (some ⟨wr.heap.size, 0, none⟩) 3 ring from ring_recs (Box.made wr _ _))
        have L3 := Lib.hid (RW.out.alloc (.cells #[.int .i64 5, .int .i64 10, .int .i64 9, .int .i64 7, .int .i64 6, .int .i64 10, .int .i64 9, .int .i64 0, .int .i64 7, .int .i64 10, .int .i64 9, .int .i64 5] 43))
        have B3 := Lib.hid (BW.out.alloc zw (.cells #[.int .i64 5, .int .i64 10, .int .i64 9, .int .i64 7, .int .i64 6, .int .i64 10, .int .i64 9, .int .i64 0, .int .i64 7, .int .i64 10, .int .i64 9, .int .i64 5] 43))
        clear RW BW
        go_wp2_with fail
        with_reducible refine (findCycle_any (some ⟨wr.heap.size, 0, none⟩) 3 3 ring _ (by omega) R3.out).mono ?_
        rintro e w4 ⟨v, rfl, o4, hb4⟩
        rw [ring_cycle] at o4
        obtain ⟨A4, c4, rfl, _, r4, _⟩ := own_row o4
        have R4 := Lib.hid (R3.out.kept hb4)
        have L4 := Lib.hid (L3.out.kept hb4)
        have B4 := Lib.hid (B3.out.trans (hb4.mono (by simp; omega)))
        have I4 := Lib.hid (r4.alloc (.cells #[.int .i64 5, .int .i64 7] 3))
        have J4 := Lib.hid (show Row (w4.alloc (.cells #[.int .i64 5, .int .i64 7] 3)) .i64 (some ⟨w4.heap.size, 0, none⟩) 2 (fun i => [5, 7].getD i 0) from .inr ⟨w4.heap.size, 0, rfl, by simp, fun i hi => by
          rw [(Box.made w4 3 #[.int .i64 5, .int .i64 7]).cell]
          have a : i = 0 ∨ i = 1 := by omega
          rcases a with rfl | rfl <;> rfl⟩)
        have z4 := B4.out.size
        clear o4 r4 hb4 R3 L3 B3
        go_wp2_with fail
        with_reducible refine (sameInts_same A4 (some ⟨w4.heap.size, 0, none⟩) 2 c4 2 _ (fun i => [5, 7].getD i 0) _ (by omega) I4.out J4.out (fun _ _ => rfl)).mono ?_
        rintro e w5 ⟨rfl, hb5⟩
        have R5 := Lib.hid ((R4.out.alloc _).kept hb5)
        have L5 := Lib.hid ((L4.out.alloc _).kept hb5)
        have B5 := Lib.hid ((B4.out.alloc z4 _).trans (hb5.mono (by simp; omega)))
        have z5 := B5.out.size
        clear hb5 I4 J4 R4 L4 B4
        go_wp2_with fail
        with_reducible refine (findCycle_any A1 j c1 G _ (by omega) L5.out).mono ?_
        rintro e w6 ⟨v, rfl, o6, hb6⟩
        rw [hc] at o6
        obtain ⟨A6, c6, rfl, _⟩ := own_row o6
        have R6 := Lib.hid (R5.out.kept hb6)
        have B6 := Lib.hid (B5.out.trans (hb6.mono z5))
        have z6 := B6.out.size
        clear o6 hb6 R5 L5 B5
        go_wp2_with fail
        with_reducible refine (heirsOk_any (some ⟨wr.heap.size, 0, none⟩) 3 3 ring _ (by omega) R6.out).mono ?_
        rintro e w7 ⟨rfl, hb7⟩
        rw [ring_bad]
        go_wp2
        go_ret
        exact ⟨rfl, B6.out.trans (hb7.mono z6)⟩
  · have hbig : decide (1048576 < n) = true := by simp; omega
    go_enter Try.func8, Try.ntmps8
    go_wp2_with (first | (go_at_call 28; (with_reducible refine (big_any code n cap _).mono ?_); rintro e w' ⟨rfl, rfl⟩))
    go_ret
    exact ⟨rfl, Below.refl _ _⟩
set_option maxRecDepth 100000 in
theorem fnChains_open {H : Type} {enc : TypeId × Value → H} (W : World) (base : Nat) (args : Array Value) (ds : List (DataW H)) (p : List MemPlace)
    (hval : ∀ (j : Nat) t v, Try.f8.params[j]? = some t → args[j]? = some v → Value.okWide Try.prog W .any base t v)
    (hA : DataW.TrodAll enc Try.prog W 0 (fun _ => true) true Try.f8.params.toList args.toList ds p) :
    Calls Try.prog 8 args W fun e W' => e = .returned (.bool true) ∧ Below W.heap.size W W' := by
  rw [Try.params8] at hA hval
  obtain ⟨v0, vs0, d0, ds0, p0, q0, hargs, rfl, rfl, h0, r0⟩ := trodAll_cons hA
  obtain ⟨rfl, rfl, rfl⟩ := trodAll_nil r0
  obtain rfl : args = #[v0] := by cases args; simp_all
  obtain ⟨code, coden, codecap, codeF, rfl, hl0, hm0, hr0, hw0⟩ := open_row Try.underlying38 Try.underlying5 (by kernel_rfl) (hval 0 38 v0 rfl rfl) h0
  exact lawChains code coden codecap codeF W hl0 hm0 hr0
theorem fnChains_lifted (os : Os) (started : os.Started) (H : Type) (enc : TypeId × Value → H) :
    ReturnsInHanded {} Try.checked os 8 .any (Rows.fnChainsSpec.pre6 enc Try.prog Try.f8 Rows.fnChainsRow.domain false) (Rows.fnChainsSpec.post enc Try.prog Try.f8 false true false false) :=
  law_lifted (C := Try.checked) (s := Rows.fnChainsSpec) (tb := 4) Tryown TrylaidOut (by kernel_rfl) Try.func8 rfl Try.underlying4 (by kernel_rfl) rfl (fun H ds h => match ds, h with | [d0], _ => rfl) os started H enc
    (ChangeSpec.witness6 (enc := enc) (C := Try.checked) false ⟨#[], #[.slice none 0 0], []⟩ 8 (by kernel_rfl) (by kernel_rfl) (by kernel_rfl) (by kernel_rfl))
    (fun W base args ds p hval hA _ _ => fnChains_open W base args ds p hval hA)
theorem fnChains_holds : Rows.FnChainsSaid :=
  OpenClaim.holds_of_wide 8 Try.f8 rfl rfl rfl rfl rfl rfl rfl ⟨rfl, rfl, rfl, rfl, rfl⟩ rfl rfl rfl rfl rfl (by kernel_rfl) Try.func8 (by kernel_rfl)
    (of_decide_eq_true (by kernel_rfl)) (by unfold Func.isWrapper; first | (rw [if_pos (by decide +kernel)]; kernel_rfl) | (rw [if_neg (by decide +kernel)]; exact ⟨rfl, rfl⟩))
    (fun os started H enc _ => fnChains_lifted os started H enc)
#print axioms fnChains_holds
end Go.Proofs.Ytoebibgkpmppdaa
