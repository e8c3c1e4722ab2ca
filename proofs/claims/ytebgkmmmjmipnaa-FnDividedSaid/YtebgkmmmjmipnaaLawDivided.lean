/- Proved: for every byte string, an amount that is drawn from it is divided exactly among the orders that are drawn, and the orders follow one another by their effect. No condition. -/
import Derived.Test.YtebgkmmmjmipnaaOpen
import Derived.Test.YtebgkmmmjmipnaaDrawO
import Derived.Test.YtebgkmmmjmipnaaPlainO
import Derived.BigQuiet
import Derived.Deep.QuietTactic
import Derived.Outline
namespace Go.Proofs.Ytebgkmmmjmipnaa
open Go.ChangeShapes Go.WideShapes Go.ChangeAt Go.RowKit

set_option maxRecDepth 100000 in
set_option maxHeartbeats 8000000 in
theorem lawDivided (code : Option Addr) (n cap : Nat) (F : Nat → Int) (w : World) (_hl : n ≤ cap) (_hm : cap ≤ maxLen) (hr : Row w .u8 code n F) : Calls Try.prog 8 #[.slice code n cap] w fun e w' => e = .returned (.bool true) ∧ Below w.heap.size w w' := by
  by_cases hn : n ≤ 1048576
  · have hbig : decide (1048576 < n) = false := by simp; omega
    have HR := Lib.hid hr
    clear hr
    go_enter Try.func8, Try.ntmps8
    go_wp2_with (first | (go_at_call 29; (with_reducible refine (big_any code n cap _).mono ?_); rintro e w' ⟨rfl, rfl⟩))
    with_reducible refine (drawOrders_any code n cap F _ hn HR.out).mono ?_
    rintro e w1 ⟨m, G, A1, c1, rfl, o1, hv, hm, hP, hb1⟩
    have R1 := Lib.hid (own_rec o1)
    have B1 := Lib.hid hb1
    have HV := Lib.hid hv
    have HR1 := Lib.hid (HR.out.kept hb1)
    have z1 := hb1.size
    clear hb1 o1 hv hP HR
    go_wp2_with fail
    with_reducible refine (places_any code n cap F _ hn HR1.out).mono ?_
    rintro e w2 ⟨q, qc, P, rfl, hq, hq2, hb2, hP, hcell⟩
    have p0 := Lib.hid (hcell 0 (by omega))
    have p1 := Lib.hid (hcell 1 (by omega))
    obtain ⟨x00, x01⟩ := hP 0 (by omega)
    obtain ⟨x10, x11⟩ := hP 1 (by omega)
    have B2 := Lib.hid (B1.out.trans (hb2.mono z1))
    have R2 := Lib.hid (R1.out.kept hb2)
    have z2 := B2.out.size
    clear hP hcell hb2 B1 R1 HR1
    generalize P 0 = x0 at *
    generalize P 1 = x1 at *
    clear P
    have m0 : x0.tmod 100 = x0 % 100 := Int.tmod_eq_emod_of_nonneg x00
    have hB : splitB G m (x1 * 7) = true := by
      simp only [splitB, HV.out, Bool.true_and]
      exact inB_true.2 ⟨by omega, by omega⟩
    have HN := Lib.hid (show splitN G m (x1 * 7) = m by simp [splitN, hB])
    have HS := Lib.hid (split_sum (t := x0 % 100) (k := 200) hB)
    have HT := Lib.hid (split_rest (t := x0 % 100) (k := 200) hB)
    have HQ := Lib.hid (show seqN G m (x0 % 100) 200 = (seqL G (x0 % 100) 200 m).length by simp [seqN, HV.out])
    have HG := Lib.hid (fun j => seqG_in (F := G) (n := m) (t := x0 % 100) (k := 200) (j := j))
    have HX := Lib.hid (fun i j => seqG_lex (F := G) (n := m) (t := x0 % 100) (k := 200) (i := i) (j := j))
    have HK := Lib.hid (fun j => seqG_known (F := G) (n := m) (t := x0 % 100) (k := 200) (i := j))
    have HD := Lib.hid (fun i (hi : i < m) => part_bd (t := x0 % 100) (k := 200) HV.out (show 0 ≤ x1 * 7 by omega) i hi _ (Nat.le_refl _))
    have hlen := seqL_le G (x0 % 100) 200 m
    clear hB
    have c0 := p0.out
    have c1x := p1.out
    go_wp2_with fail
    with_reducible refine (split_any A1 m c1 G (x1 * 7) (x0 % 100) 200 _ (by omega) R2.out).mono ?_
    rintro e w3 ⟨v3, rfl, o3, b3⟩
    rw [HN.out] at o3
    obtain ⟨A3, c3, rfl, _, r3, _⟩ := own_row o3
    have c0 := Lib.hid ((b3.cell (p := ⟨q, 0, none⟩) hq2).trans c0)
    have c1' := Lib.hid ((b3.cell (p := ⟨q, 1, none⟩) hq2).trans c1x)
    have z3 := b3.size
    have R3 := Lib.hid r3
    have B3 := Lib.hid (B2.out.trans (b3.mono z2))
    have RR := Lib.hid (R2.out.kept b3)
    clear o3 r3 b3 p0 p1 c1x B2 R2
    go_wp2_with fail
    with_reducible refine (seq_any A1 m c1 G (x0 % 100) 200 _ (by omega) RR.out).mono ?_
    rintro e w4 ⟨v4, rfl, o4, b4⟩
    rw [HQ.out] at o4
    obtain ⟨A4, c4, rfl, _, r4, _⟩ := own_row o4
    have C1 := Lib.hid ((b4.cell (p := ⟨q, 1, none⟩) (by show q < _; omega)).trans c1'.out)
    have R4 := Lib.hid r4
    have P4 := Lib.hid (R3.out.kept b4)
    have L4 := Lib.hid (RR.out.kept b4)
    have B4 := Lib.hid (B3.out.trans (b4.mono (by omega)))
    have z4 := b4.size
    clear o4 r4 b4 c0 c1' B3 R3 RR HN HQ m0
    have HP := Lib.hid (show splitP G m (x1 * 7) (x0 % 100) 200 = partS G (seqG G m (x0 % 100) 200) (x1 * 7) (seqL G (x0 % 100) 200 m).length from rfl)
    rw [← HP.out] at HD
    generalize splitP G m (x1 * 7) (x0 % 100) 200 = D at *
    clear HP
    generalize splitR G m (x1 * 7) (x0 % 100) 200 = r at *
    generalize seqG G m (x0 % 100) 200 = S at *
    generalize (seqL G (x0 % 100) 200 m).length = s at *
    generalize x0 % 100 = t at *
    have HE := Lib.hid (fun k (hk : k ≤ m) => show 0 ≤ sumO D k ∧ sumO D k ≤ 4 * 69993 by
      have := sumO_bd (f := D) (n := m) (b := x1 * 7) HD.out k hk
      have h2 : (k : Int) * (x1 * 7) ≤ 4 * 69993 := Int.mul_le_mul (by omega) (by omega) (by omega) (by omega)
      omega)
    obtain ⟨t0, t1⟩ := HT.out
    go_wp2_with fail
    go_loopw [9, 10] (fun x i wr => ∃ k : Nat, k ≤ m ∧ i = .int .i64 k ∧ x = .int .i64 (r + sumO D k) ∧ Below w4.heap.size w4 wr) (fun _ i _ => m - (intOf i).toNat)
    case atStart => exact ⟨0, Nat.zero_le _, rfl, by simp [sumO], Below.refl _ _⟩
    case round =>
      obtain ⟨k, hk, rfl, rfl, hbw⟩ := hrel
      by_cases hlt : k < m
      · obtain ⟨b, off, rfl, hb, hck⟩ := (P4.out.kept hbw).hid hlt
        have hki : (k : Int) < (m : Int) := by omega
        have hk0 : (0 : Int) ≤ (k : Int) := by omega
        obtain ⟨e0, e1⟩ := HE.out k hk
        obtain ⟨d0, d1⟩ := HD.out k hlt
        have HB := Lib.hid hbw
        have hs : r + sumO D k + D k = r + sumO D (k + 1) := by simp only [sumO]; omega
        have HSS := Lib.hid hs
        clear hs hbw
        generalize hsd : sumO D k = y at *
        generalize hdd : D k = z at *
        go_wp2
        go_roundw
        case rel => exact ⟨k + 1, by omega, by go_num, by rw [HSS.out], HB.out⟩
        case measure => simp [intOf]; omega
      · obtain rfl : k = m := by omega
        have HB := Lib.hid hbw
        have hsum := HS.out
        clear HS HE HD hbw
        rw [hsum]
        obtain ⟨wo, rfl⟩ : ∃ wo : World, wo = wr := ⟨_, rfl⟩
        go_wp2_with fail
        go_loopw [11] (fun i wr => ∃ j : Nat, j ≤ s ∧ i = .int .i64 j ∧ Below w4.heap.size w4 wr) (fun i _ => s - (intOf i).toNat)
        case atStart => exact ⟨0, Nat.zero_le _, rfl, HB.out⟩
        case round =>
          obtain ⟨j, hj, rfl, hbw⟩ := hrel
          have HB := Lib.hid hbw
          by_cases hjs : j < s
          · obtain ⟨g0, g1⟩ := HG.out j hjs
            obtain ⟨x, hx⟩ := Int.eq_ofNat_of_zero_le g0
            obtain ⟨b, off, e, hb, hck⟩ := (R4.out.kept hbw).hid hjs
            obtain ⟨b', off', e', hb', d0, _, _⟩ := (L4.out.kept hbw).at3 (show x < k by omega)
            have hkn := HK.out j hjs
            rw [hx] at hck hkn g0 g1
            simp only [Int.toNat_natCast] at hkn
            have hxi : (x : Int) < (k : Int) := by omega
            have hji : (j : Int) < (s : Int) := by omega
            have hj0 : (0 : Int) ≤ (j : Int) := by omega
            have hz0 : decide ((x : Int) < 0) = false := by simp
            have hz1 : decide ((k : Int) ≤ (x : Int)) = false := by simp; omega
            have hz1' : decide (k ≤ x) = false := by simp; omega
            have hz2 : decide (t < G x 0) = false := by simp; omega
            by_cases hj1 : j = 0
            · subst hj1
              subst e
              subst e'
              simp only [Nat.add_zero, Int.natCast_zero] at hck hji hj0 ⊢
              clear hbw hb hb' hkn
              go_wp2_with fail
              refine wp_region_quiet_lit (by kernel_rfl) (by kernel_rfl) ?_; dsimp only [List.append]; (repeat (first | go_big_quiet_skip | (go_big_quiet_want; go_big_quiet_op; go_big_quiet_on))); refine wpQuiet_nil ?_; intro _ hw'; obtain ⟨nq, hw''⟩ := hw'; subst hw''
              go_wp2
              go_roundw
              case rel => exact ⟨1, by omega, by go_num, below_drewN HB.out _⟩
              case measure => simp [intOf]; omega
            · obtain ⟨i, rfl⟩ : ∃ i, j = i + 1 := ⟨j - 1, by omega⟩
              obtain ⟨f0, f1⟩ := HG.out i (by omega)
              obtain ⟨y, hy⟩ := Int.eq_ofNat_of_zero_le f0
              obtain ⟨_, _, e2, _, hci⟩ := (R4.out.kept hbw).hid (show i < s by omega)
              obtain ⟨_, _, e3, _, y0, _, _⟩ := (L4.out.kept hbw).at3 (show y < k by omega)
              rw [e] at e2
              cases e2
              rw [e'] at e3
              cases e3
              have hlex := HX.out i (i + 1) (by omega) hjs
              rw [hx, hy] at hlex
              rw [hy] at hci f1
              simp only [Lex, effK, Int.toNat_natCast] at hlex
              have hyi : (y : Int) < (k : Int) := by omega
              have hw1 : IntKind.i64.wrap (((i + 1 : Nat) : Int) - 1) = (i : Int) := by rw [IntKind.wrap_i64]; omega
              have hil : (i : Int) < (s : Int) := by omega
              have hi0 : (0 : Int) ≤ (i : Int) := by omega
              have hz3 : decide (0 < i + 1) = true := by simp
              have hz4 : decide (G x 0 < G y 0) = false := by simp; omega
              subst e
              subst e'
              clear hbw hb hb' hkn
              rcases Bool.eq_false_or_eq_true (G y 0 == G x 0) with q1 | q1
              · have hz5 : decide ((x : Int) ≤ (y : Int)) = false := by have := eq_of_beq q1; simp; omega
                have hz5' : decide (x ≤ y) = false := by have := eq_of_beq q1; simp; omega
                clear hlex
                go_wp2_with fail
                refine wp_region_quiet_lit (by kernel_rfl) (by kernel_rfl) ?_; dsimp only [List.append]; (repeat (first | go_big_quiet_skip | (go_big_quiet_want; go_big_quiet_op; go_big_quiet_on))); refine wpQuiet_nil ?_; intro _ hw'; obtain ⟨nq, hw''⟩ := hw'; subst hw''
                go_wp2
                go_roundw
                case rel => exact ⟨i + 2, by omega, by go_num, below_drewN HB.out _⟩
                case measure => simp [intOf]; omega
              · clear hlex
                go_wp2_with fail
                refine wp_region_quiet_lit (by kernel_rfl) (by kernel_rfl) ?_; dsimp only [List.append]; (repeat (first | go_big_quiet_skip | (go_big_quiet_want; go_big_quiet_op; go_big_quiet_on))); refine wpQuiet_nil ?_; intro _ hw'; obtain ⟨nq, hw''⟩ := hw'; subst hw''
                go_wp2
                go_roundw
                case rel => exact ⟨i + 2, by omega, by go_num, below_drewN HB.out _⟩
                case measure => simp [intOf]; omega
          · obtain rfl : j = s := by omega
            have cq := (hbw.cell (p := ⟨q, 1, none⟩) (by show q < _; omega)).trans C1.out
            clear hbw
            go_wp2
            go_ret
            exact ⟨rfl, B4.out.trans (HB.out.mono (by omega))⟩
  · have hbig : decide (1048576 < n) = true := by simp; omega
    go_enter Try.func8, Try.ntmps8
    go_wp2_with (first | (go_at_call 29; (with_reducible refine (big_any code n cap _).mono ?_); rintro e w' ⟨rfl, rfl⟩))
    go_ret
    exact ⟨rfl, Below.refl _ _⟩
set_option maxRecDepth 100000 in
theorem fnDivided_open {H : Type} {enc : TypeId × Value → H} (W : World) (base : Nat) (args : Array Value) (ds : List (DataW H)) (p : List MemPlace)
    (hval : ∀ (j : Nat) t v, Try.f8.params[j]? = some t → args[j]? = some v → Value.okWide Try.prog W .any base t v)
    (hA : DataW.TrodAll enc Try.prog W 0 (fun _ => true) true Try.f8.params.toList args.toList ds p) :
    Calls Try.prog 8 args W fun e W' => e = .returned (.bool true) ∧ Below W.heap.size W W' := by
  rw [Try.params8] at hA hval
  obtain ⟨v0, vs0, d0, ds0, p0, q0, hargs, rfl, rfl, h0, r0⟩ := trodAll_cons hA
  obtain ⟨rfl, rfl, rfl⟩ := trodAll_nil r0
  obtain rfl : args = #[v0] := by cases args; simp_all
  obtain ⟨code, coden, codecap, codeF, rfl, hl0, hm0, hr0, hw0⟩ := open_row Try.underlying44 Try.underlying5 (by kernel_rfl) (hval 0 44 v0 rfl rfl) h0
  exact lawDivided code coden codecap codeF W hl0 hm0 hr0
theorem fnDivided_lifted (os : Os) (started : os.Started) (H : Type) (enc : TypeId × Value → H) :
    ReturnsInHanded {} Try.checked os 8 .any (Rows.fnDividedSpec.pre6 enc Try.prog Try.f8 Rows.fnDividedRow.domain false) (Rows.fnDividedSpec.post enc Try.prog Try.f8 false true false false) :=
  law_lifted (C := Try.checked) (s := Rows.fnDividedSpec) (tb := 4) Tryown TrylaidOut (by kernel_rfl) Try.func8 rfl Try.underlying4 (by kernel_rfl) rfl (fun H ds h => match ds, h with | [d0], _ => rfl) os started H enc
    (ChangeSpec.witness6 (enc := enc) (C := Try.checked) false ⟨#[], #[.slice none 0 0], []⟩ 8 (by kernel_rfl) (by kernel_rfl) (by kernel_rfl) (by kernel_rfl))
    (fun W base args ds p hval hA _ _ => fnDivided_open W base args ds p hval hA)
theorem fnDivided_holds : Rows.FnDividedSaid :=
  OpenClaim.holds_of_wide 8 Try.f8 rfl rfl rfl rfl rfl rfl rfl ⟨rfl, rfl, rfl, rfl, rfl⟩ rfl rfl rfl rfl rfl (by kernel_rfl) Try.func8 (by kernel_rfl)
    (of_decide_eq_true (by kernel_rfl)) (by unfold Func.isWrapper; first | (rw [if_pos (by decide +kernel)]; kernel_rfl) | (rw [if_neg (by decide +kernel)]; exact ⟨rfl, rfl⟩))
    (fun os started H enc _ => fnDivided_lifted os started H enc)
#print axioms fnDivided_holds
end Go.Proofs.Ytebgkmmmjmipnaa
