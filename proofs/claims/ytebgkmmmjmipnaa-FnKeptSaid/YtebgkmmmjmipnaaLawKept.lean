/- Proved: for every byte string, what remains of an amount that is drawn from it is the share that the drawn orders keep, up to less than one for each order. No condition. -/
import Derived.Test.YtebgkmmmjmipnaaOpen
import Derived.Test.YtebgkmmmjmipnaaDrawO
import Derived.Test.YtebgkmmmjmipnaaPlainK
import Derived.BigQuiet
import Derived.Deep.QuietTactic
import Derived.Outline
namespace Go.Proofs.Ytebgkmmmjmipnaa
open Go.ChangeShapes Go.WideShapes Go.ChangeAt Go.RowKit

set_option maxRecDepth 100000 in
set_option maxHeartbeats 8000000 in
theorem lawKept (code : Option Addr) (n cap : Nat) (F : Nat → Int) (w : World) (_hl : n ≤ cap) (_hm : cap ≤ maxLen) (hr : Row w .u8 code n F) : Calls Try.prog 10 #[.slice code n cap] w fun e w' => e = .returned (.bool true) ∧ Below w.heap.size w w' := by
  by_cases hn : n ≤ 1048576
  · have hbig : decide (1048576 < n) = false := by simp; omega
    have HR := Lib.hid hr
    clear hr
    go_enter Try.func10, Try.ntmps10
    go_wp2_with (first | (go_at_call 29; (with_reducible refine (big_any code n cap _).mono ?_); rintro e w' ⟨rfl, rfl⟩))
    with_reducible refine (drawOrders_any code n cap F _ hn HR.out).mono ?_
    rintro e w1 ⟨m, G, A1, c1, rfl, o1, hv, hm, hPP, hb1⟩
    have R1 := Lib.hid (own_rec o1)
    have B1 := Lib.hid hb1
    have HV := Lib.hid hv
    have HR1 := Lib.hid (HR.out.kept hb1)
    have z1 := hb1.size
    clear hb1 o1 hv HR
    go_wp2_with fail
    with_reducible refine (places_any code n cap F _ hn HR1.out).mono ?_
    rintro e w2 ⟨q, qc, P, rfl, hq, hq2, hb2, hP, hcell⟩
    have p0 := Lib.hid (hcell 0 (by omega))
    have p1 := Lib.hid (hcell 1 (by omega))
    obtain ⟨x00, x01⟩ := hP 0 (by omega)
    obtain ⟨x10, x11⟩ := hP 1 (by omega)
    have B2 := Lib.hid (B1.out.trans (hb2.mono z1))
    have R2 := Lib.hid (R1.out.kept hb2)
    have z2 := B2.out.size
    clear hP hcell hb2 B1 R1 HR1
    generalize P 0 = x0 at *
    generalize P 1 = x1 at *
    clear P
    have m0 : x0.tmod 100 = x0 % 100 := Int.tmod_eq_emod_of_nonneg x00
    have HL := Lib.hid (show splitR G m x1 (x0 % 100) 200 = leftS G (seqG G m (x0 % 100) 200) x1 (seqL G (x0 % 100) 200 m).length by
      have : splitB G m x1 = true := by
        simp only [splitB, HV.out, Bool.true_and]
        exact inB_true.2 ⟨by omega, by omega⟩
      simp only [splitR, this, if_pos])
    have HQ := Lib.hid (show seqN G m (x0 % 100) 200 = (seqL G (x0 % 100) 200 m).length by simp [seqN, HV.out])
    obtain ⟨kk, kd⟩ := kept_drawn (t := x0 % 100) (k := 200) HV.out hm hPP _ (Nat.le_refl _)
    have HN := kept_near (t := x0 % 100) (k := 200) HV.out x10 _ (Nat.le_refl _) kk
    have HL2 := leftS_bd (t := x0 % 100) (k := 200) HV.out x10 _ (Nat.le_refl _)
    have hl4 := Nat.le_trans (seqL_le G (x0 % 100) 200 m) hm
    have kn := (kept_ok kk (fun x hx => by
        obtain ⟨g0, g1⟩ := seqG_in (F := G) (t := x0 % 100) (k := 200) (n := m) (j := x) hx
        have := order_pct HV.out (show (seqG G m (x0 % 100) 200 x).toNat < m by omega)
        simp only [pctP]
        omega)).2.1
    have HB := Lib.hid (show keptB G m (x0 % 100) 200 = true by simp [keptB, HV.out, kk])
    have HX := Lib.hid (show keptX G m (x0 % 100) 200 = ((keptP G (seqG G m (x0 % 100) 200) (seqL G (x0 % 100) 200 m).length).1 : Nat) by simp [keptX, HB.out])
    have HY := Lib.hid (show keptY G m (x0 % 100) 200 = ((keptP G (seqG G m (x0 % 100) 200) (seqL G (x0 % 100) 200 m).length).2 : Nat) by simp [keptY, HB.out])
    have kd4 : (keptP G (seqG G m (x0 % 100) 200) (seqL G (x0 % 100) 200 m).length).2 ≤ 10000 := Nat.le_trans kd (Nat.pow_le_pow_right (n := 10) (by omega) hl4)
    clear kk kd
    have c0 := p0.out
    have c1x := p1.out
    have HSP := Lib.hid (fun w hr => split_any A1 m c1 G x1 (x0 % 100) 200 w (by omega) hr)
    have HSQ := Lib.hid (fun w hr => seq_any A1 m c1 G (x0 % 100) 200 w (by omega) hr)
    have HKP := Lib.hid (fun w hr => kept_any A1 m c1 G (x0 % 100) 200 w (by omega) hr)
    rw [HL.out] at HSP
    rw [HQ.out] at HSQ
    rw [HX.out, HY.out, HB.out] at HKP
    clear HL HQ HX HY HB
    generalize (keptP G (seqG G m (x0 % 100) 200) (seqL G (x0 % 100) 200 m).length).1 = N at *
    generalize (keptP G (seqG G m (x0 % 100) 200) (seqL G (x0 % 100) 200 m).length).2 = D at *
    generalize leftS G (seqG G m (x0 % 100) 200) x1 (seqL G (x0 % 100) 200 m).length = L at *
    generalize (seqL G (x0 % 100) 200 m).length = s at *
    go_wp2_with fail
    with_reducible refine (HSP.out _ R2.out).mono ?_
    rintro e w3 ⟨v3, rfl, o3, b3⟩
    obtain ⟨A3, c3, rfl, _, r3, _⟩ := own_row o3
    have c1' := Lib.hid ((b3.cell (p := ⟨q, 1, none⟩) hq2).trans c1x)
    have z3 := b3.size
    have B3 := Lib.hid (B2.out.trans (b3.mono z2))
    have R3 := Lib.hid (R2.out.kept b3)
    clear o3 r3 b3 p0 p1 c0 c1x B2 R2 HSP
    go_wp2_with fail
    with_reducible refine (HKP.out _ R3.out).mono ?_
    rintro e w4 ⟨rfl, b4⟩
    have c14 := Lib.hid ((b4.cell (p := ⟨q, 1, none⟩) (by show q < _; omega)).trans c1'.out)
    have z4 := b4.size
    have B4 := Lib.hid ((B3.out.trans (b4.mono (by omega))).alloc (by omega) (.cells #[.int .i64 N, .int .i64 D] 40))
    have R4 := Lib.hid ((R3.out.kept b4).alloc (.cells #[.int .i64 N, .int .i64 D] 40))
    have X4 := Lib.hid (Box.made w4 40 #[.int .i64 N, .int .i64 D])
    clear b4 c1' B3 R3 HKP
    go_wp2_with fail
    obtain ⟨w5, hw5⟩ : ∃ w5, w5 = w4.alloc (.cells #[.int .i64 N, .int .i64 D] 40) := ⟨_, rfl⟩
    have z5 : w5.heap.size = w4.heap.size + 1 := by rw [hw5]; simp
    have c15 := Lib.hid (show w5.cell? ⟨q, 1, none⟩ = some (.int .i64 x1) by rw [hw5]; exact (((Below.refl w4.heap.size w4).alloc (Nat.le_refl _) _).cell (p := ⟨q, 1, none⟩) (by show q < _; omega)).trans c14.out)
    rw [← hw5] at B4 R4 X4 ⊢
    generalize w4.heap.size = g at *
    clear hw5 c14
    with_reducible refine (HSQ.out _ R4.out).mono ?_
    rintro e w6 ⟨v6, rfl, o6, b6⟩
    obtain ⟨A6, c6, rfl, _, r6, _⟩ := own_row o6
    have z6 := b6.size
    have c16 := Lib.hid ((b6.cell (p := ⟨q, 1, none⟩) (by show q < _; omega)).trans c15.out)
    have B6 := Lib.hid (B4.out.trans (b6.mono (by omega)))
    have R6 := Lib.hid (R4.out.kept b6)
    have X6 := Lib.hid (X4.out.kept b6)
    clear o6 r6 b6 c15 B4 R4 X4 HSQ
    go_wp2_with fail
    with_reducible refine (late_any A1 m c1 G _ (by omega) R6.out).mono ?_
    rintro e w7 ⟨v7, rfl, o7, b7⟩
    obtain ⟨A7, c7, rfl, _, r7, _⟩ := own_row o7
    have z7 := b7.size
    have c17 := Lib.hid ((b7.cell (p := ⟨q, 1, none⟩) (by show q < _; omega)).trans c16.out)
    have B7 := Lib.hid (B6.out.trans (b7.mono (by omega)))
    have R7 := Lib.hid (R6.out.kept b7)
    have X7 := Lib.hid (X6.out.kept b7)
    have L7 := Lib.hid r7
    have HT := Lib.hid (fun i => lateR_at (F := G) (n := m) (i := i) HV.out)
    have hll := lateR_le G m
    clear o7 r7 b7 c16 B6 R6 X6
    generalize hT : (fun i => (lateR G m).getD i 0) = T at *
    have HT2 := Lib.hid (fun i hi => by have h := HT.out i hi; rw [show (lateR G m).getD i 0 = T i by rw [← hT]] at h; exact h : ∀ i, i < (lateR G m).length → 0 ≤ T i ∧ T i < m ∧ G (T i).toNat 0 < G (T i).toNat 1)
    clear HT hT
    generalize (lateR G m).length = t at *
    go_wp2_with fail
    go_loopw [12] (fun i wr => ∃ j : Nat, j ≤ t ∧ i = .int .i64 j ∧ Below w7.heap.size w7 wr) (fun i _ => t - (intOf i).toNat)
    case atStart => exact ⟨0, Nat.zero_le _, rfl, Below.refl _ _⟩
    case round =>
      obtain ⟨j, hj, rfl, hbw⟩ := hrel
      have HB := Lib.hid hbw
      by_cases hlt : j < t
      · obtain ⟨g0, g1, g2⟩ := HT2.out j hlt
        obtain ⟨x, hx⟩ := Int.eq_ofNat_of_zero_le g0
        obtain ⟨b, off, e, hb, hck⟩ := (L7.out.kept hbw).hid hlt
        obtain ⟨b', off', e', hb', d0, d1, _⟩ := (R7.out.kept hbw).at3 (show x < m by omega)
        rw [hx] at hck g2 g0 g1
        simp only [Int.toNat_natCast] at g2
        have hxi : (x : Int) < (m : Int) := by omega
        have hji : (j : Int) < (t : Int) := by omega
        have hj0 : (0 : Int) ≤ (j : Int) := by omega
        have hz0 : decide ((x : Int) < 0) = false := by simp
        have hz1 : decide ((m : Int) ≤ (x : Int)) = false := by simp; omega
        have hz1' : decide (m ≤ x) = false := by simp; omega
        have hz2 : decide (G x 1 ≤ G x 0) = false := by simp; omega
        subst e
        subst e'
        clear hbw hb hb' g2
        go_wp2_with fail
        go_big_quiet (fail)
        go_wp2
        go_roundw
        case rel => exact ⟨j + 1, by omega, by go_num, below_drewN HB.out _⟩
        case measure => simp [intOf]; omega
      · obtain rfl : j = t := by omega
        obtain ⟨n0, n1⟩ := HN
        obtain ⟨l0, l1⟩ := HL2
        have cq := (hbw.cell (p := ⟨q, 1, none⟩) (by show q < _; omega)).trans c17.out
        have X8 := X7.out.kept hbw
        obtain ⟨e1, e2, e3, e4⟩ := X8.two
        have b1 : 0 ≤ L * (D : Int) ∧ L * (D : Int) ≤ 9999 * 10000 := ⟨Int.mul_nonneg l0 (by omega), Int.mul_le_mul (by omega) (by omega) (by omega) (by omega)⟩
        have b2 : 0 ≤ x1 * (N : Int) ∧ x1 * (N : Int) ≤ 9999 * 10000 := ⟨Int.mul_nonneg x10 (by omega), Int.mul_le_mul (by omega) (by omega) (by omega) (by omega)⟩
        have b3 : 0 ≤ (s : Int) * (D : Int) ∧ (s : Int) * (D : Int) ≤ 4 * 10000 := ⟨Int.mul_nonneg (by omega) (by omega), Int.mul_le_mul (by omega) (by omega) (by omega) (by omega)⟩
        have z8 := hbw.size
        have OK := Lib.hid (fun w hr => by have h := ordersOk_any A1 m c1 G w (by omega) hr; rw [HV.out] at h; exact h : ∀ w, Recs w 3 A1 m G → Calls Try.prog 14 #[.slice A1 m c1] w fun e w' => e = .returned (.bool true) ∧ Below w.heap.size w w')
        have R8 := Lib.hid (R7.out.kept hbw)
        have hz3 : decide (0 ≤ L * (D : Int) - x1 * (N : Int)) = true := decide_eq_true n0
        have hz4 : decide (L * (D : Int) - x1 * (N : Int) ≤ (s : Int) * (D : Int)) = true := decide_eq_true n1
        clear hbw X8
        go_wp2_with fail
        go_big_quiet (fail)
        go_wp2_with fail
        (with_reducible refine (OK.out _ (R8.out.drewN _)).mono ?_)
        rintro e w9 ⟨rfl, hb9⟩
        go_wp2
        go_ret
        exact ⟨rfl, (below_drewN (B7.out.trans (HB.out.mono (by omega))) _).trans (hb9.mono (by simp; omega))⟩
  · have hbig : decide (1048576 < n) = true := by simp; omega
    go_enter Try.func10, Try.ntmps10
    go_wp2_with (first | (go_at_call 29; (with_reducible refine (big_any code n cap _).mono ?_); rintro e w' ⟨rfl, rfl⟩))
    go_ret
    exact ⟨rfl, Below.refl _ _⟩
set_option maxRecDepth 100000 in
theorem fnKept_open {H : Type} {enc : TypeId × Value → H} (W : World) (base : Nat) (args : Array Value) (ds : List (DataW H)) (p : List MemPlace)
    (hval : ∀ (j : Nat) t v, Try.f10.params[j]? = some t → args[j]? = some v → Value.okWide Try.prog W .any base t v)
    (hA : DataW.TrodAll enc Try.prog W 0 (fun _ => true) true Try.f10.params.toList args.toList ds p) :
    Calls Try.prog 10 args W fun e W' => e = .returned (.bool true) ∧ Below W.heap.size W W' := by
  rw [Try.params10] at hA hval
  obtain ⟨v0, vs0, d0, ds0, p0, q0, hargs, rfl, rfl, h0, r0⟩ := trodAll_cons hA
  obtain ⟨rfl, rfl, rfl⟩ := trodAll_nil r0
  obtain rfl : args = #[v0] := by cases args; simp_all
  obtain ⟨code, coden, codecap, codeF, rfl, hl0, hm0, hr0, hw0⟩ := open_row Try.underlying44 Try.underlying5 (by kernel_rfl) (hval 0 44 v0 rfl rfl) h0
  exact lawKept code coden codecap codeF W hl0 hm0 hr0
theorem fnKept_lifted (os : Os) (started : os.Started) (H : Type) (enc : TypeId × Value → H) :
    ReturnsInHanded {} Try.checked os 10 .any (Rows.fnKeptSpec.pre6 enc Try.prog Try.f10 Rows.fnKeptRow.domain false) (Rows.fnKeptSpec.post enc Try.prog Try.f10 false true false false) :=
  law_lifted (C := Try.checked) (s := Rows.fnKeptSpec) (tb := 4) Tryown TrylaidOut (by kernel_rfl) Try.func10 rfl Try.underlying4 (by kernel_rfl) rfl (fun H ds h => match ds, h with | [d0], _ => rfl) os started H enc
    (ChangeSpec.witness6 (enc := enc) (C := Try.checked) false ⟨#[], #[.slice none 0 0], []⟩ 8 (by kernel_rfl) (by kernel_rfl) (by kernel_rfl) (by kernel_rfl))
    (fun W base args ds p hval hA _ _ => fnKept_open W base args ds p hval hA)
theorem fnKept_holds : Rows.FnKeptSaid :=
  OpenClaim.holds_of_wide 10 Try.f10 rfl rfl rfl rfl rfl rfl rfl ⟨rfl, rfl, rfl, rfl, rfl⟩ rfl rfl rfl rfl rfl (by kernel_rfl) Try.func10 (by kernel_rfl)
    (of_decide_eq_true (by kernel_rfl)) (by unfold Func.isWrapper; first | (rw [if_pos (by decide +kernel)]; kernel_rfl) | (rw [if_neg (by decide +kernel)]; exact ⟨rfl, rfl⟩))
    (fun os started H enc _ => fnKept_lifted os started H enc)
#print axioms fnKept_holds
end Go.Proofs.Ytebgkmmmjmipnaa
