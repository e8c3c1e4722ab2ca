/- Proved: for every byte string, the powers of the discount that is drawn from it contain the powers of the number and decrease. No condition. -/
import Derived.Test.YtjmibbjachgofaaOpen
import Derived.Test.YtjmibbjachgofaaCur
import Derived.Test.YtjmibbjachgofaaPlainBand
import Derived.Outline
namespace Go.Proofs.Ytjmibbjachgofaa
open Go.ChangeShapes Go.WideShapes Go.ChangeAt Go.RowKit

theorem powers_val {r : Int} (r0 : 0 ≤ r) (r1 : r ≤ 99) (n : Int) (n0 : 0 ≤ n) (n1 : n ≤ 119) :
    powB (discountL r) (discountH r) n = true ∧ 0 ≤ powL (discountL r) (discountH r) n ∧ powL (discountL r) (discountH r) n ≤ powH (discountL r) (discountH r) n ∧ powH (discountL r) (discountH r) n ≤ 1000000000 ∧
    powH (discountL r) (discountH r) n - powL (discountL r) (discountH r) n ≤ 2 * n ∧
    powL (discountL r) (discountH r) (n + 1) ≤ powL (discountL r) (discountH r) n ∧ powH (discountL r) (discountH r) (n + 1) ≤ powH (discountL r) (discountH r) n ∧ powB (discountL r) (discountH r) (n + 1) = true := by
  obtain ⟨d0, d1, d2, d3⟩ := discount_bd r0 (by omega)
  have hb : bandOkB (discountL r) (discountH r) = true := bandOkB_true.2 ⟨d0, d1, by omega⟩
  have hB : ∀ k : Int, 0 ≤ k → k ≤ 120 → powB (discountL r) (discountH r) k = true := fun k k0 k1 => by
    have : inB k 0 120 = true := inB_true.2 ⟨k0, k1⟩
    simp [powB, hb, d2, this]
  have h1 := hB n n0 (by omega)
  have h2 := hB (n + 1) (by omega) (by omega)
  obtain ⟨m, rfl⟩ := Int.eq_ofNat_of_zero_le n0
  obtain ⟨a, b, c⟩ := pow_inv d0 d1 d2 m
  obtain ⟨e, f⟩ := pow_down d0 d1 d2 m
  have g := pow_width d0 d1 d2 d3 m
  have t1 : ((m : Int) + 1).toNat = m + 1 := by omega
  simp only [powL, powH, h1, h2, if_true, Int.toNat_natCast, t1]
  exact ⟨trivial, a, b, c, g, e, f, trivial⟩
theorem pow_two {r : Int} (r0 : 0 ≤ r) (r1 : r ≤ 99) : powL (discountL r) (discountH r) 2 ≤ discountL r ∧ powB (discountL r) (discountH r) 2 = true := by
  obtain ⟨h1, h2, h3, h4, h5, h6, h7, h8⟩ := powers_val r0 r1 1 (by omega) (by omega)
  obtain ⟨d0, d1, d2, d3⟩ := discount_bd r0 (by omega)
  refine ⟨Int.le_trans h6 ?_, h8⟩
  have : bandMulB 1000000000 1000000000 (discountL r) (discountH r) = true := mulB_of (by omega) (by omega) (by omega) d0 d1 (by omega)
  simp only [powL, h1, if_true]
  show bandMulL 1000000000 1000000000 (discountL r) (discountH r) ≤ _
  rw [mulL_of this]
  omega
theorem has_one {r : Int} (r0 : 0 ≤ r) (r1 : r ≤ 99) : bandHasB (discountL r) (discountH r) 1000 (1000 + r) = decide (1000 + r ≤ 1000) := by
  rw [Bool.eq_iff_iff]
  by_cases h : r = 0
  · subst h
    obtain ⟨e1, e2⟩ := discount_eq (r := 0) (by omega) (by omega)
    rw [e1, e2]
    decide
  · have : inB (1000 + r) 1 1000 = false := inB_false.2 (by omega)
    simp [bandHasB, this]
    omega

set_option maxHeartbeats 1000000 in
theorem lawPowers (code : Option Addr) (n cap : Nat) (F : Nat → Int) (w : World) (_hl : n ≤ cap) (_hm : cap ≤ maxLen) (hr : Row w .u8 code n F) : Calls Try.prog 5 #[.slice code n cap] w fun e w' => e = .returned (.bool true) ∧ Below w.heap.size w w' := by
  by_cases hn : n ≤ 1048576
  · have hbig : decide (1048576 < n) = false := by simp; omega
    have hr' := Lib.hid hr
    clear hr
    go_enter Try.func5, Try.ntmps5
    go_wp2_with (first | (go_at_call 15; (with_reducible refine (big_any code n cap _).mono ?_); rintro e w' ⟨rfl, rfl⟩) | (go_at_call 16; (with_reducible refine (places_any code n cap F _ hn hr'.out).mono ?_); rintro e w1 ⟨q, qc, P, rfl, hq, hq2, hb1, hP, hcell⟩; have p0 := hcell 0 (by omega); have p1 := hcell 1 (by omega); have b0 := hP 0 (by omega); have b1 := hP 1 (by omega); clear hP hcell; have hz1 := hb1.size; generalize P 0 = x0 at p0 b0; generalize P 1 = x1 at p1 b1; clear P; have i1 : inB (x0 % 100) 0 1000 = true := inB_true.2 ⟨by omega, by omega⟩) | (go_at_call 21; (with_reducible refine (discount_any (x0 % 100) _).mono ?_); rintro e w2 ⟨rfl, hb2⟩; obtain ⟨hc2, hf2⟩ := bcell hb2; (try simp only [World.size_drew] at hc2 hf2); have hz2 := hb2.size; (try simp at hz2); (try have q2_0 : w.heap.size < w2.heap.size := by omega); (try have q2_1 : w.heap.size + 1 < w2.heap.size := by omega); (try have q2_2 : w.heap.size + 2 < w2.heap.size := by omega); (try have q2_3 : w.heap.size + 3 < w2.heap.size := by omega); (try have q2_4 : w.heap.size + 4 < w2.heap.size := by omega); (try have q2_0_0 : w0.heap.size < w2.heap.size := by omega); (try have q2_0_1 : w0.heap.size + 1 < w2.heap.size := by omega); (try have q2_1_0 : w1.heap.size < w2.heap.size := by omega); (try have q2_1_1 : w1.heap.size + 1 < w2.heap.size := by omega); (try have q2_3_0 : w3.heap.size < w2.heap.size := by omega); (try have q2_3_1 : w3.heap.size + 1 < w2.heap.size := by omega); (try have q2_4_0 : w4.heap.size < w2.heap.size := by omega); (try have q2_4_1 : w4.heap.size + 1 < w2.heap.size := by omega); (try have q2_5_0 : w5.heap.size < w2.heap.size := by omega); (try have q2_5_1 : w5.heap.size + 1 < w2.heap.size := by omega); (try have q2_6_0 : w6.heap.size < w2.heap.size := by omega); (try have q2_6_1 : w6.heap.size + 1 < w2.heap.size := by omega); (try have u2_q : q < w2.heap.size := by omega); (try have u2_g : g < w2.heap.size := by omega); (try have u2_g1 : g1 < w2.heap.size := by omega); (try have u2_g2 : g2 < w2.heap.size := by omega); (try have u2_g3 : g3 < w2.heap.size := by omega)) | fail)
    obtain ⟨d0, d1, d2, d3⟩ := discount_bd (r := x0 % 100) (by omega) (by omega)
    obtain ⟨k1, k2, k3, k4, k5, k6, k7, k8⟩ := powers_val (r := x0 % 100) (by omega) (by omega) (x1 % 40) (by omega) (by omega)
    obtain ⟨k9, k10⟩ := pow_two (r := x0 % 100) (by omega) (by omega)
    have k11 := has_one (r := x0 % 100) (by omega) (by omega)
    have k12 : bandOkB (powL (discountL (x0 % 100)) (discountH (x0 % 100)) (x1 % 40)) (powH (discountL (x0 % 100)) (discountH (x0 % 100)) (x1 % 40)) = true := bandOkB_true.2 ⟨k2, k3, by omega⟩
    generalize discountL (x0 % 100) = L at *
    generalize discountH (x0 % 100) = U at *
    go_wp2_with (first | (go_at_call 22; (with_reducible refine (pow_any L U (x1 % 40) _).mono ?_); rintro e w3 ⟨rfl, hb3⟩; obtain ⟨hc3, hf3⟩ := bcell hb3; (try simp only [World.size_drew] at hc3 hf3); have hz3 := hb3.size; (try simp at hz3); (try have q3_0 : w.heap.size < w3.heap.size := by omega); (try have q3_1 : w.heap.size + 1 < w3.heap.size := by omega); (try have q3_2 : w.heap.size + 2 < w3.heap.size := by omega); (try have q3_3 : w.heap.size + 3 < w3.heap.size := by omega); (try have q3_4 : w.heap.size + 4 < w3.heap.size := by omega); (try have q3_0_0 : w0.heap.size < w3.heap.size := by omega); (try have q3_0_1 : w0.heap.size + 1 < w3.heap.size := by omega); (try have q3_1_0 : w1.heap.size < w3.heap.size := by omega); (try have q3_1_1 : w1.heap.size + 1 < w3.heap.size := by omega); (try have q3_2_0 : w2.heap.size < w3.heap.size := by omega); (try have q3_2_1 : w2.heap.size + 1 < w3.heap.size := by omega); (try have q3_4_0 : w4.heap.size < w3.heap.size := by omega); (try have q3_4_1 : w4.heap.size + 1 < w3.heap.size := by omega); (try have q3_5_0 : w5.heap.size < w3.heap.size := by omega); (try have q3_5_1 : w5.heap.size + 1 < w3.heap.size := by omega); (try have q3_6_0 : w6.heap.size < w3.heap.size := by omega); (try have q3_6_1 : w6.heap.size + 1 < w3.heap.size := by omega); (try have u3_q : q < w3.heap.size := by omega); (try have u3_g : g < w3.heap.size := by omega); (try have u3_g1 : g1 < w3.heap.size := by omega); (try have u3_g2 : g2 < w3.heap.size := by omega); (try have u3_g3 : g3 < w3.heap.size := by omega)) | (go_at_call 22; (with_reducible refine (pow_any L U (x1 % 40 + 1) _).mono ?_); rintro e w4 ⟨rfl, hb4⟩; obtain ⟨hc4, hf4⟩ := bcell hb4; (try simp only [World.size_drew] at hc4 hf4); have hz4 := hb4.size; (try simp at hz4); (try have q4_0 : w.heap.size < w4.heap.size := by omega); (try have q4_1 : w.heap.size + 1 < w4.heap.size := by omega); (try have q4_2 : w.heap.size + 2 < w4.heap.size := by omega); (try have q4_3 : w.heap.size + 3 < w4.heap.size := by omega); (try have q4_4 : w.heap.size + 4 < w4.heap.size := by omega); (try have q4_0_0 : w0.heap.size < w4.heap.size := by omega); (try have q4_0_1 : w0.heap.size + 1 < w4.heap.size := by omega); (try have q4_1_0 : w1.heap.size < w4.heap.size := by omega); (try have q4_1_1 : w1.heap.size + 1 < w4.heap.size := by omega); (try have q4_2_0 : w2.heap.size < w4.heap.size := by omega); (try have q4_2_1 : w2.heap.size + 1 < w4.heap.size := by omega); (try have q4_3_0 : w3.heap.size < w4.heap.size := by omega); (try have q4_3_1 : w3.heap.size + 1 < w4.heap.size := by omega); (try have q4_5_0 : w5.heap.size < w4.heap.size := by omega); (try have q4_5_1 : w5.heap.size + 1 < w4.heap.size := by omega); (try have q4_6_0 : w6.heap.size < w4.heap.size := by omega); (try have q4_6_1 : w6.heap.size + 1 < w4.heap.size := by omega); (try have u4_q : q < w4.heap.size := by omega); (try have u4_g : g < w4.heap.size := by omega); (try have u4_g1 : g1 < w4.heap.size := by omega); (try have u4_g2 : g2 < w4.heap.size := by omega); (try have u4_g3 : g3 < w4.heap.size := by omega)) | (go_at_call 22; (with_reducible refine (pow_any L U 2 _).mono ?_); rintro e w5 ⟨rfl, hb5⟩; obtain ⟨hc5, hf5⟩ := bcell hb5; (try simp only [World.size_drew] at hc5 hf5); have hz5 := hb5.size; (try simp at hz5); (try have q5_0 : w.heap.size < w5.heap.size := by omega); (try have q5_1 : w.heap.size + 1 < w5.heap.size := by omega); (try have q5_2 : w.heap.size + 2 < w5.heap.size := by omega); (try have q5_3 : w.heap.size + 3 < w5.heap.size := by omega); (try have q5_4 : w.heap.size + 4 < w5.heap.size := by omega); (try have q5_0_0 : w0.heap.size < w5.heap.size := by omega); (try have q5_0_1 : w0.heap.size + 1 < w5.heap.size := by omega); (try have q5_1_0 : w1.heap.size < w5.heap.size := by omega); (try have q5_1_1 : w1.heap.size + 1 < w5.heap.size := by omega); (try have q5_2_0 : w2.heap.size < w5.heap.size := by omega); (try have q5_2_1 : w2.heap.size + 1 < w5.heap.size := by omega); (try have q5_3_0 : w3.heap.size < w5.heap.size := by omega); (try have q5_3_1 : w3.heap.size + 1 < w5.heap.size := by omega); (try have q5_4_0 : w4.heap.size < w5.heap.size := by omega); (try have q5_4_1 : w4.heap.size + 1 < w5.heap.size := by omega); (try have q5_6_0 : w6.heap.size < w5.heap.size := by omega); (try have q5_6_1 : w6.heap.size + 1 < w5.heap.size := by omega); (try have u5_q : q < w5.heap.size := by omega); (try have u5_g : g < w5.heap.size := by omega); (try have u5_g1 : g1 < w5.heap.size := by omega); (try have u5_g2 : g2 < w5.heap.size := by omega); (try have u5_g3 : g3 < w5.heap.size := by omega)) | (go_at_call 23; (with_reducible refine (bandOk_any (powL L U (x1 % 40)) (powH L U (x1 % 40)) _).mono ?_); rintro e w6 ⟨rfl, hb6⟩; obtain ⟨hc6, hf6⟩ := bcell hb6; (try simp only [World.size_drew] at hc6 hf6); have hz6 := hb6.size; (try simp at hz6); (try have q6_0 : w.heap.size < w6.heap.size := by omega); (try have q6_1 : w.heap.size + 1 < w6.heap.size := by omega); (try have q6_2 : w.heap.size + 2 < w6.heap.size := by omega); (try have q6_3 : w.heap.size + 3 < w6.heap.size := by omega); (try have q6_4 : w.heap.size + 4 < w6.heap.size := by omega); (try have q6_0_0 : w0.heap.size < w6.heap.size := by omega); (try have q6_0_1 : w0.heap.size + 1 < w6.heap.size := by omega); (try have q6_1_0 : w1.heap.size < w6.heap.size := by omega); (try have q6_1_1 : w1.heap.size + 1 < w6.heap.size := by omega); (try have q6_2_0 : w2.heap.size < w6.heap.size := by omega); (try have q6_2_1 : w2.heap.size + 1 < w6.heap.size := by omega); (try have q6_3_0 : w3.heap.size < w6.heap.size := by omega); (try have q6_3_1 : w3.heap.size + 1 < w6.heap.size := by omega); (try have q6_4_0 : w4.heap.size < w6.heap.size := by omega); (try have q6_4_1 : w4.heap.size + 1 < w6.heap.size := by omega); (try have q6_5_0 : w5.heap.size < w6.heap.size := by omega); (try have q6_5_1 : w5.heap.size + 1 < w6.heap.size := by omega); (try have u6_q : q < w6.heap.size := by omega); (try have u6_g : g < w6.heap.size := by omega); (try have u6_g1 : g1 < w6.heap.size := by omega); (try have u6_g2 : g2 < w6.heap.size := by omega); (try have u6_g3 : g3 < w6.heap.size := by omega)) | (go_at_call 24; (with_reducible refine (bandHas_any L U 1000 (1000 + x0 % 100) _).mono ?_); rintro e w7 ⟨rfl, hb7⟩; obtain ⟨hc7, hf7⟩ := bcell hb7; (try simp only [World.size_drew] at hc7 hf7); have hz7 := hb7.size; (try simp at hz7); (try have q7_0 : w.heap.size < w7.heap.size := by omega); (try have q7_1 : w.heap.size + 1 < w7.heap.size := by omega); (try have q7_2 : w.heap.size + 2 < w7.heap.size := by omega); (try have q7_3 : w.heap.size + 3 < w7.heap.size := by omega); (try have q7_4 : w.heap.size + 4 < w7.heap.size := by omega); (try have q7_0_0 : w0.heap.size < w7.heap.size := by omega); (try have q7_0_1 : w0.heap.size + 1 < w7.heap.size := by omega); (try have q7_1_0 : w1.heap.size < w7.heap.size := by omega); (try have q7_1_1 : w1.heap.size + 1 < w7.heap.size := by omega); (try have q7_2_0 : w2.heap.size < w7.heap.size := by omega); (try have q7_2_1 : w2.heap.size + 1 < w7.heap.size := by omega); (try have q7_3_0 : w3.heap.size < w7.heap.size := by omega); (try have q7_3_1 : w3.heap.size + 1 < w7.heap.size := by omega); (try have q7_4_0 : w4.heap.size < w7.heap.size := by omega); (try have q7_4_1 : w4.heap.size + 1 < w7.heap.size := by omega); (try have q7_5_0 : w5.heap.size < w7.heap.size := by omega); (try have q7_5_1 : w5.heap.size + 1 < w7.heap.size := by omega); (try have q7_6_0 : w6.heap.size < w7.heap.size := by omega); (try have q7_6_1 : w6.heap.size + 1 < w7.heap.size := by omega); (try have u7_q : q < w7.heap.size := by omega); (try have u7_g : g < w7.heap.size := by omega); (try have u7_g1 : g1 < w7.heap.size := by omega); (try have u7_g2 : g2 < w7.heap.size := by omega); (try have u7_g3 : g3 < w7.heap.size := by omega)))
    go_ret
    exact ⟨rfl, by (repeat (first | with_reducible exact Below.refl _ _ | with_reducible refine Below.drew ?_ | (with_reducible refine Below.alloc ?_ ?hsz _; case hsz => ((try simp) <;> (try omega))) | (with_reducible refine Below.setCell ?_ ?hsz _; case hsz => ((try simp) <;> (try omega))) | (with_reducible refine below_step (by with_reducible assumption) ?hsz ?_; case hsz => ((try simp) <;> (try omega)))))⟩
  · have hbig : decide (1048576 < n) = true := by simp; omega
    go_enter Try.func5, Try.ntmps5
    go_wp2_with (first | (go_at_call 15; (with_reducible refine (big_any code n cap _).mono ?_); rintro e w' ⟨rfl, rfl⟩))
    go_ret
    exact ⟨rfl, Below.refl _ _⟩
set_option maxRecDepth 100000 in
theorem fnPowers_open {H : Type} {enc : TypeId × Value → H} (W : World) (base : Nat) (args : Array Value) (ds : List (DataW H)) (p : List MemPlace)
    (hval : ∀ (j : Nat) t v, Try.f5.params[j]? = some t → args[j]? = some v → Value.okWide Try.prog W .any base t v)
    (hA : DataW.TrodAll enc Try.prog W 0 (fun _ => true) true Try.f5.params.toList args.toList ds p) :
    Calls Try.prog 5 args W fun e W' => e = .returned (.bool true) ∧ Below W.heap.size W W' := by
  rw [Try.params5] at hA hval
  obtain ⟨v0, vs0, d0, ds0, p0, q0, hargs, rfl, rfl, h0, r0⟩ := trodAll_cons hA
  obtain ⟨rfl, rfl, rfl⟩ := trodAll_nil r0
  obtain rfl : args = #[v0] := by cases args; simp_all
  obtain ⟨code, coden, codecap, codeF, rfl, hl0, hm0, hr0, hw0⟩ := open_row Try.underlying22 Try.underlying5 (by kernel_rfl) (hval 0 22 v0 rfl rfl) h0
  exact lawPowers code coden codecap codeF W hl0 hm0 hr0
theorem fnPowers_lifted (os : Os) (started : os.Started) (H : Type) (enc : TypeId × Value → H) :
    ReturnsInHanded {} Try.checked os 5 .any (Rows.fnPowersSpec.pre6 enc Try.prog Try.f5 Rows.fnPowersRow.domain false) (Rows.fnPowersSpec.post enc Try.prog Try.f5 false true false false) :=
  law_lifted (C := Try.checked) (s := Rows.fnPowersSpec) (tb := 4) Tryown TrylaidOut (by kernel_rfl) Try.func5 rfl Try.underlying4 (by kernel_rfl) rfl (fun H ds h => match ds, h with | [d0], _ => rfl) os started H enc
    (ChangeSpec.witness6 (enc := enc) (C := Try.checked) false ⟨#[], #[.slice none 0 0], []⟩ 8 (by kernel_rfl) (by kernel_rfl) (by kernel_rfl) (by kernel_rfl))
    (fun W base args ds p hval hA _ _ => fnPowers_open W base args ds p hval hA)
theorem fnPowers_holds : Rows.FnPowersSaid :=
  OpenClaim.holds_of_wide 5 Try.f5 rfl rfl rfl rfl rfl rfl rfl ⟨rfl, rfl, rfl, rfl, rfl⟩ rfl rfl rfl rfl rfl (by kernel_rfl) Try.func5 (by kernel_rfl)
    (of_decide_eq_true (by kernel_rfl)) (by unfold Func.isWrapper; first | (rw [if_pos (by decide +kernel)]; kernel_rfl) | (rw [if_neg (by decide +kernel)]; exact ⟨rfl, rfl⟩))
    (fun os started H enc _ => fnPowers_lifted os started H enc)
#print axioms fnPowers_holds
end Go.Proofs.Ytjmibbjachgofaa
