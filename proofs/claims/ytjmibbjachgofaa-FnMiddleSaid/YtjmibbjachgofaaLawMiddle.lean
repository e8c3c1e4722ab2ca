/- Proved: for every byte string, the transfer value that is drawn from it lies between the bounds. No condition. -/
import Derived.Test.YtjmibbjachgofaaOpen
import Derived.Test.YtjmibbjachgofaaCur
import Derived.Test.YtjmibbjachgofaaPlainBand
import Derived.Outline
import Derived.IntWalk
import Derived.Deep.RegionHeld3
import Derived.Deep.DeepCutAuto
namespace Go.Proofs.Ytjmibbjachgofaa
open Go.ChangeShapes Go.WideShapes Go.ChangeAt Go.RowKit

set_option maxHeartbeats 400000 in
theorem lawMiddle (code : Option Addr) (n cap : Nat) (F : Nat → Int) (w : World) (_hl : n ≤ cap) (_hm : cap ≤ maxLen) (hr : Row w .u8 code n F) : Calls Try.prog 4 #[.slice code n cap] w fun e w' => e = .returned (.bool true) ∧ Below w.heap.size w w' := by
  by_cases hn : n ≤ 1048576
  · have hbig : decide (1048576 < n) = false := by simp; omega
    have hr' := Lib.hid hr
    clear hr
    go_enter Try.func4, Try.ntmps4
    go_wp2_with (first | (go_at_call 15; (with_reducible refine (big_any code n cap _).mono ?_); rintro e w' ⟨rfl, rfl⟩) | (go_at_call 16; (with_reducible refine (places_any code n cap F _ hn hr'.out).mono ?_); rintro e w1 ⟨q, qc, P, rfl, hq, hq2, hb1, hP, hcell⟩; have p0 := hcell 0 (by omega); have p1 := hcell 1 (by omega); have p2 := hcell 2 (by omega); have b0 := hP 0 (by omega); have b1 := hP 1 (by omega); have b2 := hP 2 (by omega); clear hP hcell; have hz1 := hb1.size))
    generalize P 0 = x0 at p0 b0
    generalize P 1 = x1 at p1 b1
    generalize P 2 = x2 at p2 b2
    clear P
    obtain ⟨v1, v2, v3, v4, v5, v6⟩ := band_val (x := 1 + x0 % 900) (y := 1 + x1 % 100) (by omega) (by omega) (by omega) (by omega)
    clear v2 v3
    go_cut [4] (fun s4 wx => ∃ g : Nat, s4 = .pointer (some ⟨g, 0, none⟩) ∧ Below w.heap.size w wx ∧ wx.cell? ⟨q, 2, none⟩ = some (.int .i64 x2) ∧ Box wx g 27 #[.int .i64 (bandOfL (1 + x0 % 900) (1 + x1 % 100)), .int .i64 (bandOfH (1 + x0 % 900) (1 + x1 % 100))])
    case first =>
      have m0 : x0.tmod 900 = x0 % 900 := Int.tmod_eq_emod_of_nonneg b0.1
      have m1 : x1.tmod 100 = x1 % 100 := Int.tmod_eq_emod_of_nonneg b1.1
      have k0 : IntKind.i64.wrap (1 + x0 % 900) = 1 + x0 % 900 := IntWalk.i64_in _ (by omega)
      have k1 : IntKind.i64.wrap (1 + x1 % 100) = 1 + x1 % 100 := IntWalk.i64_in _ (by omega)
      go_region_held3 (fun w' => w'.cell? ⟨q, 0, none⟩ = some (.int .i64 x0) ∧ w'.cell? ⟨q, 1, none⟩ = some (.int .i64 x1) ∧ w'.cell? ⟨q, 2, none⟩ = some (.int .i64 x2)) (simp [go_sem, *])
        (first | (go_at_call 17; (with_reducible refine (sbandOf_any (1 + x0 % 900) (1 + x1 % 100) _).mono ?_); rintro e w2 ⟨rfl, hb2⟩; obtain ⟨hc2, hf2⟩ := bcell hb2; (try simp only [World.size_drew] at hc2 hf2); have hz2 := hb2.size; (try simp at hz2); (try have q2_0 : w.heap.size < w2.heap.size := by omega); (try have q2_1 : w.heap.size + 1 < w2.heap.size := by omega); (try have q2_2 : w.heap.size + 2 < w2.heap.size := by omega); (try have q2_3 : w.heap.size + 3 < w2.heap.size := by omega); (try have q2_4 : w.heap.size + 4 < w2.heap.size := by omega); (try have q2_0_0 : w0.heap.size < w2.heap.size := by omega); (try have q2_0_1 : w0.heap.size + 1 < w2.heap.size := by omega); (try have q2_1_0 : w1.heap.size < w2.heap.size := by omega); (try have q2_1_1 : w1.heap.size + 1 < w2.heap.size := by omega); (try have q2_3_0 : w3.heap.size < w2.heap.size := by omega); (try have q2_3_1 : w3.heap.size + 1 < w2.heap.size := by omega); (try have q2_4_0 : w4.heap.size < w2.heap.size := by omega); (try have q2_4_1 : w4.heap.size + 1 < w2.heap.size := by omega); (try have q2_5_0 : w5.heap.size < w2.heap.size := by omega); (try have q2_5_1 : w5.heap.size + 1 < w2.heap.size := by omega); (try have q2_6_0 : w6.heap.size < w2.heap.size := by omega); (try have q2_6_1 : w6.heap.size + 1 < w2.heap.size := by omega); (try have u2_q : q < w2.heap.size := by omega); (try have u2_g : g < w2.heap.size := by omega); (try have u2_g1 : g1 < w2.heap.size := by omega); (try have u2_g2 : g2 < w2.heap.size := by omega); (try have u2_g3 : g3 < w2.heap.size := by omega)))
      all_goals (go_wp2_with fail; go_meet; refine ⟨_, rfl, ?_, ?_, ?_⟩)
      all_goals first | (with_reducible refine Below.mono ?_ (Nat.le_refl _); (repeat (first | with_reducible exact Below.refl _ _ | with_reducible refine Below.drew ?_ | (with_reducible refine Below.alloc ?_ ?hsz _; case hsz => ((try simp) <;> (try omega))) | (with_reducible refine Below.setCell ?_ ?hsz _; case hsz => ((try simp) <;> (try omega))) | (with_reducible refine below_step (by with_reducible assumption) ?hsz ?_; case hsz => ((try simp) <;> (try omega))))); done) | (with_reducible refine id (α := Box _ _ _ _) ?_; (repeat (first | with_reducible assumption | with_reducible exact Box.made _ _ _ | (with_reducible refine Box.made_at ?hg; case hg => (simp; done)) | with_reducible refine Box.drew ?_ | with_reducible refine Box.alloc ?_ _ | (with_reducible refine Box.put2 (a := .int .i64 0) (b := .int .i64 0) ?_ _ _) | (with_reducible refine Box.far ?_ ?hg _; case hg => ((try simp) <;> (try omega))) | with_reducible refine Box.kept ?_ (by with_reducible assumption))); done) | (simp [go_sem, *]; done)
    case rest =>
      obtain ⟨w0, rfl⟩ : ∃ w0 : World, w0 = wc := ⟨_, rfl⟩
      obtain ⟨g, rfl, hbx, p2, x3⟩ := hcut
      obtain ⟨a1, a2, a3, a4⟩ := x3.two
      have l3 := x3.lt
      have hz0 := hbx.size
      generalize bandOfL (1 + x0 % 900) (1 + x1 % 100) = L at *
      generalize bandOfH (1 + x0 % 900) (1 + x1 % 100) = U at *
      obtain ⟨r1, r2, r3, r4, r5⟩ := reserve_val (p := 1 + x2 * 10) (l := L) (h := U) (by omega) (by omega) v4 v5 (by omega)
      obtain ⟨t1, t2, t3, t4, t5, t6, t7⟩ := transfer_val (p := 1 + x2 * 10) (l := L) (h := U) (by omega) (by omega) v4 v5 (by omega)
      go_wp2_with (first | (go_at_call 19; (with_reducible refine (sreserve_any (1 + x2 * 10) L U _).mono ?_); rintro e w3 ⟨rfl, hb3⟩; obtain ⟨hc3, hf3⟩ := bcell hb3; (try simp only [World.size_drew] at hc3 hf3); have hz3 := hb3.size; (try simp at hz3); (try have q3_0 : w.heap.size < w3.heap.size := by omega); (try have q3_1 : w.heap.size + 1 < w3.heap.size := by omega); (try have q3_2 : w.heap.size + 2 < w3.heap.size := by omega); (try have q3_3 : w.heap.size + 3 < w3.heap.size := by omega); (try have q3_4 : w.heap.size + 4 < w3.heap.size := by omega); (try have q3_0_0 : w0.heap.size < w3.heap.size := by omega); (try have q3_0_1 : w0.heap.size + 1 < w3.heap.size := by omega); (try have q3_1_0 : w1.heap.size < w3.heap.size := by omega); (try have q3_1_1 : w1.heap.size + 1 < w3.heap.size := by omega); (try have q3_2_0 : w2.heap.size < w3.heap.size := by omega); (try have q3_2_1 : w2.heap.size + 1 < w3.heap.size := by omega); (try have q3_4_0 : w4.heap.size < w3.heap.size := by omega); (try have q3_4_1 : w4.heap.size + 1 < w3.heap.size := by omega); (try have q3_5_0 : w5.heap.size < w3.heap.size := by omega); (try have q3_5_1 : w5.heap.size + 1 < w3.heap.size := by omega); (try have q3_6_0 : w6.heap.size < w3.heap.size := by omega); (try have q3_6_1 : w6.heap.size + 1 < w3.heap.size := by omega); (try have u3_q : q < w3.heap.size := by omega); (try have u3_g : g < w3.heap.size := by omega); (try have u3_g1 : g1 < w3.heap.size := by omega); (try have u3_g2 : g2 < w3.heap.size := by omega); (try have u3_g3 : g3 < w3.heap.size := by omega)) | (go_at_call 20; (with_reducible refine (transfer_any (1 + x2 * 10) L U _).mono ?_); rintro e w4 ⟨rfl, hb4⟩; obtain ⟨hc4, hf4⟩ := bcell hb4; (try simp only [World.size_drew] at hc4 hf4); have hz4 := hb4.size; (try simp at hz4); (try have q4_0 : w.heap.size < w4.heap.size := by omega); (try have q4_1 : w.heap.size + 1 < w4.heap.size := by omega); (try have q4_2 : w.heap.size + 2 < w4.heap.size := by omega); (try have q4_3 : w.heap.size + 3 < w4.heap.size := by omega); (try have q4_4 : w.heap.size + 4 < w4.heap.size := by omega); (try have q4_0_0 : w0.heap.size < w4.heap.size := by omega); (try have q4_0_1 : w0.heap.size + 1 < w4.heap.size := by omega); (try have q4_1_0 : w1.heap.size < w4.heap.size := by omega); (try have q4_1_1 : w1.heap.size + 1 < w4.heap.size := by omega); (try have q4_2_0 : w2.heap.size < w4.heap.size := by omega); (try have q4_2_1 : w2.heap.size + 1 < w4.heap.size := by omega); (try have q4_3_0 : w3.heap.size < w4.heap.size := by omega); (try have q4_3_1 : w3.heap.size + 1 < w4.heap.size := by omega); (try have q4_5_0 : w5.heap.size < w4.heap.size := by omega); (try have q4_5_1 : w5.heap.size + 1 < w4.heap.size := by omega); (try have q4_6_0 : w6.heap.size < w4.heap.size := by omega); (try have q4_6_1 : w6.heap.size + 1 < w4.heap.size := by omega); (try have u4_q : q < w4.heap.size := by omega); (try have u4_g : g < w4.heap.size := by omega); (try have u4_g1 : g1 < w4.heap.size := by omega); (try have u4_g2 : g2 < w4.heap.size := by omega); (try have u4_g3 : g3 < w4.heap.size := by omega)))
      go_ret
      exact ⟨rfl, by (repeat (first | with_reducible exact Below.refl _ _ | with_reducible refine Below.drew ?_ | (with_reducible refine Below.alloc ?_ ?hsz _; case hsz => ((try simp) <;> (try omega))) | (with_reducible refine Below.setCell ?_ ?hsz _; case hsz => ((try simp) <;> (try omega))) | (with_reducible refine below_step (by with_reducible assumption) ?hsz ?_; case hsz => ((try simp) <;> (try omega)))))⟩
  · have hbig : decide (1048576 < n) = true := by simp; omega
    go_enter Try.func4, Try.ntmps4
    go_wp2_with (first | (go_at_call 15; (with_reducible refine (big_any code n cap _).mono ?_); rintro e w' ⟨rfl, rfl⟩))
    go_ret
    exact ⟨rfl, Below.refl _ _⟩
set_option maxRecDepth 100000 in
theorem fnMiddle_open {H : Type} {enc : TypeId × Value → H} (W : World) (base : Nat) (args : Array Value) (ds : List (DataW H)) (p : List MemPlace)
    (hval : ∀ (j : Nat) t v, Try.f4.params[j]? = some t → args[j]? = some v → Value.okWide Try.prog W .any base t v)
    (hA : DataW.TrodAll enc Try.prog W 0 (fun _ => true) true Try.f4.params.toList args.toList ds p) :
    Calls Try.prog 4 args W fun e W' => e = .returned (.bool true) ∧ Below W.heap.size W W' := by
  rw [Try.params4] at hA hval
  obtain ⟨v0, vs0, d0, ds0, p0, q0, hargs, rfl, rfl, h0, r0⟩ := trodAll_cons hA
  obtain ⟨rfl, rfl, rfl⟩ := trodAll_nil r0
  obtain rfl : args = #[v0] := by cases args; simp_all
  obtain ⟨code, coden, codecap, codeF, rfl, hl0, hm0, hr0, hw0⟩ := open_row Try.underlying22 Try.underlying5 (by kernel_rfl) (hval 0 22 v0 rfl rfl) h0
  exact lawMiddle code coden codecap codeF W hl0 hm0 hr0
theorem fnMiddle_lifted (os : Os) (started : os.Started) (H : Type) (enc : TypeId × Value → H) :
    ReturnsInHanded {} Try.checked os 4 .any (Rows.fnMiddleSpec.pre6 enc Try.prog Try.f4 Rows.fnMiddleRow.domain false) (Rows.fnMiddleSpec.post enc Try.prog Try.f4 false true false false) :=
  law_lifted (C := Try.checked) (s := Rows.fnMiddleSpec) (tb := 4) Tryown TrylaidOut (by kernel_rfl) Try.func4 rfl Try.underlying4 (by kernel_rfl) rfl (fun H ds h => match ds, h with | [d0], _ => rfl) os started H enc
    (ChangeSpec.witness6 (enc := enc) (C := Try.checked) false ⟨#[], #[.slice none 0 0], []⟩ 8 (by kernel_rfl) (by kernel_rfl) (by kernel_rfl) (by kernel_rfl))
    (fun W base args ds p hval hA _ _ => fnMiddle_open W base args ds p hval hA)
theorem fnMiddle_holds : Rows.FnMiddleSaid :=
  OpenClaim.holds_of_wide 4 Try.f4 rfl rfl rfl rfl rfl rfl rfl ⟨rfl, rfl, rfl, rfl, rfl⟩ rfl rfl rfl rfl rfl (by kernel_rfl) Try.func4 (by kernel_rfl)
    (of_decide_eq_true (by kernel_rfl)) (by unfold Func.isWrapper; first | (rw [if_pos (by decide +kernel)]; kernel_rfl) | (rw [if_neg (by decide +kernel)]; exact ⟨rfl, rfl⟩))
    (fun os started H enc _ => fnMiddle_lifted os started H enc)
#print axioms fnMiddle_holds
end Go.Proofs.Ytjmibbjachgofaa
