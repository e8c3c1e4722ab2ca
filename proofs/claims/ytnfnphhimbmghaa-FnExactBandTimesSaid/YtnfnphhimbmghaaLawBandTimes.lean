/- Proved: for every band and number the program's BandTimes answers what the reference's answers. No condition. -/
import Derived.Test.YtnfnphhimbmghaaFrame
import Derived.Test.YtnfnphhimbmghaaBandZ
import Derived.Outline
namespace Go.Proofs.Ytnfnphhimbmghaa
open Go.ChangeShapes Go.WideShapes Go.ChangeAt Go.RowKit

set_option maxHeartbeats 400000 in
theorem lawBandTimes (l h k : Int) (w : World) : Calls Try.prog 13 #[.agg #[.int .i64 l, .int .i64 h], .int .i64 k] w fun e w' => e = .returned (.bool true) ∧ Below w.heap.size w w' := by
  go_enter Try.func13, Try.ntmps13
  go_wp2_with (first | ((go_at_call 16; (with_reducible refine (toBand_any l h _).mono ?_); rintro e w1 ⟨rfl, hb1⟩; obtain ⟨hc1, hf1⟩ := bcell hb1; have hz1 := hb1.size; (try simp at hz1); (try have q1_0 : w.heap.size < w1.heap.size := by omega); (try have q1_1 : w.heap.size + 1 < w1.heap.size := by omega); (try have q1_2 : w.heap.size + 2 < w1.heap.size := by omega); (try have q1_3 : w.heap.size + 3 < w1.heap.size := by omega); (try have q1_4 : w.heap.size + 4 < w1.heap.size := by omega); (try have q1_2_0 : w2.heap.size < w1.heap.size := by omega); (try have q1_2_1 : w2.heap.size + 1 < w1.heap.size := by omega); (try have q1_3_0 : w3.heap.size < w1.heap.size := by omega); (try have q1_3_1 : w3.heap.size + 1 < w1.heap.size := by omega); (try have q1_4_0 : w4.heap.size < w1.heap.size := by omega); (try have q1_4_1 : w4.heap.size + 1 < w1.heap.size := by omega); (try have q1_5_0 : w5.heap.size < w1.heap.size := by omega); (try have q1_5_1 : w5.heap.size + 1 < w1.heap.size := by omega); (try have q1_6_0 : w6.heap.size < w1.heap.size := by omega); (try have q1_6_1 : w6.heap.size + 1 < w1.heap.size := by omega))) | ((go_at_call 37; (with_reducible refine (sbandTimes_any l h k _).mono ?_); rintro e w3 ⟨rfl, hb3⟩; obtain ⟨hc3, hf3⟩ := bcell hb3; have hz3 := hb3.size; (try simp at hz3); (try have q3_0 : w.heap.size < w3.heap.size := by omega); (try have q3_1 : w.heap.size + 1 < w3.heap.size := by omega); (try have q3_2 : w.heap.size + 2 < w3.heap.size := by omega); (try have q3_3 : w.heap.size + 3 < w3.heap.size := by omega); (try have q3_4 : w.heap.size + 4 < w3.heap.size := by omega); (try have q3_1_0 : w1.heap.size < w3.heap.size := by omega); (try have q3_1_1 : w1.heap.size + 1 < w3.heap.size := by omega); (try have q3_2_0 : w2.heap.size < w3.heap.size := by omega); (try have q3_2_1 : w2.heap.size + 1 < w3.heap.size := by omega); (try have q3_4_0 : w4.heap.size < w3.heap.size := by omega); (try have q3_4_1 : w4.heap.size + 1 < w3.heap.size := by omega); (try have q3_5_0 : w5.heap.size < w3.heap.size := by omega); (try have q3_5_1 : w5.heap.size + 1 < w3.heap.size := by omega); (try have q3_6_0 : w6.heap.size < w3.heap.size := by omega); (try have q3_6_1 : w6.heap.size + 1 < w3.heap.size := by omega))) | ((go_at_call 38; (with_reducible refine (bandTimes_any l h k _).mono ?_); rintro e w4 ⟨rfl, hb4⟩; obtain ⟨hc4, hf4⟩ := bcell hb4; have hz4 := hb4.size; (try simp at hz4); (try have q4_0 : w.heap.size < w4.heap.size := by omega); (try have q4_1 : w.heap.size + 1 < w4.heap.size := by omega); (try have q4_2 : w.heap.size + 2 < w4.heap.size := by omega); (try have q4_3 : w.heap.size + 3 < w4.heap.size := by omega); (try have q4_4 : w.heap.size + 4 < w4.heap.size := by omega); (try have q4_1_0 : w1.heap.size < w4.heap.size := by omega); (try have q4_1_1 : w1.heap.size + 1 < w4.heap.size := by omega); (try have q4_2_0 : w2.heap.size < w4.heap.size := by omega); (try have q4_2_1 : w2.heap.size + 1 < w4.heap.size := by omega); (try have q4_3_0 : w3.heap.size < w4.heap.size := by omega); (try have q4_3_1 : w3.heap.size + 1 < w4.heap.size := by omega); (try have q4_5_0 : w5.heap.size < w4.heap.size := by omega); (try have q4_5_1 : w5.heap.size + 1 < w4.heap.size := by omega); (try have q4_6_0 : w6.heap.size < w4.heap.size := by omega); (try have q4_6_1 : w6.heap.size + 1 < w4.heap.size := by omega))) | ((go_at_call 24; (with_reducible refine (eqBand_same (bandTimesL l h k) (bandTimesH l h k) _).mono ?_); rintro e w5 ⟨rfl, hb5⟩; obtain ⟨hc5, hf5⟩ := bcell hb5; have hz5 := hb5.size; (try simp at hz5); (try have q5_0 : w.heap.size < w5.heap.size := by omega); (try have q5_1 : w.heap.size + 1 < w5.heap.size := by omega); (try have q5_2 : w.heap.size + 2 < w5.heap.size := by omega); (try have q5_3 : w.heap.size + 3 < w5.heap.size := by omega); (try have q5_4 : w.heap.size + 4 < w5.heap.size := by omega); (try have q5_1_0 : w1.heap.size < w5.heap.size := by omega); (try have q5_1_1 : w1.heap.size + 1 < w5.heap.size := by omega); (try have q5_2_0 : w2.heap.size < w5.heap.size := by omega); (try have q5_2_1 : w2.heap.size + 1 < w5.heap.size := by omega); (try have q5_3_0 : w3.heap.size < w5.heap.size := by omega); (try have q5_3_1 : w3.heap.size + 1 < w5.heap.size := by omega); (try have q5_4_0 : w4.heap.size < w5.heap.size := by omega); (try have q5_4_1 : w4.heap.size + 1 < w5.heap.size := by omega); (try have q5_6_0 : w6.heap.size < w5.heap.size := by omega); (try have q5_6_1 : w6.heap.size + 1 < w5.heap.size := by omega))))
  go_outline
  go_ret
  exact ⟨rfl, by (repeat (first | with_reducible exact Below.refl _ _ | with_reducible refine Below.drew ?_ | (with_reducible refine Below.alloc ?_ ?hsz _; case hsz => ((try simp) <;> (try omega))) | (with_reducible refine Below.setCell ?_ ?hsz _; case hsz => ((try simp) <;> (try omega))) | (with_reducible refine below_step (by with_reducible assumption) ?hsz ?_; case hsz => ((try simp) <;> (try omega)))))⟩
theorem fnExactBandTimes_cells0 : Try.prog.cellsOf 23 = 2 := by kernel_rfl
set_option maxRecDepth 100000 in
theorem fnExactBandTimes_open {H : Type} {enc : TypeId × Value → H} (W : World) (base : Nat) (args : Array Value) (ds : List (DataW H)) (p : List MemPlace)
    (hval : ∀ (j : Nat) t v, Try.f13.params[j]? = some t → args[j]? = some v → Value.okWide Try.prog W .any base t v)
    (hA : DataW.TrodAll enc Try.prog W 0 (fun _ => true) true Try.f13.params.toList args.toList ds p) :
    Calls Try.prog 13 args W fun e W' => e = .returned (.bool true) ∧ Below W.heap.size W W' := by
  rw [Try.params13] at hA hval
  obtain ⟨v0, vs0, d0, ds0, p0, q0, hargs, rfl, rfl, h0, r0⟩ := trodAll_cons hA
  obtain ⟨v1, vs1, d1, ds1, p1, q1, rfl, rfl, rfl, h1, r1⟩ := trodAll_cons r0
  obtain ⟨rfl, rfl, rfl⟩ := trodAll_nil r1
  obtain rfl : args = #[v0, v1] := by cases args; simp_all
  obtain ⟨c0_0, c0_1, y0_0, y0_1, m0, rfl, rfl, rfl, hy0_0, hy0_1⟩ := Go.Joins.open_agg2 Try.underlying23 (by kernel_rfl) fnExactBandTimes_cells0 (hval 0 23 v0 rfl rfl) h0
  obtain ⟨l, e0_0, rfl, wf0_0⟩ := DataW.trod_int Try.underlying3 hy0_0
  obtain ⟨h, e0_1, rfl, wf0_1⟩ := DataW.trod_int Try.underlying3 hy0_1
  simp at e0_0 e0_1
  subst e0_0 e0_1
  obtain ⟨k, rfl, rfl, rfl, wf1⟩ := open_int Try.underlying3 (hval 1 3 v1 rfl rfl) h1
  exact lawBandTimes l h k W
theorem fnExactBandTimes_lifted (os : Os) (started : os.Started) (H : Type) (enc : TypeId × Value → H) :
    ReturnsInHanded {} Try.checked os 13 .any (Rows.fnExactBandTimesSpec.pre6 enc Try.prog Try.f13 Rows.fnExactBandTimesRow.domain false) (Rows.fnExactBandTimesSpec.post enc Try.prog Try.f13 false true false false) :=
  law_lifted (C := Try.checked) (s := Rows.fnExactBandTimesSpec) (tb := 4) Tryown TrylaidOut (by kernel_rfl) Try.func13 rfl Try.underlying4 (by kernel_rfl) rfl (fun H ds h => match ds, h with | [d0, d1], _ => rfl) os started H enc
    (ChangeSpec.witness6 (enc := enc) (C := Try.checked) false ⟨#[], #[.agg #[.int .i64 0, .int .i64 0], .int .i64 0], []⟩ 8 (by kernel_rfl) (by kernel_rfl) (by kernel_rfl) (by kernel_rfl))
    (fun W base args ds p hval hA _ _ => fnExactBandTimes_open W base args ds p hval hA)
theorem fnExactBandTimes_holds : Rows.FnExactBandTimesSaid :=
  OpenClaim.holds_of_wide 13 Try.f13 rfl rfl rfl rfl rfl rfl rfl ⟨rfl, rfl, rfl, rfl, rfl⟩ rfl rfl rfl rfl rfl (by kernel_rfl) Try.func13 (by kernel_rfl)
    (of_decide_eq_true (by kernel_rfl)) (by unfold Func.isWrapper; first | (rw [if_pos (by decide +kernel)]; kernel_rfl) | (rw [if_neg (by decide +kernel)]; exact ⟨rfl, rfl⟩))
    (fun os started H enc _ => fnExactBandTimes_lifted os started H enc)
#print axioms fnExactBandTimes_holds
end Go.Proofs.Ytnfnphhimbmghaa
