/- Proved: for every band and fraction the program's BandHas answers what the reference's answers. No condition. -/
import Derived.Test.YtnfnphhimbmghaaFrame
import Derived.Test.YtnfnphhimbmghaaBandZ
namespace Go.Proofs.Ytnfnphhimbmghaa
open Go.ChangeShapes Go.WideShapes Go.ChangeAt Go.RowKit

theorem lawBandHas (l h n d : Int) (w : World) : Calls Try.prog 7 #[.agg #[.int .i64 l, .int .i64 h], .int .i64 n, .int .i64 d] w fun e w' => e = .returned (.bool true) ∧ Below w.heap.size w w' := by
  go_enter Try.func7, Try.ntmps7
  go_wp2_with (first | (go_at_call 16; (with_reducible refine (toBand_any l h _).mono ?_); rintro e w1 ⟨rfl, hb1⟩; obtain ⟨hc1, hf1⟩ := bcell hb1; have hz1 := hb1.size; (try simp at hz1); (try have q1_0 : w.heap.size < w1.heap.size := by omega); (try have q1_1 : w.heap.size + 1 < w1.heap.size := by omega); (try have q1_2 : w.heap.size + 2 < w1.heap.size := by omega); (try have q1_3 : w.heap.size + 3 < w1.heap.size := by omega); (try have q1_4 : w.heap.size + 4 < w1.heap.size := by omega)) | (go_at_call 25; (with_reducible refine (sbandHas_any l h n d _).mono ?_); rintro e w3 ⟨rfl, hb3⟩; obtain ⟨hc3, hf3⟩ := bcell hb3; have hz3 := hb3.size; (try simp at hz3); (try have q3_0 : w.heap.size < w3.heap.size := by omega); (try have q3_1 : w.heap.size + 1 < w3.heap.size := by omega); (try have q3_2 : w.heap.size + 2 < w3.heap.size := by omega); (try have q3_3 : w.heap.size + 3 < w3.heap.size := by omega); (try have q3_4 : w.heap.size + 4 < w3.heap.size := by omega)) | (go_at_call 26; (with_reducible refine (bandHas_any l h n d _).mono ?_); rintro e w4 ⟨rfl, hb4⟩; obtain ⟨hc4, hf4⟩ := bcell hb4; have hz4 := hb4.size; (try simp at hz4); (try have q4_0 : w.heap.size < w4.heap.size := by omega); (try have q4_1 : w.heap.size + 1 < w4.heap.size := by omega); (try have q4_2 : w.heap.size + 2 < w4.heap.size := by omega); (try have q4_3 : w.heap.size + 3 < w4.heap.size := by omega); (try have q4_4 : w.heap.size + 4 < w4.heap.size := by omega)))
  go_ret
  exact ⟨rfl, by (repeat (first | exact Below.refl _ _ | refine Below.drew ?_ | (refine Below.alloc ?_ ?hsz _; case hsz => ((try simp) <;> (try omega))) | (refine Below.setCell ?_ ?hsz _; case hsz => ((try simp) <;> (try omega))) | (refine below_step (by assumption) ?hsz ?_; case hsz => ((try simp) <;> (try omega)))))⟩
theorem fnExactBandHas_cells0 : Try.prog.cellsOf 23 = 2 := by kernel_rfl
set_option maxRecDepth 100000 in
theorem fnExactBandHas_open {H : Type} {enc : TypeId × Value → H} (W : World) (base : Nat) (args : Array Value) (ds : List (DataW H)) (p : List MemPlace)
    (hval : ∀ (j : Nat) t v, Try.f7.params[j]? = some t → args[j]? = some v → Value.okWide Try.prog W .any base t v)
    (hA : DataW.TrodAll enc Try.prog W 0 (fun _ => true) true Try.f7.params.toList args.toList ds p) :
    Calls Try.prog 7 args W fun e W' => e = .returned (.bool true) ∧ Below W.heap.size W W' := by
  rw [Try.params7] at hA hval
  obtain ⟨v0, vs0, d0, ds0, p0, q0, hargs, rfl, rfl, h0, r0⟩ := trodAll_cons hA
  obtain ⟨v1, vs1, d1, ds1, p1, q1, rfl, rfl, rfl, h1, r1⟩ := trodAll_cons r0
  obtain ⟨v2, vs2, d2, ds2, p2, q2, rfl, rfl, rfl, h2, r2⟩ := trodAll_cons r1
  obtain ⟨rfl, rfl, rfl⟩ := trodAll_nil r2
  obtain rfl : args = #[v0, v1, v2] := by cases args; simp_all
  obtain ⟨c0_0, c0_1, y0_0, y0_1, m0, rfl, rfl, rfl, hy0_0, hy0_1⟩ := Go.Joins.open_agg2 Try.underlying23 (by kernel_rfl) fnExactBandHas_cells0 (hval 0 23 v0 rfl rfl) h0
  obtain ⟨l, e0_0, rfl, wf0_0⟩ := DataW.trod_int Try.underlying3 hy0_0
  obtain ⟨h, e0_1, rfl, wf0_1⟩ := DataW.trod_int Try.underlying3 hy0_1
  simp at e0_0 e0_1
  subst e0_0 e0_1
  obtain ⟨n, rfl, rfl, rfl, wf1⟩ := open_int Try.underlying3 (hval 1 3 v1 rfl rfl) h1
  obtain ⟨d, rfl, rfl, rfl, wf2⟩ := open_int Try.underlying3 (hval 2 3 v2 rfl rfl) h2
  exact lawBandHas l h n d W
theorem fnExactBandHas_lifted (os : Os) (started : os.Started) (H : Type) (enc : TypeId × Value → H) :
    ReturnsInHanded {} Try.checked os 7 .any (Rows.fnExactBandHasSpec.pre6 enc Try.prog Try.f7 Rows.fnExactBandHasRow.domain false) (Rows.fnExactBandHasSpec.post enc Try.prog Try.f7 false true false false) :=
  law_lifted (C := Try.checked) (s := Rows.fnExactBandHasSpec) (tb := 4) Tryown TrylaidOut (by kernel_rfl) Try.func7 rfl Try.underlying4 (by kernel_rfl) rfl (fun H ds h => match ds, h with | [d0, d1, d2], _ => rfl) os started H enc
    (ChangeSpec.witness6 (enc := enc) (C := Try.checked) false ⟨#[], #[.agg #[.int .i64 0, .int .i64 0], .int .i64 0, .int .i64 0], []⟩ 8 (by kernel_rfl) (by kernel_rfl) (by kernel_rfl) (by kernel_rfl))
    (fun W base args ds p hval hA _ _ => fnExactBandHas_open W base args ds p hval hA)
theorem fnExactBandHas_holds : Rows.FnExactBandHasSaid :=
  OpenClaim.holds_of_wide 7 Try.f7 rfl rfl rfl rfl rfl rfl rfl ⟨rfl, rfl, rfl, rfl, rfl⟩ rfl rfl rfl rfl rfl (by kernel_rfl) Try.func7 (by kernel_rfl)
    (of_decide_eq_true (by kernel_rfl)) (by unfold Func.isWrapper; first | (rw [if_pos (by decide +kernel)]; kernel_rfl) | (rw [if_neg (by decide +kernel)]; exact ⟨rfl, rfl⟩))
    (fun os started H enc _ => fnExactBandHas_lifted os started H enc)
#print axioms fnExactBandHas_holds
end Go.Proofs.Ytnfnphhimbmghaa
