/- Proved: for all two numbers the program's BandOf answers what the reference's answers. No condition. -/
import Derived.Test.YtnfnphhimbmghaaFrame
import Derived.Test.YtnfnphhimbmghaaBandX
namespace Go.Proofs.Ytnfnphhimbmghaa
open Go.ChangeShapes Go.WideShapes Go.ChangeAt Go.RowKit

theorem lawBandOf (n d : Int) (w : World) : Calls Try.prog 6 #[.int .i64 n, .int .i64 d] w fun e w' => e = .returned (.bool true) ∧ Below w.heap.size w w' := by
  go_enter Try.func6, Try.ntmps6
  go_wp2_with (first | (go_at_call 22; (with_reducible refine (sbandOf_any n d _).mono ?_); rintro e w1 ⟨rfl, hb1⟩; obtain ⟨hc1, hf1⟩ := bcell hb1; have hz1 := hb1.size; (try simp at hz1); (try have q1_0 : w.heap.size < w1.heap.size := by omega); (try have q1_1 : w.heap.size + 1 < w1.heap.size := by omega); (try have q1_2 : w.heap.size + 2 < w1.heap.size := by omega); (try have q1_3 : w.heap.size + 3 < w1.heap.size := by omega); (try have q1_4 : w.heap.size + 4 < w1.heap.size := by omega)) | (go_at_call 23; (with_reducible refine (bandOf_any n d _).mono ?_); rintro e w2 ⟨rfl, hb2⟩; obtain ⟨hc2, hf2⟩ := bcell hb2; have hz2 := hb2.size; (try simp at hz2); (try have q2_0 : w.heap.size < w2.heap.size := by omega); (try have q2_1 : w.heap.size + 1 < w2.heap.size := by omega); (try have q2_2 : w.heap.size + 2 < w2.heap.size := by omega); (try have q2_3 : w.heap.size + 3 < w2.heap.size := by omega); (try have q2_4 : w.heap.size + 4 < w2.heap.size := by omega); (try have q2_1_0 : w1.heap.size < w2.heap.size := by omega); (try have q2_1_1 : w1.heap.size + 1 < w2.heap.size := by omega)) | (go_at_call 24; (with_reducible refine (eqBand_same (bandOfL n d) (bandOfH n d) _).mono ?_); rintro e w3 ⟨rfl, hb3⟩; obtain ⟨hc3, hf3⟩ := bcell hb3; have hz3 := hb3.size; (try simp at hz3); (try have q3_0 : w.heap.size < w3.heap.size := by omega); (try have q3_1 : w.heap.size + 1 < w3.heap.size := by omega); (try have q3_2 : w.heap.size + 2 < w3.heap.size := by omega); (try have q3_3 : w.heap.size + 3 < w3.heap.size := by omega); (try have q3_4 : w.heap.size + 4 < w3.heap.size := by omega); (try have q3_1_0 : w1.heap.size < w3.heap.size := by omega); (try have q3_1_1 : w1.heap.size + 1 < w3.heap.size := by omega); (try have q3_2_0 : w2.heap.size < w3.heap.size := by omega); (try have q3_2_1 : w2.heap.size + 1 < w3.heap.size := by omega)))
  go_ret
  exact ⟨rfl, by (repeat (first | exact Below.refl _ _ | refine Below.drew ?_ | (refine Below.alloc ?_ ?hsz _; case hsz => ((try simp) <;> (try omega))) | (refine Below.setCell ?_ ?hsz _; case hsz => ((try simp) <;> (try omega))) | (refine below_step (by assumption) ?hsz ?_; case hsz => ((try simp) <;> (try omega)))))⟩
set_option maxRecDepth 100000 in
theorem fnExactBandOf_open {H : Type} {enc : TypeId × Value → H} (W : World) (base : Nat) (args : Array Value) (ds : List (DataW H)) (p : List MemPlace)
    (hval : ∀ (j : Nat) t v, Try.f6.params[j]? = some t → args[j]? = some v → Value.okWide Try.prog W .any base t v)
    (hA : DataW.TrodAll enc Try.prog W 0 (fun _ => true) true Try.f6.params.toList args.toList ds p) :
    Calls Try.prog 6 args W fun e W' => e = .returned (.bool true) ∧ Below W.heap.size W W' := by
  rw [Try.params6] at hA hval
  obtain ⟨v0, vs0, d0, ds0, p0, q0, hargs, rfl, rfl, h0, r0⟩ := trodAll_cons hA
  obtain ⟨v1, vs1, d1, ds1, p1, q1, rfl, rfl, rfl, h1, r1⟩ := trodAll_cons r0
  obtain ⟨rfl, rfl, rfl⟩ := trodAll_nil r1
  obtain rfl : args = #[v0, v1] := by cases args; simp_all
  obtain ⟨n, rfl, rfl, rfl, wf0⟩ := open_int Try.underlying3 (hval 0 3 v0 rfl rfl) h0
  obtain ⟨d, rfl, rfl, rfl, wf1⟩ := open_int Try.underlying3 (hval 1 3 v1 rfl rfl) h1
  exact lawBandOf n d W
theorem fnExactBandOf_lifted (os : Os) (started : os.Started) (H : Type) (enc : TypeId × Value → H) :
    ReturnsInHanded {} Try.checked os 6 .any (Rows.fnExactBandOfSpec.pre6 enc Try.prog Try.f6 Rows.fnExactBandOfRow.domain false) (Rows.fnExactBandOfSpec.post enc Try.prog Try.f6 false true false false) :=
  law_lifted (C := Try.checked) (s := Rows.fnExactBandOfSpec) (tb := 4) Tryown TrylaidOut (by kernel_rfl) Try.func6 rfl Try.underlying4 (by kernel_rfl) rfl (fun H ds h => match ds, h with | [d0, d1], _ => rfl) os started H enc
    (ChangeSpec.witness6 (enc := enc) (C := Try.checked) false ⟨#[], #[.int .i64 0, .int .i64 0], []⟩ 8 (by kernel_rfl) (by kernel_rfl) (by kernel_rfl) (by kernel_rfl))
    (fun W base args ds p hval hA _ _ => fnExactBandOf_open W base args ds p hval hA)
theorem fnExactBandOf_holds : Rows.FnExactBandOfSaid :=
  OpenClaim.holds_of_wide 6 Try.f6 rfl rfl rfl rfl rfl rfl rfl ⟨rfl, rfl, rfl, rfl, rfl⟩ rfl rfl rfl rfl rfl (by kernel_rfl) Try.func6 (by kernel_rfl)
    (of_decide_eq_true (by kernel_rfl)) (by unfold Func.isWrapper; first | (rw [if_pos (by decide +kernel)]; kernel_rfl) | (rw [if_neg (by decide +kernel)]; exact ⟨rfl, rfl⟩))
    (fun os started H enc _ => fnExactBandOf_lifted os started H enc)
#print axioms fnExactBandOf_holds
end Go.Proofs.Ytnfnphhimbmghaa
