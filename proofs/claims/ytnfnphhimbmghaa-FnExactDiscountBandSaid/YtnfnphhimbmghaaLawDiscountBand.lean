/- Proved: for every rate the program's DiscountBand answers what the reference's answers. No condition. -/
import Derived.Test.YtnfnphhimbmghaaFrame
import Derived.Test.YtnfnphhimbmghaaBandZ
namespace Go.Proofs.Ytnfnphhimbmghaa
open Go.ChangeShapes Go.WideShapes Go.ChangeAt Go.RowKit

theorem lawDiscountBand (r : Int) (w : World) : Calls Try.prog 11 #[.int .i64 r] w fun e w' => e = .returned (.bool true) ∧ Below w.heap.size w w' := by
  go_enter Try.func11, Try.ntmps11
  go_wp2_with (first | (go_at_call 33; (with_reducible refine (sdiscount_any r _).mono ?_); rintro e w1 ⟨rfl, hb1⟩; obtain ⟨hc1, hf1⟩ := bcell hb1; have hz1 := hb1.size; (try simp at hz1); (try have q1_0 : w.heap.size < w1.heap.size := by omega); (try have q1_1 : w.heap.size + 1 < w1.heap.size := by omega); (try have q1_2 : w.heap.size + 2 < w1.heap.size := by omega); (try have q1_3 : w.heap.size + 3 < w1.heap.size := by omega); (try have q1_4 : w.heap.size + 4 < w1.heap.size := by omega)) | (go_at_call 34; (with_reducible refine (discount_any r _).mono ?_); rintro e w2 ⟨rfl, hb2⟩; obtain ⟨hc2, hf2⟩ := bcell hb2; have hz2 := hb2.size; (try simp at hz2); (try have q2_0 : w.heap.size < w2.heap.size := by omega); (try have q2_1 : w.heap.size + 1 < w2.heap.size := by omega); (try have q2_2 : w.heap.size + 2 < w2.heap.size := by omega); (try have q2_3 : w.heap.size + 3 < w2.heap.size := by omega); (try have q2_4 : w.heap.size + 4 < w2.heap.size := by omega); (try have q2_1_0 : w1.heap.size < w2.heap.size := by omega); (try have q2_1_1 : w1.heap.size + 1 < w2.heap.size := by omega)) | (go_at_call 24; (with_reducible refine (eqBand_same (discountL r) (discountH r) _).mono ?_); rintro e w3 ⟨rfl, hb3⟩; obtain ⟨hc3, hf3⟩ := bcell hb3; have hz3 := hb3.size; (try simp at hz3); (try have q3_0 : w.heap.size < w3.heap.size := by omega); (try have q3_1 : w.heap.size + 1 < w3.heap.size := by omega); (try have q3_2 : w.heap.size + 2 < w3.heap.size := by omega); (try have q3_3 : w.heap.size + 3 < w3.heap.size := by omega); (try have q3_4 : w.heap.size + 4 < w3.heap.size := by omega); (try have q3_1_0 : w1.heap.size < w3.heap.size := by omega); (try have q3_1_1 : w1.heap.size + 1 < w3.heap.size := by omega); (try have q3_2_0 : w2.heap.size < w3.heap.size := by omega); (try have q3_2_1 : w2.heap.size + 1 < w3.heap.size := by omega)))
  go_ret
  exact ⟨rfl, by (repeat (first | exact Below.refl _ _ | refine Below.drew ?_ | (refine Below.alloc ?_ ?hsz _; case hsz => ((try simp) <;> (try omega))) | (refine Below.setCell ?_ ?hsz _; case hsz => ((try simp) <;> (try omega))) | (refine below_step (by assumption) ?hsz ?_; case hsz => ((try simp) <;> (try omega)))))⟩
set_option maxRecDepth 100000 in
theorem fnExactDiscountBand_open {H : Type} {enc : TypeId × Value → H} (W : World) (base : Nat) (args : Array Value) (ds : List (DataW H)) (p : List MemPlace)
    (hval : ∀ (j : Nat) t v, Try.f11.params[j]? = some t → args[j]? = some v → Value.okWide Try.prog W .any base t v)
    (hA : DataW.TrodAll enc Try.prog W 0 (fun _ => true) true Try.f11.params.toList args.toList ds p) :
    Calls Try.prog 11 args W fun e W' => e = .returned (.bool true) ∧ Below W.heap.size W W' := by
  rw [Try.params11] at hA hval
  obtain ⟨v0, vs0, d0, ds0, p0, q0, hargs, rfl, rfl, h0, r0⟩ := trodAll_cons hA
  obtain ⟨rfl, rfl, rfl⟩ := trodAll_nil r0
  obtain rfl : args = #[v0] := by cases args; simp_all
  obtain ⟨r, rfl, rfl, rfl, wf0⟩ := open_int Try.underlying3 (hval 0 3 v0 rfl rfl) h0
  exact lawDiscountBand r W
theorem fnExactDiscountBand_lifted (os : Os) (started : os.Started) (H : Type) (enc : TypeId × Value → H) :
    ReturnsInHanded {} Try.checked os 11 .any (Rows.fnExactDiscountBandSpec.pre6 enc Try.prog Try.f11 Rows.fnExactDiscountBandRow.domain false) (Rows.fnExactDiscountBandSpec.post enc Try.prog Try.f11 false true false false) :=
  law_lifted (C := Try.checked) (s := Rows.fnExactDiscountBandSpec) (tb := 4) Tryown TrylaidOut (by kernel_rfl) Try.func11 rfl Try.underlying4 (by kernel_rfl) rfl (fun H ds h => match ds, h with | [d0], _ => rfl) os started H enc
    (ChangeSpec.witness6 (enc := enc) (C := Try.checked) false ⟨#[], #[.int .i64 0], []⟩ 8 (by kernel_rfl) (by kernel_rfl) (by kernel_rfl) (by kernel_rfl))
    (fun W base args ds p hval hA _ _ => fnExactDiscountBand_open W base args ds p hval hA)
theorem fnExactDiscountBand_holds : Rows.FnExactDiscountBandSaid :=
  OpenClaim.holds_of_wide 11 Try.f11 rfl rfl rfl rfl rfl rfl rfl ⟨rfl, rfl, rfl, rfl, rfl⟩ rfl rfl rfl rfl rfl (by kernel_rfl) Try.func11 (by kernel_rfl)
    (of_decide_eq_true (by kernel_rfl)) (by unfold Func.isWrapper; first | (rw [if_pos (by decide +kernel)]; kernel_rfl) | (rw [if_neg (by decide +kernel)]; exact ⟨rfl, rfl⟩))
    (fun os started H enc _ => fnExactDiscountBand_lifted os started H enc)
#print axioms fnExactDiscountBand_holds
end Go.Proofs.Ytnfnphhimbmghaa
