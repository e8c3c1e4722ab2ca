/- Contracts of the reference's l10Rule (a copy of a rule). -/
import Derived.Deep.DeepCutAuto
import Derived.Test.YtgfcmeiffhffaaaJRecMore
import Derived.Test.YtgfcmeiffhffaaaJRecApp
import Derived.Test.YtgfcmeiffhffaaaJRecNode
namespace Go.Proofs.Ytgfcmeiffhffaaa
open Go.RowKit

/-- A rule comes back, its nodes in a row of their own. -/
def RuleCQ (r0 r1 r2 r3 r4 r5 : Int) (n : Nat) (F : Nat → Nat → Int) (w : World) (e : Ending) (w' : World) : Prop :=
  ∃ (A : Option Addr) (c : Nat), e = .returned (.agg #[.int .i64 r0, .int .i64 r1, .int .i64 r2, .int .i64 r3, .int .i64 r4, .int .i64 r5, .slice A n c]) ∧ w'.ownsRow w.heap.size 175 6 (.slice A n c) n (recs F 6 n) ∧ Below w.heap.size w w'
set_option maxRecDepth 100000 in
set_option maxHeartbeats 8000000 in
theorem ruleCopy_any (r0 r1 r2 r3 r4 r5 : Int) (NA : Option Addr) (n c : Nat) (F : Nat → Nat → Int) (w : World) (hn : n ≤ 1048576) (hA : AnyA NA c) (hr : Recs w 6 NA n F) :
    Calls Try.prog 111 #[.agg #[.int .i64 r0, .int .i64 r1, .int .i64 r2, .int .i64 r3, .int .i64 r4, .int .i64 r5, .slice NA n c]] w (RuleCQ r0 r1 r2 r3 r4 r5 n F w) := by
  have HA := Lib.hid hA
  have B2 := Lib.hid (((Below.refl w.heap.size w).alloc (Nat.le_refl _) (.cells #[.int .i64 r0, .int .i64 r1, .int .i64 r2, .int .i64 r3, .int .i64 r4, .int .i64 r5, .slice NA n c] 119)).alloc (by simp) (.cells #[.int .i64 0, .int .i64 0, .int .i64 0, .int .i64 0, .int .i64 0, .int .i64 0, .slice none 0 0] 119))
  have X0 := Lib.hid ((Box.made w 119 #[.int .i64 r0, .int .i64 r1, .int .i64 r2, .int .i64 r3, .int .i64 r4, .int .i64 r5, .slice NA n c]).alloc (.cells #[.int .i64 0, .int .i64 0, .int .i64 0, .int .i64 0, .int .i64 0, .int .i64 0, .slice none 0 0] 119))
  have X1 := Lib.hid (Box.made_at (w := w.alloc (.cells #[.int .i64 r0, .int .i64 r1, .int .i64 r2, .int .i64 r3, .int .i64 r4, .int .i64 r5, .slice NA n c] 119)) (t := 119) (cs := #[.int .i64 0, .int .i64 0, .int .i64 0, .int .i64 0, .int .i64 0, .int .i64 0, .slice none 0 0]) (g := w.heap.size + 1) (by simp))
  have HR := Lib.hid (hr.kept B2.out)
  have z2 : ((w.alloc (.cells #[.int .i64 r0, .int .i64 r1, .int .i64 r2, .int .i64 r3, .int .i64 r4, .int .i64 r5, .slice NA n c] 119)).alloc (.cells #[.int .i64 0, .int .i64 0, .int .i64 0, .int .i64 0, .int .i64 0, .int .i64 0, .slice none 0 0] 119)).heap.size = w.heap.size + 2 := by simp
  clear hr hA
  have e0 := own_rec_empty ((w.alloc (.cells #[.int .i64 r0, .int .i64 r1, .int .i64 r2, .int .i64 r3, .int .i64 r4, .int .i64 r5, .slice NA n c] 119)).alloc (.cells #[.int .i64 0, .int .i64 0, .int .i64 0, .int .i64 0, .int .i64 0, .int .i64 0, .slice none 0 0] 119)) (w.heap.size + 2) 175 6 (fun _ _ => 0) (by omega)
  rw [z2] at e0
  have E0 := Lib.hid e0
  clear e0
  have HR2 := Lib.hid (HR.out.alloc (.cells #[] 175))
  have X02 := Lib.hid (X0.out.alloc (.cells #[] 175))
  have X12 := Lib.hid (X1.out.alloc (.cells #[] 175))
  have B3 := Lib.hid (B2.out.alloc (by omega) (.cells #[] 175))
  have z3 : (((w.alloc (.cells #[.int .i64 r0, .int .i64 r1, .int .i64 r2, .int .i64 r3, .int .i64 r4, .int .i64 r5, .slice NA n c] 119)).alloc (.cells #[.int .i64 0, .int .i64 0, .int .i64 0, .int .i64 0, .int .i64 0, .int .i64 0, .slice none 0 0] 119)).alloc (.cells #[] 175)).heap.size = w.heap.size + 3 := by simp
  clear B2 X0 X1 HR
  go_enter Try.func111, Try.ntmps111
  go_wp2_with (at_builtin; refine wpList_app_recs rfl (.tmp 3) (.tmp 5) 117 (by rfl) (w.heap.size + 2) 175 (.agg #[.int .i64 0, .int .i64 0, .int .i64 0, .int .i64 0, .int .i64 0, .int .i64 0]) 6 48 Try.underlying117 infNode rfl (by decide) (by decide) _ 0 (fun _ _ => 0) E0.out NA n c F HA.out HR2.out (by omega) (by omega) rfl rfl ?_)
  intro v7 w7 o7 hg7
  rw [catF_zero] at o7
  obtain ⟨A7, c7, rfl, _, _⟩ := own_recs o7
  have lo := own_lo E0.out
  have y0 := X02.out.grown hg7 (box_apart_lt (by omega) lo)
  have y1 := X12.out.grown hg7 (box_apart_lt (by omega) lo)
  have B7 := below_grown B3.out hg7 (by omega) (fun b hb => by have := lo b hb; omega)
  have c60 := y0.cell 6
  have f60 := y0.frozen 6
  have l0 := y0.lt
  have l1 := y1.lt
  simp at c60
  have s7 := grown_set (grown_refl w7 (some w.heap.size)) 6 (.slice A7 n c7)
  have r7 : Box (w7.setCell ⟨w.heap.size, 6, none⟩ (.slice A7 n c7)) w.heap.size 119 #[.int .i64 r0, .int .i64 r1, .int .i64 r2, .int .i64 r3, .int .i64 r4, .int .i64 r5, .slice A7 n c7] := by simpa using y0.put 6 (.slice A7 n c7)
  have q1 := y1.grown s7 (fun e => by have := Option.some.inj e; omega)
  have B8 := Lib.hid (B7.setCell (p := ⟨w.heap.size, 6, none⟩) (Nat.le_refl _) (.slice A7 n c7))
  have O8 := Lib.hid (o7.kept s7 (.inr (fun e => by have := own_lo o7 _ e; omega)))
  clear o7 hg7 y0 y1 B7 s7 HA HR2 X02 X12 B3 E0 lo
  go_upto_region 2 with fail
  generalize w7.setCell ⟨w.heap.size, 6, none⟩ (.slice A7 n c7) = W8 at *
  obtain ⟨t0, t1, t2, t3, t4, t5, t6⟩ := (show _ ∧ _ ∧ _ ∧ _ ∧ _ ∧ _ ∧ _ from ⟨r7.cell 0, r7.cell 1, r7.cell 2, r7.cell 3, r7.cell 4, r7.cell 5, r7.cell 6⟩)
  obtain ⟨s0, s1, s2, s3, s4, s5, s6⟩ := (show _ ∧ _ ∧ _ ∧ _ ∧ _ ∧ _ ∧ _ from ⟨q1.cell 0, q1.cell 1, q1.cell 2, q1.cell 3, q1.cell 4, q1.cell 5, q1.cell 6⟩)
  obtain ⟨g0, g1, g2, g3, g4, g5, g6⟩ := (show _ ∧ _ ∧ _ ∧ _ ∧ _ ∧ _ ∧ _ from ⟨q1.frozen 0, q1.frozen 1, q1.frozen 2, q1.frozen 3, q1.frozen 4, q1.frozen 5, q1.frozen 6⟩)
  simp at t0 t1 t2 t3 t4 t5 t6 s0 s1 s2 s3 s4 s5 s6
  have lq := q1.lt
  have lr := r7.lt
  have HG := Lib.hid (grown_set (grown_set (grown_set (grown_set (grown_set (grown_set (grown_set (grown_refl W8 (some (w.heap.size + 1))) 0 (.int .i64 r0)) 1 (.int .i64 r1)) 2 (.int .i64 r2)) 3 (.int .i64 r3)) 4 (.int .i64 r4)) 5 (.int .i64 r5)) 6 (.slice A7 n c7))
  have HO9 := Lib.hid (own_mono (B' := w.heap.size) (O8.out.kept HG.out (.inr (fun e => by have := own_lo O8.out _ e; omega))) (by omega))
  have HB9 := Lib.hid (B8.out.grown HG.out (by omega) (fun b hb => by cases hb; omega))
  clear r7 q1 O8 B8 HG c60 f60
  go_wp2
  exact bodyPost_ret (v := .agg #[.int .i64 r0, .int .i64 r1, .int .i64 r2, .int .i64 r3, .int .i64 r4, .int .i64 r5, .slice A7 n c7]) (by simp [results, Try.results111, go_sem, *]) rfl ⟨A7, c7, rfl, HO9.out, HB9.out⟩
end Go.Proofs.Ytgfcmeiffhffaaa
