/- Contracts of the reference's drawn facts. -/
import Derived.Test.YtgfcmeiffhffaaaJStore
import Derived.Test.YtgfcmeiffhffaaaJRecApp
import Derived.Test.YtgfcmeiffhffaaaJCur
import Derived.Test.YtgfcmeiffhffaaaJRecFact
namespace Go.Proofs.Ytgfcmeiffhffaaa
open Go.RowKit

theorem grown_moreC {w a b : World} {row row2 : Option Nat} (h : w.grownBy a row) (k : a.grownBy b row2) (hk : ∀ i, row2 = some i → w.heap.size ≤ i) : w.grownBy b row :=
  ⟨k.os.trans h.os, k.tape.trans h.tape, k.output.trans h.output, Nat.le_trans h.size k.size, fun i hi hne => (k.block i (Nat.lt_of_lt_of_le hi h.size) (fun e => by have := hk i e.symm; omega)).trans (h.block i hi hne)⟩
theorem fact_ok {a k d kn v : Int} (a0 : 0 ≤ a) (a1 : a ≤ 59) (kk0 : 0 ≤ k) (kk1 : k ≤ 3) (d0 : 0 ≤ d) (d1 : d ≤ 39) (k0 : 0 ≤ kn) (k1 : kn ≤ 3599) (v0 : 0 ≤ v) (v1 : v ≤ 499) : factB (1 + k) a (a + 1 + d) kn (v * 100) = true := by
  have e1 : inB (1 + k) 1 50 = true := inB_true.2 ⟨by omega, by omega⟩
  have e2 : spanB a (a + 1 + d) = true := spanB_true.2 ⟨by omega, by omega, by omega⟩
  have e3 : inB kn 0 3599 = true := inB_true.2 ⟨k0, k1⟩
  have e4 : inB (v * 100) (-1000000000) 1000000000 = true := inB_true.2 ⟨by omega, by omega⟩
  simp only [factB, e1, e2, e3, e4, Bool.and_self]
/-- A drawn fact: a right one, known in month kn. -/
def FactQ (B g : Nat) (kn : Int) (w : World) (e : Ending) (w' : World) : Prop :=
  ∃ f0 f1 f2 f4 : Int, e = .returned (.agg #[.int .i64 f0, .int .i64 f1, .int .i64 f2, .int .i64 kn, .int .i64 f4]) ∧ factB f0 f1 f2 kn f4 = true ∧ w.grownBy w' (some g) ∧ CurOk B w' g
set_option maxRecDepth 100000 in
set_option maxHeartbeats 4000000 in
theorem fact_draw (B g : Nat) (kn : Int) (w : World) (k0 : 0 ≤ kn) (k1 : kn ≤ 3599) (hc : CurOk B w g) : Calls Try.prog 107 #[.pointer (some ⟨g, 0, none⟩), .int .i64 kn] w (FactQ B g kn w) := by
  have gl := hc.lt
  have HC := Lib.hid (hc.alloc (.cells #[.int .i64 0, .int .i64 0, .int .i64 0, .int .i64 0, .int .i64 0] 124))
  have X0 := Lib.hid (Box.made w 124 #[.int .i64 0, .int .i64 0, .int .i64 0, .int .i64 0, .int .i64 0])
  have G0 := Lib.hid (grown_of_below ((Below.refl w.heap.size w).alloc (Nat.le_refl _) (.cells #[.int .i64 0, .int .i64 0, .int .i64 0, .int .i64 0, .int .i64 0] 124)) (some g))
  have gne : w.heap.size ≠ g := by omega
  clear hc
  go_enter Try.func107, Try.ntmps107
  go_wp2_with fail
  with_reducible refine (below_draw B g 60 _ (by omega) (by omega) HC.out).mono ?_
  rintro e w1 ⟨a, a0, a1, rfl, hg1, hc1⟩
  have X1 := Lib.hid (X0.out.grown hg1 (fun e => gne (Option.some.inj e)))
  have G1 := Lib.hid (grown_trans G0.out hg1)
  have C1 := Lib.hid hc1
  clear hg1 hc1 HC X0 G0
  go_wp2_with fail
  with_reducible refine (below_draw B g 4 _ (by omega) (by omega) C1.out).mono ?_
  rintro e w2 ⟨k, kk0, kk1, rfl, hg2, hc2⟩
  have X2 := Lib.hid (X1.out.grown hg2 (fun e => gne (Option.some.inj e)))
  have G2 := Lib.hid (grown_trans G1.out hg2)
  have C2 := Lib.hid hc2
  clear hg2 hc2 C1 X1 G1
  go_wp2_with fail
  with_reducible refine (below_draw B g 40 _ (by omega) (by omega) C2.out).mono ?_
  rintro e w3 ⟨d, d0, d1, rfl, hg3, hc3⟩
  have X3 := Lib.hid (X2.out.grown hg3 (fun e => gne (Option.some.inj e)))
  have G3 := Lib.hid (grown_trans G2.out hg3)
  have C3 := Lib.hid hc3
  clear hg3 hc3 C2 X2 G2
  go_wp2_with fail
  with_reducible refine (below_draw B g 500 _ (by omega) (by omega) C3.out).mono ?_
  rintro e w4 ⟨v, v0, v1, rfl, hg4, hc4⟩
  have x4 := X3.out.grown hg4 (fun e => gne (Option.some.inj e))
  have G4 := Lib.hid (grown_trans G3.out hg4)
  have C4 := Lib.hid hc4
  clear hg4 hc4 C3 X3 G3
  have c0 := x4.cell 0
  have c1 := x4.cell 1
  have c2 := x4.cell 2
  have c3 := x4.cell 3
  have c4 := x4.cell 4
  have f0 := x4.frozen 0
  have f1 := x4.frozen 1
  have f2 := x4.frozen 2
  have f3 := x4.frozen 3
  have f4 := x4.frozen 4
  have l4 := x4.lt
  simp at c0 c1 c2 c3 c4
  have blo : B ≤ g := C4.out.low
  have HG := Lib.hid (grown_set (grown_set (grown_set (grown_set (grown_set (grown_refl w4 (some w.heap.size)) 0 (.int .i64 (1 + k))) 1 (.int .i64 a)) 2 (.int .i64 (a + 1 + d))) 3 (.int .i64 kn)) 4 (.int .i64 (v * 100)))
  have HG5 := Lib.hid (grown_moreC G4.out HG.out (fun i e => by cases e; exact Nat.le_refl _))
  have HC5 := Lib.hid (C4.out.grown HG.out (fun i e => by cases e; exact ⟨by omega, gne⟩))
  have HF := Lib.hid (fact_ok (kn := kn) a0 (by omega) kk0 (by omega) d0 (by omega) k0 k1 v0 (show v ≤ 499 by omega))
  clear x4 G4 C4 HG
  go_wp2
  exact bodyPost_ret (v := .agg #[.int .i64 (1 + k), .int .i64 a, .int .i64 (a + 1 + d), .int .i64 kn, .int .i64 (v * 100)]) (by simp [results, Try.results107, go_sem, *]) rfl ⟨_, _, _, _, rfl, HF.out, HG5.out, HC5.out⟩
end Go.Proofs.Ytgfcmeiffhffaaa
