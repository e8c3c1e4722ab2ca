/- Contract of the reference's FracNew at small numbers, as far as the drawn rules want it. -/
import Derived.Outline
import Derived.Test.YtgfcmeiffhffaaaJFracI
namespace Go.Proofs.Ytgfcmeiffhffaaa
open Go.RowKit

set_option maxRecDepth 100000 in
set_option maxHeartbeats 4000000 in
theorem sfracNew_any (a b : Nat) (ha : a ≤ 1000000) (hb : b ≤ 1000000) (hb1 : 1 ≤ b) (w : World) : Calls Try.prog 112 #[.int .i64 a, .int .i64 b] w fun e w' => ∃ (p q : Int) (ok : Bool), e = .returned (.tuple #[.agg #[.int .i64 p, .int .i64 q], .bool ok]) ∧ Below w.heap.size w w' := by
  have e0 : ((b : Int) == 0) = false := by simp; omega
  have i1 : inB (a : Int) (-1000000000000) 1000000000000 = true := inB_true.2 ⟨by omega, by omega⟩
  have i2 : inB (b : Int) (-1000000000000) 1000000000000 = true := inB_true.2 ⟨by omega, by omega⟩
  have X0 := Lib.hid (Box.made w 144 #[.int .i64 0, .int .i64 0])
  have hm := smake_any a b (by omega) (by omega) hb1
  unfold FracQ at hm
  generalize ((if redB a b = true then redN a b else 0 : Nat) : Int) = p at hm
  generalize ((if redB a b = true then redD a b else 0 : Nat) : Int) = q at hm
  generalize redB a b = ok at hm
  have HM := Lib.hid hm
  clear hm
  go_enter Try.func112, Try.ntmps112
  go_wp2_with (first | (go_at_call 55; (with_reducible refine (l01In_any a (-1000000000000) 1000000000000 _).mono ?_); rintro e w' ⟨rfl, rfl⟩) | (go_at_call 55; (with_reducible refine (l01In_any b (-1000000000000) 1000000000000 _).mono ?_); rintro e w' ⟨rfl, rfl⟩) | (go_at_call 130; (with_reducible refine (HM.out _).mono ?_); rintro e w1 ⟨rfl, hb2⟩; have x1 := X0.out.kept hb2; obtain ⟨c0, c1, f0, f1⟩ := x1.two; have l1 := x1.lt; have B1 := Lib.hid (((Below.refl w.heap.size w).alloc (Nat.le_refl _) (.cells #[.int .i64 0, .int .i64 0] 144)).trans (hb2.mono (by simp))); clear x1 hb2))
  exact bodyPost_ret (v := .tuple #[.agg #[.int .i64 p, .int .i64 q], .bool ok]) (by simp [results, Try.results112, go_sem, *]) rfl ⟨p, q, ok, rfl, by have hbw := B1.out; (repeat (first | with_reducible exact Below.refl _ _ | with_reducible refine Below.drew ?_ | (with_reducible refine Below.alloc ?_ ?hsz _; case hsz => ((try simp) <;> (try omega))) | (with_reducible refine Below.setCell ?_ ?hsz _; case hsz => ((try simp) <;> (try omega))) | (with_reducible refine below_step (by with_reducible assumption) ?hsz ?_; case hsz => ((try simp) <;> (try omega)))))⟩
end Go.Proofs.Ytgfcmeiffhffaaa
