/- Contracts of the range tests over rows. -/
import Derived.Outline
import Derived.Test.YtgfcmeiffhffaaaJRow
import Derived.Test.YtgfcmeiffhffaaaJFind
namespace Go.Proofs.Ytgfcmeiffhffaaa
open Go.RowKit

theorem allWithin1_any (x lo hi : Int) (b1 b2 : Nat) (w : World) (h1 : w.cell? ⟨b1, 0, none⟩ = some (.int .i64 lo)) (h2 : w.cell? ⟨b2, 0, none⟩ = some (.int .i64 hi)) :
    Calls Try.prog 145 #[.int .i64 x, .pointer (some ⟨b1, 0, none⟩), .pointer (some ⟨b2, 0, none⟩)] w fun e w' => e = .returned (.bool (!inB x lo hi)) ∧ w = w' := by
  go_enter Try.func145, Try.ntmps145
  go_wp2_with (go_at_call 59; (with_reducible refine (within_any x lo hi _).mono ?_); rintro e w' ⟨rfl, rfl⟩)
  go_ret
  exact ⟨rfl, rfl⟩
theorem indexWithin_any (A : Option Addr) (n cap : Nat) (F : Nat → Int) (lo hi : Int) (b1 b2 : Nat) (w : World) (hn : n ≤ 1152921504606846975) (hr : Row w .i64 A n F) (h1 : w.cell? ⟨b1, 0, none⟩ = some (.int .i64 lo)) (h2 : w.cell? ⟨b2, 0, none⟩ = some (.int .i64 hi)) :
    Calls Try.prog 153 #[.slice A n cap, .func (.func 145) #[] #[.pointer (some ⟨b1, 0, none⟩), .pointer (some ⟨b2, 0, none⟩)]] w fun e w' => e = .returned (.int .i64 (findI (fun i => !inB (F i) lo hi) n)) ∧ w = w' := by
  have hr' : n = 0 ∨ ∃ b off, A = some ⟨b, off, none⟩ ∧ ∀ i, i < n → w.cell? ⟨b, off + i, none⟩ = some (.int .i64 (F i)) := by
    rcases hr with h | ⟨b, off, e, _, hc⟩
    · exact .inl h
    · exact .inr ⟨b, off, e, hc⟩
  have HR := Lib.hid hr'
  clear hr hr'
  go_enter Try.func153, Try.ntmps153
  go_wp2_with fail
  go_loop [8] (fun i => ∃ k : Nat, k ≤ n ∧ i = .int .i64 k ∧ Hid (∀ j, j < k → (!inB (F j) lo hi) = false)) (fun i => n - (intOf i).toNat)
  case atStart => exact ⟨0, Nat.zero_le _, rfl, fun j hj => by omega⟩
  case round =>
    obtain ⟨k, hk, rfl, hf⟩ := hrel
    by_cases hlt : k < n
    · rcases HR.out with h | ⟨b, off, rfl, hc⟩
      · omega
      · have hck := hc k hlt
        clear hc
        rcases Bool.eq_false_or_eq_true (inB (F k) lo hi) with hp | hp
        · go_wp2_with (go_at_call 145; (with_reducible refine (allWithin1_any (F k) lo hi b1 b2 _ h1 h2).mono ?_); rintro e w' ⟨rfl, rfl⟩)
          go_round
          case rel => exact ⟨k + 1, by omega, by go_num, fun j hj => by
            rcases Nat.lt_or_ge j k with h | h
            · exact hf.out j h
            · obtain rfl : j = k := by omega
              rw [hp]; rfl⟩
          case measure => simp [intOf]; omega
        · go_wp2_with (go_at_call 145; (with_reducible refine (allWithin1_any (F k) lo hi b1 b2 _ h1 h2).mono ?_); rintro e w' ⟨rfl, rfl⟩)
          go_ret
          exact ⟨ret_int (findI_hit hf.out hlt (by simp [hp])).symm, rfl⟩
    · obtain rfl : k = n := by omega
      go_wp2
      go_ret
      exact ⟨ret_int (findI_none hf.out).symm, rfl⟩
theorem containsWithin_any (A : Option Addr) (n cap : Nat) (F : Nat → Int) (lo hi : Int) (b1 b2 : Nat) (w : World) (hn : n ≤ 1152921504606846975) (hr : Row w .i64 A n F) (h1 : w.cell? ⟨b1, 0, none⟩ = some (.int .i64 lo)) (h2 : w.cell? ⟨b2, 0, none⟩ = some (.int .i64 hi)) :
    Calls Try.prog 144 #[.slice A n cap, .func (.func 145) #[] #[.pointer (some ⟨b1, 0, none⟩), .pointer (some ⟨b2, 0, none⟩)]] w fun e w' => e = .returned (.bool (!allB (fun i => inB (F i) lo hi) n)) ∧ w = w' := by
  have hb : (decide (0 ≤ findI (fun i => !inB (F i) lo hi) n)) = !allB (fun i => inB (F i) lo hi) n := by
    rcases findI_cases (fun i => !inB (F i) lo hi) n with ⟨e, h⟩ | ⟨k, e, hk, hp, _⟩
    · have : allB (fun i => inB (F i) lo hi) n = true := allB_iff.2 fun i hi => by simpa using h i hi
      rw [e, this]; rfl
    · have : allB (fun i => inB (F i) lo hi) n = false := allB_false hk (by simpa using hp)
      rw [e, this]; simp
  have HB := Lib.hid hb
  clear hb
  have hr' := Lib.hid hr
  clear hr
  go_enter Try.func144, Try.ntmps144
  go_wp2_with (go_at_call 153; (with_reducible refine (indexWithin_any A n cap F lo hi b1 b2 _ hn hr'.out h1 h2).mono ?_); rintro e w' ⟨rfl, rfl⟩)
  go_ret
  exact ⟨ret_bool HB.out, rfl⟩
theorem allWithin_any (A : Option Addr) (n cap : Nat) (F : Nat → Int) (lo hi : Int) (w : World) (hn : n ≤ 1152921504606846975) (hr : Row w .i64 A n F) :
    Calls Try.prog 133 #[.slice A n cap, .int .i64 lo, .int .i64 hi] w fun e w' => e = .returned (.bool (allB (fun i => inB (F i) lo hi) n)) ∧ Below w.heap.size w w' := by
  have hr' := Lib.hid ((hr.alloc (.cells #[.int .i64 lo] 3)).alloc (.cells #[.int .i64 hi] 3))
  clear hr
  go_enter Try.func133, Try.ntmps133
  go_wp2_with (go_at_call 144; (with_reducible refine (containsWithin_any A n cap F lo hi w.heap.size (w.heap.size + 1) _ hn hr'.out (by simp [go_sem]) (by simp [go_sem])).mono ?_); rintro e w' ⟨rfl, rfl⟩)
  go_ret
  exact ⟨ret_bool (by simp), by (repeat (first | with_reducible exact Below.refl _ _ | with_reducible refine Below.drew ?_ | (with_reducible refine Below.alloc ?_ ?hsz _; case hsz => ((try simp) <;> (try omega))) | (with_reducible refine Below.setCell ?_ ?hsz _; case hsz => ((try simp) <;> (try omega))) | (with_reducible refine below_step (by with_reducible assumption) ?hsz ?_; case hsz => ((try simp) <;> (try omega)))))⟩
end Go.Proofs.Ytgfcmeiffhffaaa
