/- Contracts of the laws' helpers over slices of numbers: copy, compare, mark, held, size. -/
import Derived.Test.YtogoddbkamgndaaOwn
import Derived.Deep.OwnRows
import Derived.BigQuiet
import Derived.Outline
namespace Go.Proofs.Ytogoddbkamgndaa
open Go.RowKit

theorem Row.hid {w : World} {k : IntKind} {A : Option Addr} {n : Nat} {F : Nat → Int} (h : Row w k A n F) {i : Nat} (hi : i < n) : ∃ b off, A = some ⟨b, off, none⟩ ∧ b < w.heap.size ∧ w.cell? ⟨b, off + i, none⟩ = some (.int k (F i)) := by
  rcases h with h | ⟨b, off, e, hb, hc⟩
  · omega
  · exact ⟨b, off, e, hb, hc i hi⟩
theorem toIntS_any (A : Option Addr) (n cap : Nat) (F : Nat → Int) (w : World) (hn : n ≤ 1048576) (hr : Row w .i64 A n F) : Calls Try.prog 28 #[.slice A n cap] w (IntsQ n F w) := by
  have hmk := run_make_row' (P := Try.prog) 34 3 (.int .i64 0) 8 Try.underlying34 int_inf rfl .i64 .i64 n (by omega) (by omega)
  have HR := Lib.hid hr
  clear hr
  go_enter Try.func28, Try.ntmps28
  go_wp2_with fail
  clear hmk
  go_loopw [4] (fun i wr => ∃ (k : Nat) (cs : Array Value), k ≤ n ∧ i = .int .i64 k ∧ Below w.heap.size w wr ∧ Box wr w.heap.size 3 cs ∧ cs.size = n ∧ Hid (∀ j, j < k → cs[j]? = some (.int .i64 (F j)))) (fun i _ => n - (intOf i).toNat)
  case atStart => exact ⟨0, _, Nat.zero_le _, rfl, (Below.refl _ _).alloc (Nat.le_refl _) _, Box.made _ _ _, size_madeCells _ _, fun j hj => by omega⟩
  case round =>
    obtain ⟨k, cs, hk, rfl, hbw, y1, hcs, hF⟩ := hrel
    by_cases hlt : k < n
    · obtain ⟨b, off, rfl, hb, hck⟩ := HR.out.hid hlt
      have hck' : wr.cell? ⟨b, off + k, none⟩ = some (.int .i64 (F k)) := (hbw.cell (p := ⟨b, off + k, none⟩) hb).trans hck
      obtain ⟨old, hold'⟩ : ∃ old, wr.cell? ⟨w.heap.size, k, none⟩ = some old := ⟨cs[k]'(by omega), by rw [y1.cell k]; simp [hcs, hlt]⟩
      have hfz := y1.frozen k
      have HS := Lib.hid hcs
      have HB := Lib.hid hb
      clear hck hcs hb
      go_wp2
      go_roundw
      case rel => exact ⟨k + 1, cs.setIfInBounds k (.int .i64 (F k)), by omega, by go_num, hbw.setCell (Nat.le_refl _) _, y1.put k _, by simp [HS.out], fun j hj => by
        have := HS.out
        rcases Nat.lt_or_ge j k with h | h
        · rw [Array.getElem?_setIfInBounds_ne (by omega)]; exact hF.out j h
        · obtain rfl : j = k := by omega
          simp [this, hlt]⟩
      case measure => simp [intOf]; omega
    · obtain rfl : k = n := by omega
      have HS := Lib.hid hcs
      clear hcs
      go_wp2
      go_ret
      refine ⟨_, rfl, ⟨by simp [ints_length], .inr ⟨w.heap.size, k, cs, rfl, Nat.le_refl _, y1, Nat.le_refl _, by unfold maxLen; omega, by simp [HS.out], ?_⟩⟩, hbw⟩
      have := HS.out
      apply List.ext_getElem?
      intro i
      by_cases hi : i < k
      · rw [ints_get F hi, Nat.mul_one, List.getElem?_take_of_lt hi]
        simpa using hF.out i hi
      · rw [List.getElem?_eq_none (by simp [this]; omega), List.getElem?_eq_none (by simp [ints_length]; omega)]
theorem eqIntS_same (A B : Option Addr) (n c1 c2 : Nat) (F G : Nat → Int) (w : World) (hn : n ≤ 1152921504606846975) (hr : Row w .i64 A n F) (hs : Row w .i64 B n G) (hFG : ∀ i, i < n → F i = G i) :
    Calls Try.prog 30 #[.slice A n c1, .slice B n c2] w fun e w' => e = .returned (.bool true) ∧ Below w.heap.size w w' := by
  have HR := Lib.hid hr
  have HS := Lib.hid hs
  have HF := Lib.hid hFG
  clear hr hs hFG
  go_enter Try.func30, Try.ntmps30
  go_wp2_with fail
  go_loopw [5] (fun i wr => ∃ k : Nat, k ≤ n ∧ i = .int .i64 k ∧ Below w.heap.size w wr) (fun i _ => n - (intOf i).toNat)
  case atStart => exact ⟨0, Nat.zero_le _, rfl, Below.refl _ _⟩
  case round =>
    obtain ⟨k, hk, rfl, hbw⟩ := hrel
    by_cases hlt : k < n
    · obtain ⟨b, off, rfl, hb, hck⟩ := HR.out.hid hlt
      obtain ⟨b', off', rfl, hb', hck'⟩ := HS.out.hid hlt
      have h1 : wr.cell? ⟨b, off + k, none⟩ = some (.int .i64 (F k)) := (hbw.cell (p := ⟨b, off + k, none⟩) hb).trans hck
      have h2 : wr.cell? ⟨b', off' + k, none⟩ = some (.int .i64 (F k)) := by rw [HF.out k hlt]; exact (hbw.cell (p := ⟨b', off' + k, none⟩) hb').trans hck'
      have hki : (k : Int) < (n : Int) := by omega
      have hk0 : (0 : Int) ≤ (k : Int) := by omega
      clear hck hck' hb hb'
      go_wp2_with fail
      go_quiet (fail)
      go_wp2
      go_roundw
      case rel => exact ⟨k + 1, by omega, by go_num, below_drewN hbw _⟩
      case measure => simp [intOf]; omega
    · obtain rfl : k = n := by omega
      go_wp2
      go_ret
      exact ⟨rfl, hbw⟩
theorem heldIntS_any (A : Option Addr) (n cap : Nat) (q : Int) (w : World) (hn : n ≤ 1048576) (q0 : 0 ≤ q) (q1 : q ≤ 1000000000) (hr : Row w .i64 A n (fun i => q + i)) :
    Calls Try.prog 32 #[.slice A n cap, .int .i64 q] w fun e w' => e = .returned (.int .i64 (q + n)) ∧ Below w.heap.size w w' := by
  have HR := Lib.hid hr
  clear hr
  go_enter Try.func32, Try.ntmps32
  go_wp2_with fail
  go_loopw [1, 5] (fun x i wr => ∃ k : Nat, k ≤ n ∧ i = .int .i64 k ∧ x = .int .i64 (q + k) ∧ Below w.heap.size w wr) (fun _ i _ => n - (intOf i).toNat)
  case atStart => exact ⟨0, Nat.zero_le _, rfl, by simp, Below.refl _ _⟩
  case round =>
    obtain ⟨k, hk, rfl, rfl, hbw⟩ := hrel
    by_cases hlt : k < n
    · obtain ⟨b, off, rfl, hb, hck⟩ := HR.out.hid hlt
      have h1 : wr.cell? ⟨b, off + k, none⟩ = some (.int .i64 (q + k)) := (hbw.cell (p := ⟨b, off + k, none⟩) hb).trans hck
      clear hck hb
      go_wp2
      go_roundw
      case rel => exact ⟨k + 1, by omega, by go_num, by go_num, hbw⟩
      case measure => simp [intOf]; omega
    · obtain rfl : k = n := by omega
      go_wp2
      go_ret
      exact ⟨rfl, hbw⟩
end Go.Proofs.Ytogoddbkamgndaa
