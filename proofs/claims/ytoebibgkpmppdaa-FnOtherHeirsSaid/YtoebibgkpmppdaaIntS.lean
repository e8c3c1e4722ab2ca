/- Contracts of the laws' helpers over slices of numbers: copy, compare, mark, held, size. -/
import Derived.Test.YtoebibgkpmppdaaOwn
import Derived.Deep.OwnRows
import Derived.BigQuiet
import Derived.Outline
namespace Go.Proofs.Ytoebibgkpmppdaa
open Go.RowKit

theorem Row.hid {w : World} {k : IntKind} {A : Option Addr} {n : Nat} {F : Nat → Int} (h : Row w k A n F) {i : Nat} (hi : i < n) : ∃ b off, A = some ⟨b, off, none⟩ ∧ b < w.heap.size ∧ w.cell? ⟨b, off + i, none⟩ = some (.int k (F i)) := by
  rcases h with h | ⟨b, off, e, hb, hc⟩
  · omega
  · exact ⟨b, off, e, hb, hc i hi⟩
theorem eqIntS_same (A B : Option Addr) (n c1 c2 : Nat) (F G : Nat → Int) (w : World) (hn : n ≤ 1152921504606846975) (hr : Row w .i64 A n F) (hs : Row w .i64 B n G) (hFG : ∀ i, i < n → F i = G i) :
    Calls Try.prog 18 #[.slice A n c1, .slice B n c2] w fun e w' => e = .returned (.bool true) ∧ Below w.heap.size w w' := by
  have HR := Lib.hid hr
  have HS := Lib.hid hs
  have HF := Lib.hid hFG
  clear hr hs hFG
  go_enter Try.func18, Try.ntmps18
  go_wp2_with fail
  go_loopw [5] (fun i wr => ∃ k : Nat, k ≤ n ∧ i = .int .i64 k ∧ Below w.heap.size w wr) (fun i _ => n - (intOf i).toNat)
  case atStart => exact ⟨0, Nat.zero_le _, rfl, Below.refl _ _⟩
  case round =>
    obtain ⟨k, hk, rfl, hbw⟩ := hrel
    by_cases hlt : k < n
    · obtain ⟨b, off, rfl, hb, hck⟩ := HR.out.hid hlt
      obtain ⟨b', off', rfl, hb', hck'⟩ := HS.out.hid hlt
      have h1 : wr.cell? ⟨b, off + k, none⟩ = some (.int .i64 (F k)) := (hbw.cell (p := ⟨b, off + k, none⟩) hb).trans hck
      have h2 : wr.cell? ⟨b', off' + k, none⟩ = some (.int .i64 (F k)) := by rw [HF.out k hlt]; exact (hbw.cell (p := ⟨b', off' + k, none⟩) hb').trans hck'
      have hki : (k : Int) < (n : Int) := by omega
      have hk0 : (0 : Int) ≤ (k : Int) := by omega
      clear hck hck' hb hb'
      go_wp2_with fail
      go_quiet (fail)
      go_wp2
      go_roundw
      case rel => exact ⟨k + 1, by omega, by go_num, below_drewN hbw _⟩
      case measure => simp [intOf]; omega
    · obtain rfl : k = n := by omega
      go_wp2
      go_ret
      exact ⟨rfl, hbw⟩
theorem heldIntS_any (A : Option Addr) (n cap : Nat) (q : Int) (w : World) (hn : n ≤ 1048576) (q0 : 0 ≤ q) (q1 : q ≤ 1000000000) (hr : Row w .i64 A n (fun i => q + i)) :
    Calls Try.prog 21 #[.slice A n cap, .int .i64 q] w fun e w' => e = .returned (.int .i64 (q + n)) ∧ Below w.heap.size w w' := by
  have HR := Lib.hid hr
  clear hr
  go_enter Try.func21, Try.ntmps21
  go_wp2_with fail
  go_loopw [1, 5] (fun x i wr => ∃ k : Nat, k ≤ n ∧ i = .int .i64 k ∧ x = .int .i64 (q + k) ∧ Below w.heap.size w wr) (fun _ i _ => n - (intOf i).toNat)
  case atStart => exact ⟨0, Nat.zero_le _, rfl, by simp, Below.refl _ _⟩
  case round =>
    obtain ⟨k, hk, rfl, rfl, hbw⟩ := hrel
    by_cases hlt : k < n
    · obtain ⟨b, off, rfl, hb, hck⟩ := HR.out.hid hlt
      have h1 : wr.cell? ⟨b, off + k, none⟩ = some (.int .i64 (q + k)) := (hbw.cell (p := ⟨b, off + k, none⟩) hb).trans hck
      clear hck hb
      go_wp2
      go_roundw
      case rel => exact ⟨k + 1, by omega, by go_num, by go_num, hbw⟩
      case measure => simp [intOf]; omega
    · obtain rfl : k = n := by omega
      go_wp2
      go_ret
      exact ⟨rfl, hbw⟩
end Go.Proofs.Ytoebibgkpmppdaa
