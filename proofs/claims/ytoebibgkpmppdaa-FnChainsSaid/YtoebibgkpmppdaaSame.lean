/- Contract of the laws' sameInts. -/
import Derived.Test.YtoebibgkpmppdaaIntS
namespace Go.Proofs.Ytoebibgkpmppdaa
open Go.RowKit

theorem sameInts_same (A B : Option Addr) (n c1 c2 : Nat) (F G : Nat → Int) (w : World) (hn : n ≤ 1152921504606846975) (hr : Row w .i64 A n F) (hs : Row w .i64 B n G) (hFG : ∀ i, i < n → F i = G i) :
    Calls Try.prog 31 #[.slice A n c1, .slice B n c2] w fun e w' => e = .returned (.bool true) ∧ Below w.heap.size w w' := by
  have HR := Lib.hid hr
  have HS := Lib.hid hs
  have HF := Lib.hid hFG
  clear hr hs hFG
  go_enter Try.func31, Try.ntmps31
  go_wp2_with fail
  go_loopw [5] (fun i wr => ∃ k : Nat, k ≤ n ∧ i = .int .i64 k ∧ Below w.heap.size w wr) (fun i _ => n - (intOf i).toNat)
  case atStart => exact ⟨0, Nat.zero_le _, rfl, Below.refl _ _⟩
  case round =>
    obtain ⟨k, hk, rfl, hbw⟩ := hrel
    by_cases hlt : k < n
    · obtain ⟨b, off, rfl, hb, hck⟩ := HR.out.hid hlt
      obtain ⟨b', off', rfl, hb', hck'⟩ := HS.out.hid hlt
      have h1 : wr.cell? ⟨b, off + k, none⟩ = some (.int .i64 (F k)) := (hbw.cell (p := ⟨b, off + k, none⟩) hb).trans hck
      have h2 : wr.cell? ⟨b', off' + k, none⟩ = some (.int .i64 (F k)) := by rw [HF.out k hlt]; exact (hbw.cell (p := ⟨b', off' + k, none⟩) hb').trans hck'
      have hki : (k : Int) < (n : Int) := by omega
      have hk0 : (0 : Int) ≤ (k : Int) := by omega
      clear hck hck' hb hb'
      go_wp2_with fail
      go_quiet (fail)
      go_wp2
      go_roundw
      case rel => exact ⟨k + 1, by omega, by go_num, below_drewN hbw _⟩
      case measure => simp [intOf]; omega
    · obtain rfl : k = n := by omega
      go_wp2
      go_ret
      exact ⟨rfl, hbw⟩
end Go.Proofs.Ytoebibgkpmppdaa
