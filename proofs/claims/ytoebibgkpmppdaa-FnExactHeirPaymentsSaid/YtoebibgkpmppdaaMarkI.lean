/- Contract of the laws' marks over numbers. -/
import Derived.Test.YtoebibgkpmppdaaIntS
namespace Go.Proofs.Ytoebibgkpmppdaa
open Go.RowKit

theorem markIntS_any (base : Nat) (v : Value) (n : Nat) (xs : List Value) (q : Int) (w : World) (hn : n ≤ 1048576) (q0 : 0 ≤ q) (q1 : q ≤ 1000000000) (hown : w.ownsRow base 3 1 v n xs) :
    Calls Try.prog 20 #[v, .int .i64 q] w fun e w' => e = .returned (.int .i64 (q + n)) ∧ w'.ownsRow base 3 1 v n (ints (fun i => q + i) n) ∧ w.grownBy w' v.ownBlock := by
  rcases hown.2 with ⟨rfl, rfl⟩ | ⟨g, cap, cur, rfl, hg, hh, hnc, hcm, hcs, _⟩
  · clear hown
    go_enter Try.func20, Try.ntmps20
    go_wp2_with fail
    refine wp_loop_rounds 1 ?_
    rw [rounds_succ]
    go_wp2
    go_ret
    exact ⟨ret_int (by simp), World.ownsRow_nil _ _ _ _, grown_refl _ _⟩
  · have hx : Box w g 3 cur := hh
    have hcs' : n ≤ cur.size := by rw [hcs]; omega
    have HS := Lib.hid hcs
    clear hown hh hcs
    go_enter Try.func20, Try.ntmps20
    go_wp2_with fail
    go_loopw [1, 5] (fun x i wr => ∃ (k : Nat) (cs : Array Value), k ≤ n ∧ i = .int .i64 k ∧ x = .int .i64 (q + k) ∧ w.grownBy wr (some g) ∧ Box wr g 3 cs ∧ Hid (cs.size = cur.size) ∧ Hid (∀ j, j < k → cs[j]? = some (.int .i64 (q + j)))) (fun _ i _ => n - (intOf i).toNat)
    case atStart => exact ⟨0, cur, Nat.zero_le _, rfl, by simp, grown_refl _ _, hx, rfl, fun j hj => by omega⟩
    case round =>
      obtain ⟨k, cs, hk, rfl, rfl, hgw, y1, hcz, hF⟩ := hrel
      by_cases hlt : k < n
      · obtain ⟨old, hold'⟩ : ∃ old, wr.cell? ⟨g, k, none⟩ = some old := ⟨cs[k]'(by rw [hcz.out]; omega), by rw [y1.cell k]; rw [Array.getElem?_eq_getElem]⟩
        have hfz := y1.frozen k
        go_wp2
        go_roundw
        case rel => exact ⟨k + 1, cs.setIfInBounds k (.int .i64 (q + k)), by omega, by go_num, by go_num, grown_set hgw _ _, y1.put k _, by have := hcz.out; simpa [Hid] using this, fun j hj => by
          have := hcz.out
          rcases Nat.lt_or_ge j k with h | h
          · rw [Array.getElem?_setIfInBounds_ne (by omega)]; exact hF.out j h
          · obtain rfl : j = k := by omega
            rw [Array.getElem?_setIfInBounds_self_of_lt (by omega)]⟩
        case measure => simp [intOf]; omega
      · obtain rfl : k = n := by omega
        go_wp2
        go_ret
        refine ⟨rfl, ⟨by simp [ints_length], .inr ⟨g, cap, cs, rfl, hg, y1, hnc, hcm, by rw [hcz.out, HS.out], ?_⟩⟩, hgw⟩
        have := hcz.out
        apply List.ext_getElem?
        intro i
        by_cases hi : i < k
        · rw [ints_get _ hi, Nat.mul_one, List.getElem?_take_of_lt hi]
          simpa using hF.out i hi
        · rw [List.getElem?_eq_none (by simp; omega), List.getElem?_eq_none (by simp [ints_length]; omega)]
end Go.Proofs.Ytoebibgkpmppdaa
